/- Walk: a box is examined. How pixels are counted; what holds of the memory meanwhile. -/
import Derived.Deep.RegionHeld3
import Derived.LoopTactic
import Derived.Test.YtfajckkbinbpiaaGreatDoorJ32
namespace Go.Proofs.YtfajckkbinbpiaaGreatDoor
set_option maxRecDepth 100000
set_option maxHeartbeats 32000000
set_option linter.unusedVariables false
set_option linter.unusedSimpArgs false
open Go.RowKit
def qx (a b c d X Y : Int) : Nat → Geo.Bx
  | 0 => ⟨a, b, X, Y⟩
  | 1 => ⟨X, b, c, Y⟩
  | 2 => ⟨a, Y, X, d⟩
  | _ => ⟨X, Y, c, d⟩
theorem qx_idx (a b c d X Y : Int) (k : Nat) (hk : k < 4) (w : World) : (Instr.index 227 (.agg #[.int .i64 a, .int .i64 b, .int .i64 X, .int .i64 Y, .int .i64 X, .int .i64 b, .int .i64 c, .int .i64 Y, .int .i64 a, .int .i64 Y, .int .i64 X, .int .i64 d, .int .i64 X, .int .i64 Y, .int .i64 c, .int .i64 d]) (.int .i64 (k : Int))).run Tryz.prog w = .ok (.agg (bxC (qx a b c d X Y k))) w := by
  rcases (show k = 0 ∨ k = 1 ∨ k = 2 ∨ k = 3 by omega) with rfl | rfl | rfl | rfl <;> kernel_rfl
theorem qx_list {a b c d X Y : Int} (eX : a + (c - a) / 2 = X) (eY : b + (d - b) / 2 = Y) : Geo.quarters ⟨a, b, c, d⟩ = [qx a b c d X Y 0, qx a b c d X Y 1, qx a b c d X Y 2, qx a b c d X Y 3] := by
  subst eX eY; rfl
theorem qx_drop {a b c d X Y : Int} (k : Nat) (hk : k < 4) : [qx a b c d X Y 0, qx a b c d X Y 1, qx a b c d X Y 2, qx a b c d X Y 3].drop k = qx a b c d X Y k :: [qx a b c d X Y 0, qx a b c d X Y 1, qx a b c d X Y 2, qx a b c d X Y 3].drop (k + 1) := by
  rcases (show k = 0 ∨ k = 1 ∨ k = 2 ∨ k = 3 by omega) with rfl | rfl | rfl | rfl <;> rfl
theorem qx_is {a b c d X Y p q : Int} (hx : c - a = 2 * p) (hy : d - b = 2 * q) (eX : a + (c - a) / 2 = X) (eY : b + (d - b) / 2 = Y) (hp : 1 ≤ p) (hq : 1 ≤ q) (k : Nat) :
    (a ≤ (qx a b c d X Y k).x0 ∧ (qx a b c d X Y k).x1 ≤ c) ∧ (b ≤ (qx a b c d X Y k).y0 ∧ (qx a b c d X Y k).y1 ≤ d) ∧ (qx a b c d X Y k).x1 - (qx a b c d X Y k).x0 = p ∧ (qx a b c d X Y k).y1 - (qx a b c d X Y k).y0 = q := by
  unfold qx
  split <;> simp only [] <;> omega
theorem exam_succ (most : Int) (M n : Nat) (hn : n ≤ 2) (ih : ExamIs most M n) : ExamIs most M (n + 1) := by
  have IH := Lib.hid ih
  clear ih
  intro xs v1 v2 a b c d P Q k0 w hG hx hM h0 h1 a_0 c_1 b_0 d_1 hP hQ P1 Q1
  obtain ⟨p1, cap1, rfl⟩ := hG.1.1.len
  obtain ⟨p2, cap2, rfl⟩ := hG.2.len
  rw [List.length_map] at hG ⊢
  have lM := hM.lt
  have hp2 : (0 : Int) < 2 ^ (n + 1) := Int.pow_pos (by decide)
  have ac : a < c := by
    have := Int.mul_pos (show 0 < P by omega) hp2
    omega
  have bd : b < d := by
    have := Int.mul_pos (show 0 < Q by omega) hp2
    omega
  have en1 : ((n + 1 : Nat) : Int) = (n : Int) + 1 := by omega
  rw [en1]
  clear en1
  have n1 := fun v w h => pileClass_c [M] v (xs.map Ent2.obj) a b c d w a_0 (by omega) b_0 (by omega) (by omega) c_1 (by omega) d_1 (by omega) (by omega) h (fun o ho => by
    obtain ⟨e, he, rfl⟩ := List.mem_map.1 ho
    exact hx.2.2 e he) (by rw [List.length_map]; exact hx.1)
  rw [pc_obj] at n1
  obtain ⟨K, eK⟩ : ∃ K, Geo.pc (xs.map (·.1)) ⟨a, b, c, d⟩ = K := ⟨_, rfl⟩
  have hK : K = 0 ∨ K = 1 ∨ K = 2 := by rw [← eK]; exact Geo.pcls_range _ _
  rw [eK] at n1
  have C1 := Lib.hid n1
  have C2 := Lib.hid (meterTake_g M most k0)
  have HG := Lib.hid hG
  have HM := Lib.hid hM
  have HX := Lib.hid hx
  have EK := Lib.hid eK
  have HPQ := Lib.hid (And.intro hP hQ)
  have hna := hG.1.1
  clear n1 hG hM hx eK hP hQ hp2 hna
  go_enter Tryz.func75, Tryz.ntmps75
  go_wp2_with fail
  obtain ⟨u0, eu⟩ : ∃ u, ((w.alloc (.cells #[.slice p1 xs.length cap1, .slice p2 xs.length cap2] 169)).alloc (.cells #[.int .i64 a, .int .i64 b, .int .i64 c, .int .i64 d] 70)).alloc (.cells #[.int .i64 0, .int .i64 0] 75) = u := ⟨_, rfl⟩
  have B0 : Below w.heap.size w u0 := by rw [← eu]; exact blw
  have kG : Blk u0 w.heap.size 169 #[.slice p1 xs.length cap1, .slice p2 xs.length cap2] := by rw [← eu]; exact bkw
  have kB : Blk u0 (w.heap.size + 1) 70 #[.int .i64 a, .int .i64 b, .int .i64 c, .int .i64 d] := by rw [← eu]; exact bkw
  have kC : Blk u0 (w.heap.size + 1 + 1) 75 #[.int .i64 0, .int .i64 0] := by rw [← eu]; exact bkw
  have kM := HM.out.below B0 lM
  have b0s := B0.size
  rw [eu]
  clear eu
  refine (C2.out u0 h0 (by omega) kM).mono ?_
  rintro e w1 ⟨rfl, kM1, O1⟩
  have jG := O1.blk kG (by simp; omega)
  have jB := O1.blk kB (by simp; omega)
  have jC := O1.blk kC (by simp; omega)
  have jO := (HG.out.below B0 (Nat.le_refl _)).only O1
  have OO := (Only.of_below B0 (Nat.le_refl _) [M]).trans O1
  have l1 := OO.size
  have cG := jG.cell
  have lG := jG.lt
  have cB := jB.cell
  have lB := jB.lt
  have cC := jC.cell
  have fC := jC.frozen
  have lC := jC.lt
  have JM := Lib.hid kM1
  have JG := Lib.hid jG
  have JB := Lib.hid jB
  have JC := Lib.hid jC
  have JO := Lib.hid jO
  have OW := Lib.hid OO
  have hMC : M ≠ w.heap.size + 1 + 1 := by omega
  clear kG kB kC kM kM1 O1 jG jB jC jO B0 OO
  rcases Int.lt_or_le most (k0 + 1) with ht | ht
  · have dt : decide (k0 + 1 ≤ most) = false := by simp; omega
    go_wp2_with fail
    refine bodyPost_ret (results_row_tmp Tryz.results75 _ _ (w.heap.size + 1 + 1) #[.int .i64 0, .int .i64 0] (by rfl) (run_loadVar_row _ _ 75 75 _ (0, 0) _ ?_ Tryz.underlying75 rfl (by kernel_rfl))) rfl ⟨none, k0 + 1, ?_, rfl, ?_, ?_⟩
    · exact (JC.out.set_ 0 _ rfl).set_ 1 _ rfl
    · unfold Geo.exam; rw [if_pos ht]
    · exact (JM.out.far (by simpa using hMC) _).far (by simpa using hMC) _
    · exact (OW.out.setCell (p := ⟨w.heap.size + 1 + 1, 0, none⟩) (.inr (by simp; omega)) _).setCell (p := ⟨w.heap.size + 1 + 1, 1, none⟩) (.inr (by simp; omega)) _
  · have dt : decide (k0 + 1 ≤ most) = true := by simp; omega
    clear cC fC lC
    go_wp2_with fail
    refine (C1.out _ w1 JO.out.1).mono ?_
    rintro e w2 ⟨rfl, hb⟩
    have iC := JC.out.below hb JC.out.lt
    have iM := JM.out.below hb JM.out.lt
    have iG := JG.out.below hb JG.out.lt
    have iB := JB.out.below hb JB.out.lt
    have iO := JO.out.below hb (Nat.le_refl _)
    have OP := OW.out.below hb l1
    have l2 := OP.size
    have cC := iC.cell
    have fC := iC.frozen
    have lC := iC.lt
    have cG2 := iG.cell
    have lG2 := iG.lt
    have cB2 := iB.cell
    have lB2 := iB.lt
    have IC := Lib.hid iC
    have IM := Lib.hid iM
    have IG := Lib.hid iG
    have IB := Lib.hid iB
    have IO := Lib.hid iO
    have OQ := Lib.hid OP
    clear hb iC iM iG iB iO OP cG lG cB lB
    rcases hK with rfl | rfl | rfl
    · go_wp2_with fail
      refine bodyPost_ret (results_row_tmp Tryz.results75 _ _ (w.heap.size + 1 + 1) #[.int .i64 0, .int .i64 0] (by rfl) (run_loadVar_row _ _ 75 75 _ (0, 0) _ ?_ Tryz.underlying75 rfl (by kernel_rfl))) rfl ⟨some (0, 0), k0 + 1, ?_, rfl, ?_, ?_⟩
      · exact (IC.out.set_ 0 _ rfl).set_ 1 _ rfl
      · unfold Geo.exam; rw [if_neg (by omega), if_pos EK.out]
      · exact (IM.out.far (by simpa using hMC) _).far (by simpa using hMC) _
      · exact (OQ.out.setCell (p := ⟨w.heap.size + 1 + 1, 0, none⟩) (.inr (by simp; omega)) _).setCell (p := ⟨w.heap.size + 1 + 1, 1, none⟩) (.inr (by simp; omega)) _
    · have dn : (((n : Int) + 1) == 0) = false := by simp; omega
      obtain ⟨X, eX⟩ : ∃ X, a + (c - a) / 2 = X := ⟨_, rfl⟩
      obtain ⟨Y, eY⟩ : ∃ X, b + (d - b) / 2 = X := ⟨_, rfl⟩
      obtain ⟨hP, hQ⟩ := HPQ.out
      have hp2 : (0 : Int) < 2 ^ n := Int.pow_pos (by decide)
      obtain ⟨hp, ehp⟩ : ∃ h, P * 2 ^ n = h := ⟨_, rfl⟩
      obtain ⟨hq, ehq⟩ : ∃ h, Q * 2 ^ n = h := ⟨_, rfl⟩
      have hp1 : 1 ≤ hp := by rw [← ehp]; have := Int.mul_pos (show 0 < P by omega) hp2; omega
      have hq1 : 1 ≤ hq := by rw [← ehq]; have := Int.mul_pos (show 0 < Q by omega) hp2; omega
      have hx2 : c - a = 2 * hp := by rw [hP, ← ehp, Int.pow_succ]; rw [← Int.mul_assoc]; omega
      have hy2 : d - b = 2 * hq := by rw [hQ, ← ehq, Int.pow_succ]; rw [← Int.mul_assoc]; omega
      have hxm : (c - a) % 2 = 0 := by omega
      have hym : (d - b) % 2 = 0 := by omega
      have hsp := fun w => split_c a b c d X Y w a_0 (by omega) b_0 (by omega) (by omega) c_1 (by omega) d_1 ac bd hxm hym eX eY
      have CS := Lib.hid hsp
      have hqi := qx_is hx2 hy2 eX eY hp1 hq1
      have hix := fun k w hk => qx_idx a b c d X Y k hk w
      have EXY := Lib.hid (And.intro eX eY)
      have HQI := Lib.hid hqi
      have HIX := Lib.hid hix
      have EHP := Lib.hid (And.intro ehp ehq)
      obtain ⟨f, ef⟩ : ∃ f : Geo.Bx → Int → Geo.Res, (fun q a => Geo.exam most n (Geo.nearTo (xs.map (·.1)) q) q a) = f := ⟨_, rfl⟩
      have hfin : Geo.exam most (n + 1) (xs.map (·.1)) ⟨a, b, c, d⟩ k0 = Geo.sums f [qx a b c d X Y 0, qx a b c d X Y 1, qx a b c d X Y 2, qx a b c d X Y 3] (0, 0) (k0 + 1) := by
        unfold Geo.exam
        rw [if_neg (by omega), if_neg (by rw [EK.out]; decide), if_neg (by rw [EK.out]; decide), qx_list eX eY, ef]
      have EF := Lib.hid ef
      have HF := Lib.hid hfin
      clear hsp hqi hix eX eY hP hQ hp2 ehp ehq hx2 hy2 hxm hym hfin ef
      go_wp2_with fail
      obtain ⟨x2, ex2⟩ : ∃ x, w2.alloc (.cells #[.int .i64 0, .int .i64 0] 75) = x := ⟨_, rfl⟩
      have kB2 : Blk x2 w2.heap.size 75 #[.int .i64 0, .int .i64 0] := by rw [← ex2]; exact Blk.new _ _ _
      have I0 : EInv w w.heap.size M w2.heap.size (.slice p1 xs.length cap1) (.slice p2 xs.length cap2) xs most (k0 + 1) 0 0 x2 := by
        rw [← ex2]
        exact ⟨IG.out.alloc _, IC.out.alloc _, Blk.new _ _ _, IM.out.alloc _, IO.out.alloc _, OQ.out.alloc _⟩
      rw [ex2]
      refine (CS.out _).mono ?_
      rintro e w3 ⟨rfl, hb⟩
      have I1 := I0.below hb
      have II1 := Lib.hid I1
      have hBm : M ≠ w2.heap.size := by omega
      have l3 := I1.om.size
      have lB3 : w2.heap.size < w3.heap.size := I1.kS.lt
      clear hb I0 I1 kB2 ex2 cC fC lC cG2 lG2 cB2 lB2
      go_wp2_with fail
      obtain ⟨x3, ex3⟩ : ∃ x, w3.alloc (.cells #[.int .i64 a, .int .i64 b, .int .i64 X, .int .i64 Y, .int .i64 X, .int .i64 b, .int .i64 c, .int .i64 Y, .int .i64 a, .int .i64 Y, .int .i64 X, .int .i64 d, .int .i64 X, .int .i64 Y, .int .i64 c, .int .i64 d] 227) = x := ⟨_, rfl⟩
      have I2 : EInv w w.heap.size M w2.heap.size (.slice p1 xs.length cap1) (.slice p2 xs.length cap2) xs most (k0 + 1) 0 0 x3 := by rw [← ex3]; exact II1.out.alloc _
      have II2 := Lib.hid I2
      rw [ex3]
      clear I2 ex3
      obtain ⟨B, eB⟩ : ∃ B, w2.heap.size = B := ⟨_, rfl⟩
      rw [eB] at II2 hBm lB3
      have hBH : w.heap.size + 1 + 1 < B := by have := IC.out.lt; omega
      simp only [eB]
      clear eB II1
      go_loopw [46] (fun i wr => ∃ k : Nat, i = .int .i64 (k : Int) ∧ k ≤ 4 ∧ ∃ lo hi ak : Int, Geo.sums f [qx a b c d X Y 0, qx a b c d X Y 1, qx a b c d X Y 2, qx a b c d X Y 3] (0, 0) (k0 + 1) = Geo.sums f ([qx a b c d X Y 0, qx a b c d X Y 1, qx a b c d X Y 2, qx a b c d X Y 3].drop k) (lo, hi) ak ∧ 0 ≤ lo ∧ lo ≤ hi ∧ hi ≤ 4096 * (k : Int) ∧ k0 + 1 ≤ ak ∧ ak ≤ k0 + 1 + 6000 * (k : Int) ∧ EInv w w.heap.size M B (.slice p1 xs.length cap1) (.slice p2 xs.length cap2) xs most ak lo hi wr) (fun i wr => 4 - (intOf i).toNat)
      case atStart => exact ⟨0, rfl, by omega, 0, 0, k0 + 1, rfl, by omega, by omega, by omega, by omega, by omega, II2.out⟩
      case round =>
      obtain ⟨k, rfl, hk, lo, hi, ak, hsum, hlo, hlh, hhi, hak, hak2, I⟩ := hrel
      by_cases hlt : k < 4
      · have ix := HIX.out k
        obtain ⟨⟨g1, g2⟩, ⟨g3, g4⟩, g5, g6⟩ := HQI.out k
        rw [qx_drop k hlt] at hsum
        obtain ⟨q, eq⟩ : ∃ q, qx a b c d X Y k = q := ⟨_, rfl⟩
        rw [eq] at hsum g1 g2 g3 g4 g5 g6
        have ix' : ∀ w, (Instr.index 227 (.agg #[.int .i64 a, .int .i64 b, .int .i64 X, .int .i64 Y, .int .i64 X, .int .i64 b, .int .i64 c, .int .i64 Y, .int .i64 a, .int .i64 Y, .int .i64 X, .int .i64 d, .int .i64 X, .int .i64 Y, .int .i64 c, .int .i64 d]) (.int .i64 (k : Int))).run Tryz.prog w = .ok (.agg (bxC q)) w := by rw [← eq]; exact fun w => ix w hlt
        obtain ⟨q0, q1, q2, q3⟩ := q
        simp only [] at g1 g2 g3 g4 g5 g6
        unfold bxC at ix'
        simp only [] at ix'
        obtain ⟨r, k1, er⟩ : ∃ r k1, f ⟨q0, q1, q2, q3⟩ ak = (r, k1) := ⟨_, _, rfl⟩
        have er2 : Geo.exam most n (Geo.nearTo (xs.map (·.1)) ⟨q0, q1, q2, q3⟩) ⟨q0, q1, q2, q3⟩ ak = (r, k1) := by rw [← EF.out] at er; exact er
        obtain ⟨t1, t2, t3⟩ := exam_range most n _ _ _ _ _ er2
        have hst := steps_le n (by omega)
        have hfl := four_le n (by omega)
        have hk1 : ak + 1 ≤ k1 ∧ k1 ≤ ak + 5461 := ⟨t1, by omega⟩
        have hca : ∀ cc, r = some cc → 0 ≤ cc.1 ∧ cc.1 ≤ cc.2 ∧ cc.2 ≤ 4096 := fun cc hc => by have := t3 cc hc; omega
        obtain ⟨rl, rh, ecv⟩ : ∃ x y, covA r = #[.int .i64 x, .int .i64 y] := by
          cases r with
          | none => exact ⟨_, _, rfl⟩
          | some c => exact ⟨_, _, rfl⟩
        obtain ⟨ee, eee⟩ : ∃ x, covE r = x := ⟨_, rfl⟩
        have hex := fun v1 v2 w (hg : GroupAt [M] w v1 v2 (near2 xs ⟨q0, q1, q2, q3⟩)) (hm : Blk w M 133 #[.int .i64 most, .int .i64 ak]) => IH.out (near2 xs ⟨q0, q1, q2, q3⟩) v1 v2 q0 q1 q2 q3 P Q ak w hg (HX.out.near _) hm (by omega) (by omega) (by omega) (by omega) (by omega) (by omega) (by rw [EHP.out.1]; exact g5) (by rw [EHP.out.2]; exact g6) P1 Q1
        have hex2 : ∀ v1 v2 w, GroupAt [M] w v1 v2 (near2 xs ⟨q0, q1, q2, q3⟩) → Blk w M 133 #[.int .i64 most, .int .i64 ak] → Calls Tryz.prog 75 #[.agg #[v1, v2], .agg #[.int .i64 q0, .int .i64 q1, .int .i64 q2, .int .i64 q3], .int .i64 (n : Int), .pointer (some ⟨M, 0, none⟩)] w fun en w' => en = .returned (.tuple #[.agg #[.int .i64 rl, .int .i64 rh], .int .i64 ee]) ∧ Blk w' M 133 #[.int .i64 most, .int .i64 k1] ∧ Only [M] w w' := fun v1 v2 w hg hm => (hex v1 v2 w hg hm).mono (by
          rintro en w' ⟨r', k1', e1, e2, e3, e4⟩
          rw [near2_map, er2] at e1
          simp only [Prod.mk.injEq] at e1
          obtain ⟨rfl, rfl⟩ := e1
          rw [ecv, eee] at e2
          exact ⟨e2, e3, e4⟩)
        have hnr := fun v1 v2 w hg hS => gnear_c [M] v1 v2 xs q0 q1 q2 q3 w (by omega) (by omega) (by omega) (by omega) (by omega) (by omega) (by omega) (by omega) (by omega) (by omega) hg hS HX.out.1 HX.out.2.1
        have CN := Lib.hid hnr
        have CX := Lib.hid hex2
        have ER := Lib.hid (And.intro er (And.intro ecv eee))
        have HSUM := Lib.hid hsum
        have HCA := Lib.hid hca
        have IV := Lib.hid I
        have lwr := I.om.size
        have lMr : M < wr.heap.size := I.kM.lt
        clear ix eq er er2 t1 t2 t3 hst hfl hca hex hex2 hnr hsum I ecv eee g1 g2 g3 g4 g5 g6
        go_wp2_with fail
        obtain ⟨v, ev⟩ : ∃ v, wr.alloc (.cells #[.int .i64 q0, .int .i64 q1, .int .i64 q2, .int .i64 q3] 70) = v := ⟨_, rfl⟩
        have Iv : EInv w w.heap.size M B (.slice p1 xs.length cap1) (.slice p2 xs.length cap2) xs most ak lo hi v := by rw [← ev]; exact IV.out.alloc _
        have kb : Blk v wr.heap.size 70 #[.int .i64 q0, .int .i64 q1, .int .i64 q2, .int .i64 q3] := by rw [← ev]; exact Blk.new _ _ _
        have lv : wr.heap.size < v.heap.size := kb.lt
        have hnM : wr.heap.size ≠ M := by omega
        have hKS : ∀ w', Only [M] v w' → (w'.cell? ⟨w.heap.size, 0, none⟩ = some (.slice p1 xs.length cap1) ∧ w'.cell? ⟨w.heap.size, 1, none⟩ = some (.slice p2 xs.length cap2) ∧ w'.cell? ⟨wr.heap.size, 0, none⟩ = some (.int .i64 q0) ∧ w'.cell? ⟨wr.heap.size, 1, none⟩ = some (.int .i64 q1) ∧ w'.cell? ⟨wr.heap.size, 2, none⟩ = some (.int .i64 q2) ∧ w'.cell? ⟨wr.heap.size, 3, none⟩ = some (.int .i64 q3) ∧ Only [M] v w') := fun w' o => by
          have q1 := o.blk Iv.kG (by simpa using Iv.kG.ne_ Iv.kM (by decide))
          have q2 := o.blk kb (by simpa using hnM)
          exact ⟨q1.cell 0, q1.cell 1, q2.cell 0, q2.cell 1, q2.cell 2, q2.cell 3, o⟩
        rw [ev]
        have hlM : ∀ z : World, v.heap.size ≤ z.heap.size → ∀ b ∈ [M], b < z.heap.size := fun z hz b hb => by simp at hb; subst hb; omega
        have IVV := Lib.hid Iv
        have HLM := Lib.hid hlM
        have wn : IntKind.i64.wrap (n : Int) = (n : Int) := IntWalk.i64_in _ (by omega)
        clear ev Iv kb IV hlM
        go_cut [16, 17] (fun pA eE wx => ∃ A, pA = .pointer (some ⟨A, 0, none⟩) ∧ eE = .int .i64 ee ∧ Blk wx A 75 #[.int .i64 rl, .int .i64 rh] ∧ Only [M] v wx ∧ Blk wx M 133 #[.int .i64 most, .int .i64 k1] ∧ v.heap.size ≤ A)
        case first =>
          go_region_held3 (fun w' => w'.cell? ⟨w.heap.size, 0, none⟩ = some (.slice p1 xs.length cap1) ∧ w'.cell? ⟨w.heap.size, 1, none⟩ = some (.slice p2 xs.length cap2) ∧ w'.cell? ⟨wr.heap.size, 0, none⟩ = some (.int .i64 q0) ∧ w'.cell? ⟨wr.heap.size, 1, none⟩ = some (.int .i64 q1) ∧ w'.cell? ⟨wr.heap.size, 2, none⟩ = some (.int .i64 q2) ∧ w'.cell? ⟨wr.heap.size, 3, none⟩ = some (.int .i64 q3) ∧ Only [M] v w')
            (exact hKS _ (by exact onw))
            (first | (go_at_call 74; (with_reducible refine (CN.out _ _ _ (by first | exact IVV.out.gr.drew | exact (IVV.out.gr.alloc _).drew) (HLM.out _ (by first | (simp; done) | (simp; omega)))).mono ?_); rintro e zN ⟨t1, t2, rfl, ht1, hb⟩; have mN : Blk zN M 133 #[.int .i64 most, .int .i64 ak] := (by first | exact IVV.out.drew.kM.below hb (by first | (simp; done) | (have := IVV.out.kM.lt; simp; omega)) | exact (IVV.out.alloc _).drew.kM.below hb (by first | (simp; done) | (have := IVV.out.kM.lt; simp; omega))); (try have kA := Lib.hid (Blk.below (show Blk (v.alloc (.cells #[.int .i64 0, .int .i64 0] 75)).drew v.heap.size 75 #[.int .i64 0, .int .i64 0] from (Blk.newAt rfl).drew) hb (by simp))); have TN := Lib.hid ht1; have MN := Lib.hid mN; have onN : Only [M] v zN := (by first | exact (Only.refl _ _).drew.below hb (Nat.le_refl _) | exact (((Only.refl _ _).alloc _).drew).below hb (by simp)); have sN := onN.size; clear hb ht1 mN) | (go_at_call 75; (with_reducible refine (CX.out _ _ _ (by first | exact TN.out | exact TN.out.alloc _) (by first | exact MN.out | exact MN.out.alloc _)).mono ?_); rintro e zX ⟨rfl, hk9, ho⟩; (try have cA := ho.blk kA.out (by simpa using kA.out.ne_ MN.out (by decide))); (try have cA := ho.blk (show Blk (zN.alloc (.cells #[.int .i64 0, .int .i64 0] 75)) zN.heap.size 75 #[.int .i64 0, .int .i64 0] from Blk.newAt rfl) (by have := MN.out.lt; simp; omega)); (try have fA := cA.cell); (try have fB := cA.frozen); (try have fC := cA.lt); have KX := Lib.hid hk9; have onX : Only [M] v zX := (by first | exact onN.trans ho | exact (onN.alloc _).trans ho); have sX := onX.size; clear hk9 ho))
          all_goals
            have hlM := KX.out.lt
            have hMM : M < v.heap.size := IVV.out.kM.lt
            go_wp2_with fail
            go_meet
            first
            | exact ⟨zX.heap.size, rfl, rfl, Blk.newAt rfl, onX.alloc _, KX.out.alloc _, sX⟩
            | exact ⟨zN.heap.size, rfl, rfl, (cA.set_ 0 _ rfl).set_ 1 _ rfl, (onX.setCell (p := ⟨zN.heap.size, 0, none⟩) (.inr (by simp; omega)) _).setCell (p := ⟨zN.heap.size, 1, none⟩) (.inr (by simp; omega)) _, (KX.out.far (by simp; omega) _).far (by simp; omega) _, sN⟩
            | exact ⟨v.heap.size, rfl, rfl, (cA.set_ 0 _ rfl).set_ 1 _ rfl, (onX.setCell (p := ⟨v.heap.size, 0, none⟩) (.inr (by simp)) _).setCell (p := ⟨v.heap.size, 1, none⟩) (.inr (by simp)) _, (KX.out.far (by simp; omega) _).far (by simp; omega) _, Nat.le_refl _⟩
        case rest =>
        obtain ⟨A, rfl, rfl, kA, oA, mA, hA⟩ := hcut
        have Ic := IVV.out.meter oA mA
        have cA := kA.cell
        have lA := kA.lt
        have hAB : ¬ A = B := by have := IVV.out.kS.lt; omega
        have hH : ¬ w.heap.size = B := by omega
        have hH2 : ¬ w.heap.size + 1 + 1 = B := by omega
        have hMB : ¬ M = B := by have := IVV.out.kM.lt; omega
        clear hKS HLM oA mA kA
        cases r with
        | none =>
          obtain ⟨er, ecv, eee⟩ := ER.out
          simp only [covE] at eee
          subst eee
          have hres : Geo.exam most (n + 1) (xs.map (·.1)) ⟨a, b, c, d⟩ k0 = (none, k1) := by
            rw [HF.out, HSUM.out, Geo.sums, er]
          have HRES := Lib.hid hres
          have cZ := Ic.kZ.cell
          have fZ := Ic.kZ.frozen
          have lZ := Ic.kZ.lt
          have IC2 := Lib.hid Ic
          clear Ic hres er ecv
          go_wp2_with fail
          refine bodyPost_ret (results_row_tmp Tryz.results75 _ _ (w.heap.size + 1 + 1) #[.int .i64 0, .int .i64 0] (by rfl) (run_loadVar_row _ _ 75 75 _ (0, 0) _ ?_ Tryz.underlying75 rfl (by kernel_rfl))) rfl ⟨none, k1, HRES.out, rfl, ?_, ?_⟩
          · exact (IC2.out.kZ.set_ 0 _ rfl).set_ 1 _ rfl
          · exact (IC2.out.kM.far (by simpa using hMC) _).far (by simpa using hMC) _
          · exact (IC2.out.om.setCell (p := ⟨w.heap.size + 1 + 1, 0, none⟩) (.inr (by simp; omega)) _).setCell (p := ⟨w.heap.size + 1 + 1, 1, none⟩) (.inr (by simp; omega)) _
        | some cc =>
          obtain ⟨er, ecv, eee⟩ := ER.out
          simp only [covE] at eee
          subst eee
          obtain ⟨c1, c2⟩ := cc
          simp only [covA] at ecv
          obtain ⟨rfl, rfl⟩ : c1 = rl ∧ c2 = rh := by
            have e1 := congrArg (fun z : Array Value => z[0]?) ecv
            have e2 := congrArg (fun z : Array Value => z[1]?) ecv
            simp at e1 e2
            exact ⟨e1, e2⟩
          have hs2 : Geo.sums f [qx a b c d X Y 0, qx a b c d X Y 1, qx a b c d X Y 2, qx a b c d X Y 3] (0, 0) (k0 + 1) = Geo.sums f ([qx a b c d X Y 0, qx a b c d X Y 1, qx a b c d X Y 2, qx a b c d X Y 3].drop (k + 1)) (lo + c1, hi + c2) k1 := by
            rw [HSUM.out, Geo.sums, er]
          obtain ⟨cb1, cb2, cb3⟩ := HCA.out _ rfl
          simp only [] at cb1 cb2 cb3
          have HS2 := Lib.hid hs2
          have cS := Ic.kS.cell
          have fS := Ic.kS.frozen
          have lS := Ic.kS.lt
          have IC2 := Lib.hid Ic
          clear Ic hs2 er ecv
          go_wp2_with fail
          obtain ⟨y, ey⟩ : ∃ y, (wc.setCell ⟨B, 0, none⟩ (.int .i64 (lo + c1))).setCell ⟨B, 1, none⟩ (.int .i64 (hi + c2)) = y := ⟨_, rfl⟩
          have omY : Only [M] w y := by rw [← ey]; exact (IC2.out.om.setCell (p := ⟨B, 0, none⟩) (.inr (by simp; omega)) _).setCell (p := ⟨B, 1, none⟩) (.inr (by simp; omega)) _
          have Iy : EInv w w.heap.size M B (.slice p1 xs.length cap1) (.slice p2 xs.length cap2) xs most k1 (lo + c1) (hi + c2) y := by
            refine ⟨?_, ?_, ?_, ?_, HG.out.only omY, omY⟩
            · rw [← ey]; exact (IC2.out.kG.far (by simpa using hH) _).far (by simpa using hH) _
            · rw [← ey]; exact (IC2.out.kZ.far (by simpa using hH2) _).far (by simpa using hH2) _
            · rw [← ey]; exact (IC2.out.kS.set_ 0 _ rfl).set_ 1 _ rfl
            · rw [← ey]; exact (IC2.out.kM.far (by simpa using hMB) _).far (by simpa using hMB) _
          have IY := Lib.hid Iy
          rw [ey]
          clear ey omY Iy
          go_roundw
          case rel =>
            have hr2 : ∃ k' : Nat, Value.int .i64 ((k : Int) + 1) = .int .i64 (k' : Int) ∧ k' ≤ 4 ∧ ∃ lo hi ak : Int, Geo.sums f [qx a b c d X Y 0, qx a b c d X Y 1, qx a b c d X Y 2, qx a b c d X Y 3] (0, 0) (k0 + 1) = Geo.sums f ([qx a b c d X Y 0, qx a b c d X Y 1, qx a b c d X Y 2, qx a b c d X Y 3].drop k') (lo, hi) ak ∧ 0 ≤ lo ∧ lo ≤ hi ∧ hi ≤ 4096 * (k' : Int) ∧ k0 + 1 ≤ ak ∧ ak ≤ k0 + 1 + 6000 * (k' : Int) ∧ EInv w w.heap.size M B (.slice p1 xs.length cap1) (.slice p2 xs.length cap2) xs most ak lo hi y := ⟨k + 1, by go_num, by omega, lo + c1, hi + c2, k1, HS2.out, by omega, by omega, by omega, by omega, by omega, IY.out⟩
            first | exact hr2 | ((repeat apply Exists.intro); exact ⟨hr2, rfl⟩)
          case measure => simp [intOf]; omega
      · obtain rfl : k = 4 := by omega
        have hres : Geo.exam most (n + 1) (xs.map (·.1)) ⟨a, b, c, d⟩ k0 = (some (lo, hi), ak) := by
          rw [HF.out, hsum]; rfl
        have HRES := Lib.hid hres
        have cS := I.kS.cell
        have lS := I.kS.lt
        have cZ := I.kZ.cell
        have fZ := I.kZ.frozen
        have lZ := I.kZ.lt
        have hH2 : ¬ w.heap.size + 1 + 1 = B := by omega
        have IC2 := Lib.hid I
        clear I hres hsum
        go_wp2_with fail
        refine bodyPost_ret (results_row_tmp Tryz.results75 _ _ (w.heap.size + 1 + 1) #[.int .i64 lo, .int .i64 hi] (by rfl) (run_loadVar_row _ _ 75 75 _ (0, 0) _ ?_ Tryz.underlying75 rfl (by kernel_rfl))) rfl ⟨some (lo, hi), ak, HRES.out, rfl, ?_, ?_⟩
        · exact (IC2.out.kZ.set_ 0 _ rfl).set_ 1 _ rfl
        · exact (IC2.out.kM.far (by simpa using hMC) _).far (by simpa using hMC) _
        · exact (IC2.out.om.setCell (p := ⟨w.heap.size + 1 + 1, 0, none⟩) (.inr (by simp; omega)) _).setCell (p := ⟨w.heap.size + 1 + 1, 1, none⟩) (.inr (by simp; omega)) _
    · rcases (show n = 0 ∨ n = 1 ∨ n = 2 by omega) with rfl | rfl | rfl
      · go_wp2_with fail
        refine bodyPost_ret (results_row_tmp Tryz.results75 _ _ (w.heap.size + 1 + 1) #[.int .i64 4, .int .i64 4] (by rfl) (run_loadVar_row _ _ 75 75 _ (0, 0) _ ?_ Tryz.underlying75 rfl (by kernel_rfl))) rfl ⟨some (4, 4), k0 + 1, ?_, rfl, ?_, ?_⟩
        · exact (IC.out.set_ 0 _ rfl).set_ 1 _ rfl
        · unfold Geo.exam; rw [if_neg (by omega), if_neg (by rw [EK.out]; decide), if_pos EK.out]; rfl
        · exact (IM.out.far (by simpa using hMC) _).far (by simpa using hMC) _
        · exact (OQ.out.setCell (p := ⟨w.heap.size + 1 + 1, 0, none⟩) (.inr (by simp; omega)) _).setCell (p := ⟨w.heap.size + 1 + 1, 1, none⟩) (.inr (by simp; omega)) _
      · go_wp2_with fail
        refine bodyPost_ret (results_row_tmp Tryz.results75 _ _ (w.heap.size + 1 + 1) #[.int .i64 16, .int .i64 16] (by rfl) (run_loadVar_row _ _ 75 75 _ (0, 0) _ ?_ Tryz.underlying75 rfl (by kernel_rfl))) rfl ⟨some (16, 16), k0 + 1, ?_, rfl, ?_, ?_⟩
        · exact (IC.out.set_ 0 _ rfl).set_ 1 _ rfl
        · unfold Geo.exam; rw [if_neg (by omega), if_neg (by rw [EK.out]; decide), if_pos EK.out]; rfl
        · exact (IM.out.far (by simpa using hMC) _).far (by simpa using hMC) _
        · exact (OQ.out.setCell (p := ⟨w.heap.size + 1 + 1, 0, none⟩) (.inr (by simp; omega)) _).setCell (p := ⟨w.heap.size + 1 + 1, 1, none⟩) (.inr (by simp; omega)) _
      · go_wp2_with fail
        refine bodyPost_ret (results_row_tmp Tryz.results75 _ _ (w.heap.size + 1 + 1) #[.int .i64 64, .int .i64 64] (by rfl) (run_loadVar_row _ _ 75 75 _ (0, 0) _ ?_ Tryz.underlying75 rfl (by kernel_rfl))) rfl ⟨some (64, 64), k0 + 1, ?_, rfl, ?_, ?_⟩
        · exact (IC.out.set_ 0 _ rfl).set_ 1 _ rfl
        · unfold Geo.exam; rw [if_neg (by omega), if_neg (by rw [EK.out]; decide), if_pos EK.out]; rfl
        · exact (IM.out.far (by simpa using hMC) _).far (by simpa using hMC) _
        · exact (OQ.out.setCell (p := ⟨w.heap.size + 1 + 1, 0, none⟩) (.inr (by simp; omega)) _).setCell (p := ⟨w.heap.size + 1 + 1, 1, none⟩) (.inr (by simp; omega)) _
theorem exam_any (most : Int) (M : Nat) : ∀ n, n ≤ 3 → ExamIs most M n
  | 0, _ => exam_zero most M
  | n + 1, h => exam_succ most M n (by omega) (exam_any most M n (by omega))
def rowB (X Y P W H y : Int) : Geo.Bx := ⟨(pxB X Y P H 0 y).x0, (pxB X Y P H 0 y).y0, (pxB X Y P H (W - 1) y).x1, (pxB X Y P H (W - 1) y).y1⟩
def pxsOf (X Y P : Int) (W H : Nat) : List (Geo.Bx × Geo.Bx) := (List.range (W * H)).map fun i => (rowB X Y P W H ((i / W : Nat) : Int), pxB X Y P H ((i % W : Nat) : Int) ((i / W : Nat) : Int))
def walkPx (most : Int) (n : Nat) (l : List Geo.Ent) : List (Geo.Bx × Geo.Bx) → List (Int × Int) → Int → Option (List (Int × Int)) × Int
  | [], acc, a => (some acc, a)
  | p :: ps, acc, a => match Geo.exam most n (Geo.nearTo (Geo.nearTo l p.1) p.2) p.2 a with
    | (none, a') => (none, a')
    | (some c, a') => walkPx most n l ps (acc ++ [c]) a'
theorem pxs_drop (X Y P : Int) (W H x y : Nat) (hx : x < W) (hy : y < H) : (pxsOf X Y P W H).drop (y * W + x) = (rowB X Y P W H (y : Int), pxB X Y P H (x : Int) (y : Int)) :: (pxsOf X Y P W H).drop (y * W + (x + 1)) := by
  have hlt : y * W + x < W * H := by
    have := Nat.mul_le_mul_right W (show y + 1 ≤ H by omega)
    rw [Nat.add_mul, Nat.one_mul, Nat.mul_comm H W] at this
    omega
  have e1 : (y * W + x) / W = y := by
    rw [Nat.mul_comm, Nat.mul_add_div (by omega), Nat.div_eq_of_lt hx]; omega
  have e2 : (y * W + x) % W = x := by
    rw [Nat.mul_comm, Nat.mul_add_mod, Nat.mod_eq_of_lt hx]
  have hl : y * W + x < (pxsOf X Y P W H).length := by simpa [pxsOf] using hlt
  rw [List.drop_eq_getElem_cons hl]
  congr 1
  simp only [pxsOf, List.getElem_map, List.getElem_range, e1, e2]
theorem pxs_len (X Y P : Int) (W H : Nat) : (pxsOf X Y P W H).length = W * H := by simp [pxsOf]
theorem rowB_ok {X Y P D k : Int} {W H y : Nat} (hv : VOk X Y P W H D k) (hy : y < H) : (-536870912 ≤ (rowB X Y P W H y).x0 ∧ (rowB X Y P W H y).x1 ≤ 536870912) ∧ (-536870912 ≤ (rowB X Y P W H y).y0 ∧ (rowB X Y P W H y).y1 ≤ 536870912) ∧ (rowB X Y P W H y).x0 ≤ (rowB X Y P W H y).x1 ∧ (rowB X Y P W H y).y0 ≤ (rowB X Y P W H y).y1 := by
  have w0 := hv.w0
  have h1 := pxB_ok hv (x := 0) (y := (y : Int)) (by omega) (by omega) (by omega) (by omega)
  have h2 := pxB_ok hv (x := (W : Int) - 1) (y := (y : Int)) (by omega) (by omega) (by omega) (by omega)
  have p0 := hv.p0
  have h3 : 0 ≤ ((W : Int) - 1) * P := Int.mul_nonneg (by omega) (by omega)
  have e1 : (pxB X Y P H ((W : Int) - 1) y).x0 = X + ((W : Int) - 1) * P := rfl
  have e2 : (pxB X Y P H 0 y).x0 = X + 0 * P := rfl
  have e3 : (pxB X Y P H ((W : Int) - 1) y).y0 = (pxB X Y P H 0 y).y0 := rfl
  rw [Int.zero_mul] at e2
  simp only [rowB]
  omega
structure RIn (z : World) (M : Nat) (most a : Int) (acc : List (Int × Int)) (gv cv : Nat) (W : World) : Prop where
  own : W.ownsRow z.heap.size 75 2 (.slice (some ⟨gv, 0, none⟩) acc.length cv) acc.length (covC2 acc)
  km : Blk W M 133 #[.int .i64 most, .int .i64 a]
  om : Only [M] z W
  ge : z.heap.size ≤ gv
  lt : gv < W.heap.size
section
variable {z W W' : World} {M gv cv : Nat} {most a : Int} {acc : List (Int × Int)}
theorem RIn.below (h : RIn z M most a acc gv cv W) (hb : Below W.heap.size W W') : RIn z M most a acc gv cv W' := ⟨own_below h.own hb (Nat.le_refl _), h.km.below hb h.km.lt, h.om.below hb h.om.size, h.ge, Nat.lt_of_lt_of_le h.lt hb.size⟩
theorem RIn.alloc (h : RIn z M most a acc gv cv W) (x : Obj) : RIn z M most a acc gv cv (W.alloc x) := h.below ((Below.refl _ _).alloc (Nat.le_refl _) x)
theorem RIn.drew (h : RIn z M most a acc gv cv W) : RIn z M most a acc gv cv W.drew := h.below (Below.refl _ _).drew
theorem RIn.ne (h : RIn z M most a acc gv cv W) : gv ≠ M := fun e => own_blk_ne h.own h.km (by decide) (by rw [← e]; rfl)
theorem RIn.meter {a' : Int} (h : RIn z M most a acc gv cv W) (ho : Only [M] W W') (hk : Blk W' M 133 #[.int .i64 most, .int .i64 a']) : RIn z M most a' acc gv cv W' :=
  ⟨ho.own h.own (fun b hb hm => by simp at hm; subst hm; exact own_blk_ne h.own h.km (by decide) hb), hk, h.om.trans ho, h.ge, Nat.lt_of_lt_of_le h.lt ho.size⟩
theorem RIn.put {c : Int × Int} {g' c' : Nat} (h : RIn z M most a acc gv cv W) (hg : W.grownBy W' (some gv)) (hw : W'.ownsRow z.heap.size 75 2 (.slice (some ⟨g', 0, none⟩) (acc.length + 1) c') (acc.length + 1) (covC2 acc ++ [.int .i64 c.1, .int .i64 c.2])) (hl : g' < W'.heap.size) (hge : z.heap.size ≤ g') : RIn z M most a (acc ++ [c]) g' c' W' := by
  refine ⟨?_, h.km.grown hg (fun e => h.ne (by injection e with e; exact e.symm)), h.om.grown hg (fun b hb => by injection hb with hb; subst hb; exact .inr h.ge), hge, hl⟩
  have e : covC2 (acc ++ [c]) = covC2 acc ++ [.int .i64 c.1, .int .i64 c.2] := by simp [covC2]
  rw [e, List.length_append, List.length_singleton]
  exact hw
end
theorem GroupAt.more {S S' : List Nat} {w : World} {v1 v2 : Value} {l : List Ent2} (h : GroupAt S w v1 v2 l) (hS : ∀ b, b ∉ S → b < w.heap.size → b ∉ S') : GroupAt S' w v1 v2 l := h.to (Nat.le_refl _) (fun _ _ _ => rfl) hS
theorem RIn.group {z W : World} {M gv cv : Nat} {most a : Int} {acc : List (Int × Int)} (h : RIn z M most a acc gv cv W) {v1 v2 : Value} {l : List Ent2} (hg : GroupAt [M] z v1 v2 l) : GroupAt [M, gv] W v1 v2 l :=
  (hg.more (S' := [M, gv]) (fun b hb hlt hm => by
    have := h.ge
    simp only [List.mem_cons, List.not_mem_nil, or_false] at hb hm
    rcases hm with rfl | rfl
    · exact hb rfl
    · omega)).only (h.om.mono (by simp))
theorem RIn.lts {z W : World} {M gv cv : Nat} {most a : Int} {acc : List (Int × Int)} (h : RIn z M most a acc gv cv W) : ∀ b ∈ [M, gv], b < W.heap.size := fun b hb => by
  simp only [List.mem_cons, List.not_mem_nil, or_false] at hb
  rcases hb with rfl | rfl
  · exact h.km.lt
  · exact h.lt
theorem RIn.row {z W W' : World} {M gv cv g' : Nat} {most a : Int} {acc : List (Int × Int)} (h : RIn z M most a acc gv cv W) (hg : W.grownBy W' (some gv)) (hl : g' = gv ∨ W.heap.size ≤ g') {v1 v2 : Value} {l : List Ent2} (hr : GroupAt [M, gv] W v1 v2 l) : GroupAt [M, g'] W' v1 v2 l :=
  hr.to hg.size (fun b hb hlt => hg.block b hlt (fun e => hb (by injection e with e; subst e; simp))) (fun b hb hlt hm => by
    simp only [List.mem_cons, List.not_mem_nil, or_false] at hb hm
    rcases hm with rfl | rfl
    · exact hb (.inl rfl)
    · rcases hl with rfl | hl
      · exact hb (.inr rfl)
      · omega)
end Go.Proofs.YtfajckkbinbpiaaGreatDoor
