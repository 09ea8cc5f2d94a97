/- Walks: discs and strokes are copied. Walks: what is done once: its parts. Walks: a layer without contours is read once. -/
import Derived.ChangeAlike
import Derived.Deep.AppendLies
import Derived.Deep.RegionLaw
import Derived.Defers
import Derived.Laws.LoneSync
import Derived.Laws.Pointers
import Derived.Laws.ResultCell
import Derived.LoopTactic
import Derived.OwnWalk
import Derived.RegionCalls
import Derived.RegionTactic
import Derived.Tactics
import Derived.Tactics2
import Derived.Test.YtfajckkbinbpiaaGreatDoorJ01
import Derived.Test.YtfajckkbinbpiaaGreatDoorJ02
import Derived.Test.YtfajckkbinbpiaaGreatDoorJ07
import Derived.Test.YtfajckkbinbpiaaGreatDoorJ22
namespace Go.Proofs.YtfajckkbinbpiaaGreatDoor
set_option maxRecDepth 100000
set_option maxHeartbeats 32000000
set_option linter.unusedVariables false
set_option linter.unusedSimpArgs false
open Go.RowKit
theorem IOb.form (o : IOb) : ∃ (k x y a b : Int), o.cells = [.bool true, .int .i64 k, .int .i64 x, .int .i64 y, .int .i64 a, .int .i64 b, .int .i64 0, .int .i64 0, .int .i64 6350000, .slice none 0 0, .slice none 0 0] := by
  cases o
  · exact ⟨_, _, _, _, _, rfl⟩
  · exact ⟨_, _, _, _, _, rfl⟩
theorem IOb.len (o : IOb) : o.cells.length = 11 := by cases o <;> rfl
theorem IOb.one (o : IOb) : ∀ u ∈ o.cells, u.oneCell' = true := by
  obtain ⟨k, x, y, a, b, h⟩ := o.form
  rw [h]
  intro u hu
  simp only [List.mem_cons, List.not_mem_nil, or_false] at hu
  rcases hu with rfl | rfl | rfl | rfl | rfl | rfl | rfl | rfl | rfl | rfl | rfl <;> rfl
theorem iocells_at (l : List IOb) (k : Nat) (hk : k < l.length) (j : Nat) (hj : j < 11) : (iocells l)[k * 11 + j]? = (l[k]).cells[j]? := by
  induction l generalizing k with
  | nil => simp at hk
  | cons o l ih =>
    have e : iocells (o :: l) = o.cells ++ iocells l := by simp [iocells]
    have hl := o.len
    cases k with
    | zero => rw [e, List.getElem?_append_left (by rw [hl]; omega)]; simp
    | succ k =>
      rw [e, List.getElem?_append_right (by rw [hl]; omega), hl]
      have := ih k (by simpa using hk)
      rw [show (k + 1) * 11 + j - 11 = k * 11 + j by omega, this]
      rfl
theorem count_i (k x y a b r : Int) (w : World) : Calls Tryz.prog 141 #[.agg #[.int .i64 k, .int .i64 x, .int .i64 y, .int .i64 a, .int .i64 b, .int .i64 0, .int .i64 0, .int .i64 r, .slice none 0 0, .slice none 0 0]] w fun e w' => e = .returned (.int .i64 1) ∧ Below w.heap.size w w' := by
  go_enter Tryz.func141, Tryz.ntmps141
  go_wp2
  go_ret
  exact ⟨rfl, by exact blw⟩
theorem pcont_nil (w : World) : Calls Tryz.prog 142 #[.slice none 0 0] w fun e w' => e = .returned (.slice none 0 0) ∧ w' = w := by
  go_enter Tryz.func142, Tryz.ntmps142
  go_wp2
  go_ret
  exact ⟨rfl, rfl⟩
theorem copy_i (k x y a b r : Int) (w : World) : Calls Tryz.prog 89 #[.agg #[.int .i64 k, .int .i64 x, .int .i64 y, .int .i64 a, .int .i64 b, .int .i64 0, .int .i64 0, .int .i64 r, .slice none 0 0, .slice none 0 0]] w fun e w' => e = .returned (.agg #[.int .i64 k, .int .i64 x, .int .i64 y, .int .i64 a, .int .i64 b, .int .i64 0, .int .i64 0, .int .i64 r, .slice none 0 0, .slice none 0 0]) ∧ Below w.heap.size w w' := by
  go_enter Tryz.func89, Tryz.ntmps89
  go_wp2_with fail
  refine (count_i _ _ _ _ _ _ _).mono ?_
  rintro e w1 ⟨rfl, hb⟩
  have hB1 : Below w.heap.size w w1 := Below.trans (by exact blw) (hb.mono (by first | omega | (simp; done) | (simp; omega)))
  have k1_0 : Blk w1 (w.heap.size) 62 #[.int .i64 k, .int .i64 x, .int .i64 y, .int .i64 a, .int .i64 b, .int .i64 0, .int .i64 0, .int .i64 r, .slice none 0 0, .slice none 0 0] := Blk.below (by exact bkw) hb (by first | omega | (simp; done) | (simp; omega))
  have k1_1 : Blk w1 (w.heap.size + 1) 62 #[.int .i64 0, .int .i64 0, .int .i64 0, .int .i64 0, .int .i64 0, .int .i64 0, .int .i64 0, .int .i64 0, .slice none 0 0, .slice none 0 0] := Blk.below (by exact bkw) hb (by first | omega | (simp; done) | (simp; omega))
  have c1_0 := k1_0.cell
  have f1_0 := k1_0.frozen
  have l1_0 := k1_0.lt
  have c1_1 := k1_1.cell
  have f1_1 := k1_1.frozen
  have l1_1 := k1_1.lt
  have l1 := hB1.size
  clear hb
  obtain ⟨v, ev⟩ : ∃ v, w1.alloc (.cells #[.pointer (some ⟨w.heap.size, 0, none⟩)] 252) = v := ⟨_, rfl⟩
  have hBv : Below w.heap.size w v := by rw [← ev]; exact blw
  have k0 : Blk v w.heap.size 62 #[.int .i64 k, .int .i64 x, .int .i64 y, .int .i64 a, .int .i64 b, .int .i64 0, .int .i64 0, .int .i64 r, .slice none 0 0, .slice none 0 0] := by rw [← ev]; exact k1_0.alloc _
  have k1 : Blk v (w.heap.size + 1) 62 #[.int .i64 0, .int .i64 0, .int .i64 0, .int .i64 0, .int .i64 0, .int .i64 0, .int .i64 0, .int .i64 0, .slice none 0 0, .slice none 0 0] := by rw [← ev]; exact k1_1.alloc _
  have kT : Blk v w1.heap.size 252 #[.pointer (some ⟨w.heap.size, 0, none⟩)] := by rw [← ev]; exact Blk.newAt rfl
  have c0 := k0.cell
  have f0 := k0.frozen
  have l0 := k0.lt
  have c1 := k1.cell
  have f1 := k1.frozen
  have lv1 := k1.lt
  have cT := kT.cell
  have lT := kT.lt
  have lw1 := hB1.size
  have K1 := Lib.hid k1
  have HBV := Lib.hid hBv
  clear c1_0 c1_1 f1_0 f1_1 k1_0 k1_1 l1_0 l1_1 k0 k1 kT hBv hB1
  go_wp2_with fail
  clear ev
  refine wp_loop_rounds 2 ?_
  rw [rounds_succ]
  go_wp2_with (go_at_call 142; refine (pcont_nil _).mono ?_; rintro e w' ⟨rfl, rfl⟩)
  rw [rounds_succ]
  go_wp2_with fail
  refine bodyPost_ret (results_cell_row (t := 62) Tryz.results89 _ _ (w.heap.size + 1) #[.int .i64 k, .int .i64 x, .int .i64 y, .int .i64 a, .int .i64 b, .int .i64 0, .int .i64 0, .int .i64 r, .slice none 0 0, .slice none 0 0] (0, 0) _ (by rfl) ?_ Tryz.underlying62 rfl (by kernel_rfl)) rfl ⟨rfl, ?_⟩
  · have j0 := K1.out.far (p := ⟨w.heap.size, 8, none⟩) (by simp) (.slice none 0 0)
    have j1 := j0.far (p := ⟨w.heap.size, 9, none⟩) (by simp) (.slice none 0 0)
    have i0 := j1.set_ 0 (.int .i64 k) (cs' := #[.int .i64 k, .int .i64 0, .int .i64 0, .int .i64 0, .int .i64 0, .int .i64 0, .int .i64 0, .int .i64 0, .slice none 0 0, .slice none 0 0]) rfl
    have i1 := i0.set_ 1 (.int .i64 x) (cs' := #[.int .i64 k, .int .i64 x, .int .i64 0, .int .i64 0, .int .i64 0, .int .i64 0, .int .i64 0, .int .i64 0, .slice none 0 0, .slice none 0 0]) rfl
    have i2 := i1.set_ 2 (.int .i64 y) (cs' := #[.int .i64 k, .int .i64 x, .int .i64 y, .int .i64 0, .int .i64 0, .int .i64 0, .int .i64 0, .int .i64 0, .slice none 0 0, .slice none 0 0]) rfl
    have i3 := i2.set_ 3 (.int .i64 a) (cs' := #[.int .i64 k, .int .i64 x, .int .i64 y, .int .i64 a, .int .i64 0, .int .i64 0, .int .i64 0, .int .i64 0, .slice none 0 0, .slice none 0 0]) rfl
    have i4 := i3.set_ 4 (.int .i64 b) (cs' := #[.int .i64 k, .int .i64 x, .int .i64 y, .int .i64 a, .int .i64 b, .int .i64 0, .int .i64 0, .int .i64 0, .slice none 0 0, .slice none 0 0]) rfl
    have i5 := i4.set_ 5 (.int .i64 0) (cs' := #[.int .i64 k, .int .i64 x, .int .i64 y, .int .i64 a, .int .i64 b, .int .i64 0, .int .i64 0, .int .i64 0, .slice none 0 0, .slice none 0 0]) rfl
    have i6 := i5.set_ 6 (.int .i64 0) (cs' := #[.int .i64 k, .int .i64 x, .int .i64 y, .int .i64 a, .int .i64 b, .int .i64 0, .int .i64 0, .int .i64 0, .slice none 0 0, .slice none 0 0]) rfl
    have i7 := i6.set_ 7 (.int .i64 r) (cs' := #[.int .i64 k, .int .i64 x, .int .i64 y, .int .i64 a, .int .i64 b, .int .i64 0, .int .i64 0, .int .i64 r, .slice none 0 0, .slice none 0 0]) rfl
    have i8 := i7.set_ 8 (.slice none 0 0) (cs' := #[.int .i64 k, .int .i64 x, .int .i64 y, .int .i64 a, .int .i64 b, .int .i64 0, .int .i64 0, .int .i64 r, .slice none 0 0, .slice none 0 0]) rfl
    have i9 := i8.set_ 9 (.slice none 0 0) (cs' := #[.int .i64 k, .int .i64 x, .int .i64 y, .int .i64 a, .int .i64 b, .int .i64 0, .int .i64 0, .int .i64 r, .slice none 0 0, .slice none 0 0]) rfl
    exact i9
  · have := HBV.out
    exact blw
theorem infoOb : (Tryz.prog.info? 65).map (fun i => (i.zero, i.size, i.bytes)) = some (some (.agg #[.bool false, .int .i64 0, .int .i64 0, .int .i64 0, .int .i64 0, .int .i64 0, .int .i64 0, .int .i64 0, .int .i64 0, .slice none 0 0, .slice none 0 0]), 11, 120) := by kernel_rfl
theorem less_i (v : Value) (L : List IOb) (w : World) (hO : w.ownsRow 0 65 11 v L.length (iocells L)) (hl : L.length ≤ 1000) :
    Calls Tryz.prog 57 #[v, .slice none 0 0] w fun e w' => ∃ u, e = .returned u ∧ w'.ownsRow w.heap.size 65 11 u L.length (iocells L) ∧ Below w.heap.size w w' := by
  obtain ⟨p0, c0, rfl⟩ := own_form hO
  obtain ⟨N, eN⟩ : ∃ N, L.length = N := ⟨_, rfl⟩
  rw [eN] at hO hl ⊢
  obtain ⟨i48, hi48, hz0, hz1, hz2⟩ := info_parts infoOb
  have HI := Lib.hid (And.intro hi48 (And.intro hz0 (And.intro hz1 hz2)))
  have hZ : Hid ((Value.agg #[.bool false, .int .i64 0, .int .i64 0, .int .i64 0, .int .i64 0, .int .i64 0, .int .i64 0, .int .i64 0, .int .i64 0, .slice none 0 0, .slice none 0 0]).cells.size = 11) := Lib.hid (by kernel_rfl)
  have hzN : i48.bytes * N ≤ 281474976710656 := by rw [hz2]; omega
  have HZN := Lib.hid hzN
  have HO := Lib.hid hO
  have EN := Lib.hid eN
  clear hi48 hz0 hz1 hz2 hzN hO eN
  go_enter Tryz.func57, Tryz.ntmps57
  go_wp2_with (at_make; refine wpList_make_own _ rfl _ _ 47 rfl w.heap.size 65 i48 (.agg #[.bool false, .int .i64 0, .int .i64 0, .int .i64 0, .int .i64 0, .int .i64 0, .int .i64 0, .int .i64 0, .int .i64 0, .slice none 0 0, .slice none 0 0]) 11 Tryz.underlying47 HI.out.1 HI.out.2.1 HI.out.2.2.1 .i64 .i64 _ N rfl rfl rfl HZN.out (by unfold maxLen; omega) (Nat.le_refl _) ?_)
  intro w4 hown hgrow
  have HB4 := Lib.hid (Below.grown (Below.refl _ w) hgrow (Nat.le_refl _) (by intro b hb; cases hb))
  have HW4 := Lib.hid hown
  clear hown hgrow
  go_wp2_with fail
  go_loopw [5, 18] (fun rv i wr => ∃ k : Nat, i = .int .i64 (k : Int) ∧ k ≤ N ∧ ∃ p c, rv = .slice p k c ∧ wr.ownsRow w.heap.size 65 11 (.slice p k c) k (iocells (L.take k)) ∧ Below w.heap.size w wr) (fun rv i wr => N - (intOf i).toNat)
  case atStart => exact ⟨0, rfl, Nat.zero_le _, _, _, rfl, by simpa [iocells] using HW4.out, HB4.out⟩
  case round =>
  obtain ⟨k, rfl, hk, p, c, rfl, hR, hB⟩ := hrel
  by_cases hlt : k < N
  · have hkl : k < L.length := by have := EN.out; omega
    obtain ⟨kd, x, y, a, b, ec⟩ := (L[k]).form
    obtain ⟨g0, cap0, he0, _, hg0⟩ := HO.out.form (by omega)
    injection he0 with he0 _ he0'
    subst he0 he0'
    have ho2 := own_below HO.out hB (Nat.le_refl _)
    have hq : ∀ j u, j < 11 → (L[k]).cells[j]? = some u → wr.cell? ⟨g0, k * 11 + j, none⟩ = some u := fun j u hj hu => by
      rw [ho2.cellAt (k * 11 + j) (by omega), iocells_at L k hkl j hj]; exact hu
    rw [ec] at hq
    have q0 := hq 0 _ (by omega) rfl
    have q1 := hq 1 _ (by omega) rfl
    have q2 := hq 2 _ (by omega) rfl
    have q3 := hq 3 _ (by omega) rfl
    have q4 := hq 4 _ (by omega) rfl
    have q5 := hq 5 _ (by omega) rfl
    have q6 := hq 6 _ (by omega) rfl
    have q7 := hq 7 _ (by omega) rfl
    have q8 := hq 8 _ (by omega) rfl
    have q9 := hq 9 _ (by omega) rfl
    have q10 := hq 10 _ (by omega) rfl
    simp only [Nat.add_zero] at q0
    have hnext : iocells (L.take (k + 1)) = iocells (L.take k) ++ [.bool true, .int .i64 kd, .int .i64 x, .int .i64 y, .int .i64 a, .int .i64 b, .int .i64 0, .int .i64 0, .int .i64 6350000, .slice none 0 0, .slice none 0 0] := by rw [List.take_succ_eq_append_getElem hkl, iocells_append, iocells_one, ec]
    have lg : g0 < wr.heap.size := Nat.lt_of_lt_of_le hg0 hB.size
    have hR2 := hR
    have HNX := Lib.hid hnext
    have HR := Lib.hid hR
    have HB := Lib.hid hB
    have sB := hB.size
    clear hq ho2 hnext hR hR2 hB ec
    go_wp2_with fail
    obtain ⟨v, ev⟩ : ∃ v, wr.alloc (.cells #[.bool true, .int .i64 kd, .int .i64 x, .int .i64 y, .int .i64 a, .int .i64 b, .int .i64 0, .int .i64 0, .int .i64 6350000, .slice none 0 0, .slice none 0 0] 65) = v := ⟨_, rfl⟩
    have kvo : Blk v wr.heap.size 65 #[.bool true, .int .i64 kd, .int .i64 x, .int .i64 y, .int .i64 a, .int .i64 b, .int .i64 0, .int .i64 0, .int .i64 6350000, .slice none 0 0, .slice none 0 0] := by rw [← ev]; exact Blk.newAt rfl
    have ov : v.ownsRow w.heap.size 65 11 (.slice p k c) k (iocells (L.take k)) := by rw [← ev]; exact HR.out.alloc _
    have Bv : Below w.heap.size w v := by rw [← ev]; exact HB.out.alloc sB _
    have cv := kvo.cell
    have lv := kvo.lt
    have KVO := Lib.hid kvo
    have OV := Lib.hid ov
    have BV := Lib.hid Bv
    have bvs := Bv.size
    rw [ev]
    clear ev kvo ov Bv q0 q1 q2 q3 q4 q5 q6 q7 q8 q9 q10
    have hone : ∀ u ∈ ([.bool true, .int .i64 kd, .int .i64 x, .int .i64 y, .int .i64 a, .int .i64 b, .int .i64 0, .int .i64 0, .int .i64 6350000, .slice none 0 0, .slice none 0 0] : List Value), u.oneCell' = true := by
      intro u hu
      simp only [List.mem_cons, List.not_mem_nil, or_false] at hu
      rcases hu with rfl | rfl | rfl | rfl | rfl | rfl | rfl | rfl | rfl | rfl | rfl <;> rfl
    have HONE := Lib.hid hone
    have m1 : k + 1 ≤ maxLen := by unfold maxLen; omega
    have m2 : (k + 1) * 120 ≤ 140737488355328 := by omega
    have MM := Lib.hid (And.intro m1 m2)
    clear hone m1 m2
    go_region_law (first | (refine step_append_lies _ rfl (.tmp 22) (.tmp 29) 47 rfl w.heap.size 65 i48 _ 11 120 Tryz.underlying47 HI.out.1 HI.out.2.1 HI.out.2.2.1 HI.out.2.2.2 hZ.out (by decide) (.slice p k c) k (iocells (L.take k)) (by simp [Act.eval, Act.put]) OZ.out ⟨z.heap.size, 0, none⟩ 1 1 [.bool true, .int .i64 kd, .int .i64 x, .int .i64 y, .int .i64 a, .int .i64 b, .int .i64 0, .int .i64 0, .int .i64 6350000, .slice none 0 0, .slice none 0 0] (by simp [Act.eval, Act.put]) rfl HNZ.out HONE.out (by decide) MM.out.1 MM.out.2 SZB.out _ rfl ?_; intro gn cn w5 hown hgrow hat hlt5) | (go_simp; go_at_call 89; refine (copy_i kd x y a b 6350000 _).mono ?_; rintro e z ⟨rfl, hb⟩; have kz := KVO.out.drew.below hb lv; have cz := kz.cell; have lz := kz.lt; have OZ := Lib.hid ((own_below (World.ownsRow.drew OV.out) hb (Nat.le_refl _)).alloc (.cells #[.bool true, .int .i64 kd, .int .i64 x, .int .i64 y, .int .i64 a, .int .i64 b, .int .i64 0, .int .i64 0, .int .i64 6350000, .slice none 0 0, .slice none 0 0] 65)); have hnz : ∀ j v, ([.bool true, .int .i64 kd, .int .i64 x, .int .i64 y, .int .i64 a, .int .i64 b, .int .i64 0, .int .i64 0, .int .i64 6350000, .slice none 0 0, .slice none 0 0] : List Value)[j]? = some v → (z.alloc (.cells #[.bool true, .int .i64 kd, .int .i64 x, .int .i64 y, .int .i64 a, .int .i64 b, .int .i64 0, .int .i64 0, .int .i64 6350000, .slice none 0 0, .slice none 0 0] 65)).cell? ((⟨z.heap.size, 0, none⟩ : Addr).add j) = some v := World.news_of_block (cs := #[.bool true, .int .i64 kd, .int .i64 x, .int .i64 y, .int .i64 a, .int .i64 b, .int .i64 0, .int .i64 0, .int .i64 6350000, .slice none 0 0, .slice none 0 0]) (Blk.newAt (w := z) rfl); have HNZ := Lib.hid hnz; clear hnz; have HBZ := Lib.hid (BV.out.drew.trans (hb.mono BV.out.size)); have SZB := Lib.hid (show w.heap.size ≤ (z.alloc (.cells #[.bool true, .int .i64 kd, .int .i64 x, .int .i64 y, .int .i64 a, .int .i64 b, .int .i64 0, .int .i64 0, .int .i64 6350000, .slice none 0 0, .slice none 0 0] 65)).heap.size from Nat.le_trans HBZ.out.size (by simp)); clear hb kz))
    all_goals
      have hb5 : Below w.heap.size w w5 := Below.grown (HBZ.out.alloc HBZ.out.size (.cells #[.bool true, .int .i64 kd, .int .i64 x, .int .i64 y, .int .i64 a, .int .i64 b, .int .i64 0, .int .i64 0, .int .i64 6350000, .slice none 0 0, .slice none 0 0] 65)) hgrow SZB.out (fun b' hb' => own_ge OZ.out hb')
      have HB5 := Lib.hid hb5
      have HW5 := Lib.hid hown
      clear hb5 hown hgrow hat hlt5
      go_wp2_with fail
      go_roundw
      case rel =>
        have hr2 : ∃ k' : Nat, Value.int .i64 ((k : Int) + 1) = .int .i64 (k' : Int) ∧ k' ≤ N ∧ ∃ p' c', Value.slice (some ⟨gn, 0, none⟩) (k + 1) cn = .slice p' k' c' ∧ w5.ownsRow w.heap.size 65 11 (.slice p' k' c') k' (iocells (L.take k')) ∧ Below w.heap.size w w5 := ⟨k + 1, by go_num, by omega, _, _, rfl, by rw [HNX.out]; exact HW5.out, HB5.out⟩
        first | exact hr2 | ((repeat apply Exists.intro); exact ⟨hr2, rfl⟩)
      case measure => simp [intOf]; omega
  · obtain rfl : k = N := by omega
    rw [List.take_of_length_le (by rw [EN.out]; exact Nat.le_refl _)] at hR
    have HR := Lib.hid hR
    have HB := Lib.hid hB
    clear hR hB
    go_wp2_with fail
    refine wp_loop_rounds 1 ?_
    rw [rounds_succ]
    go_wp2_with fail
    go_ret
    exact ⟨_, rfl, HR.out, HB.out⟩
theorem disable (w : World) : (callFunc 251 #[]).run Tryz.prog w = .ok (.value (.tuple #[])) w := run_call_mark0 Tryz.func251 (by kernel_rfl) (by kernel_rfl) (by kernel_rfl) .disable (by kernel_rfl) w
theorem enable (w : World) : (callFunc 253 #[]).run Tryz.prog w = .ok (.value (.tuple #[])) w := run_call_mark0 Tryz.func253 (by kernel_rfl) (by kernel_rfl) (by kernel_rfl) .enable (by kernel_rfl) w
theorem acquire (a : Addr) (w : World) : (callFunc 254 #[.pointer (some a)]).run Tryz.prog w = .ok (.value (.tuple #[])) w := run_call_marked Tryz.func254 (by kernel_rfl) (by kernel_rfl) (by kernel_rfl) .acquire (by kernel_rfl) a w
theorem releaseMerge (a : Addr) (w : World) : (callFunc 256 #[.pointer (some a)]).run Tryz.prog w = .ok (.value (.tuple #[])) w := run_call_marked Tryz.func256 (by kernel_rfl) (by kernel_rfl) (by kernel_rfl) .releaseMerge (by kernel_rfl) a w
theorem store_deferred (a : Addr) (x : Value) (u : FrameMode) (w : World) (hc : w.cell? a = some x) (hz : w.frozen? a = false) :
    CallsD Tryz.prog 185 #[.pointer (some a), .bool true] u w fun e u' w' => u' = u ∧ (e = .returned (.tuple #[]) ∧ w' = w.drew.setCell a (.int .u32 1)) := by
  have hc' : w.drew.cell? a = some x := by go_simp
  have hz' : w.drew.frozen? a = false := by go_simp
  have hst := run_call_store (P := Tryz.prog) Tryz.func219 (by kernel_rfl) (by kernel_rfl) (by kernel_rfl) (by kernel_rfl) (k := .u32) (y := 1) hc' hz'
  go_enter_d Tryz.func185, Tryz.ntmps185
  go_wp2
  go_region_calls
  all_goals (go_end0; exact ⟨rfl, rfl⟩)
theorem unlock_deferred (a : Addr) (u : FrameMode) (w : World) (hc : w.cell? a = some (.int .i32 1)) (hz : w.frozen? a = false) :
    CallsD Tryz.prog 184 #[.pointer (some a)] u w fun e u' w' => u' = u ∧ (e = .returned (.tuple #[]) ∧ w' = w.setCell a (.int .i32 0)) := by
  have hd := disable
  have he := enable
  have hr := releaseMerge
  have hadd := run_call_add (P := Tryz.prog) Tryz.func143 (by kernel_rfl) (by kernel_rfl) (by kernel_rfl) .i32 (by kernel_rfl) (y := -1) (s := 0) hc hz (by simp [go_sem]; rfl)
  have hcv := run_convert_to_unsafe (P := Tryz.prog) (src := 367) (dst := 370) Tryz.underlying367 Tryz.underlying370 (by kernel_rfl) hc
  go_enter_d Tryz.func184, Tryz.ntmps184
  go_wp2
  go_end0
  go_wp2
  all_goals (first | (go_end0; exact ⟨rfl, rfl⟩) | exact ⟨rfl, rfl⟩)
theorem lock_free (a : Addr) (w : World) (hc : w.cell? a = some (.int .i32 0)) (hz : w.frozen? a = false) :
    Calls Tryz.prog 183 #[.pointer (some a)] w fun e w' => e = .returned (.tuple #[]) ∧ w' = w.setCell a (.int .i32 1) := by
  have hd := disable
  have he := enable
  have ha := acquire
  have hcas := run_call_cas_hit (P := Tryz.prog) Tryz.func252 (by kernel_rfl) (by kernel_rfl) (by kernel_rfl) .i32 (by kernel_rfl) (y := 1) hc hz
  have hc' : (w.setCell a (.int .i32 1)).cell? a = some (.int .i32 1) := World.cell?_setCell_same w a _ hc
  have hcv := run_convert_to_unsafe (P := Tryz.prog) (src := 367) (dst := 370) Tryz.underlying367 Tryz.underlying370 (by kernel_rfl) hc'
  go_enter Tryz.func183, Tryz.ntmps183
  go_wp2
  first | go_end0 | (simp only [Exit.inBlock, Exit.then]; refine bodyPost_ret (results_none rfl _ _ _) rfl ?_) | refine bodyPost_ret (results_none rfl _ _ _) rfl ?_
  go_wp2
  all_goals (first | (go_end0; exact ⟨rfl, rfl⟩) | exact ⟨rfl, rfl⟩)
theorem bload (a : Addr) (w : World) (hc : w.cell? a = some (.int .u32 0)) : Calls Tryz.prog 137 #[.pointer (some a)] w fun e w' => e = .returned (.bool false) ∧ w' = w := by
  have hl := run_call_load (P := Tryz.prog) Tryz.func182 (by kernel_rfl) (by kernel_rfl) (by kernel_rfl) .u32 (by kernel_rfl) hc
  go_enter Tryz.func137, Tryz.ntmps137
  go_wp2
  go_ret
  exact ⟨rfl, rfl⟩
theorem add32 (a : Addr) (w : World) (hc : w.cell? a = some (.int .i32 0)) (hz : w.frozen? a = false) : Calls Tryz.prog 91 #[.pointer (some a), .int .i32 1] w fun e w' => e = .returned (.int .i32 1) ∧ w' = w.setCell a (.int .i32 1) := by
  have hadd := run_call_add (P := Tryz.prog) Tryz.func143 (by kernel_rfl) (by kernel_rfl) (by kernel_rfl) .i32 (by kernel_rfl) (y := 1) (s := 1) hc hz (by simp [go_sem]; rfl)
  go_enter Tryz.func91, Tryz.ntmps91
  go_wp2
  go_ret
  exact ⟨rfl, rfl⟩
theorem iclosure_c (T : ByteArray) (nb : Int) (n : Nat) (xs : List Value) (hF : ∀ w, Calls Tryz.prog 13 #[.string T, .int .i64 nb] w fun e w' => ∃ v0, e = .returned (.tuple #[v0, .int .i64 0, .int .i64 0]) ∧ w'.ownsRow w.heap.size 65 11 v0 n xs ∧ Below w.heap.size w w') (L q : Nat) (w : World) (hL : Blk w L 199 #[.string T, .int .i64 nb, .int .u32 0, .int .i32 1, .int .u32 0, .int .i32 0, .slice none 0 0, .int .i64 0, .int .i64 0]) (hq : w.cell? ⟨q, 0, none⟩ = some (.pointer (some ⟨L, 0, none⟩))) (hne : q ≠ L) :
    Calls Tryz.prog 90 #[.pointer (some ⟨q, 0, none⟩)] w fun e w' => e = .returned (.tuple #[]) ∧ ∃ p c, Blk w' L 199 #[.string T, .int .i64 nb, .int .u32 0, .int .i32 1, .int .u32 0, .int .i32 1, .slice p n c, .int .i64 0, .int .i64 0] ∧ w'.ownsRow 0 65 11 (.slice p n c) n xs ∧ Only [L] w w' := by
  have lL := hL.lt
  have lq := blk_of_cell hq
  have c0 : w.cell? ⟨L, 0, none⟩ = some (.string T) := hL.cell 0
  have c1 : w.cell? ⟨L, 1, none⟩ = some (.int .i64 nb) := hL.cell 1
  have HL := Lib.hid hL
  have HF := Lib.hid hF
  clear hL hF
  go_enter Tryz.func90, Tryz.ntmps90
  go_wp2_with fail
  go_region_held3 (fun w' => w'.cell? ⟨q, 0, none⟩ = some (.pointer (some ⟨L, 0, none⟩)) ∧ w'.cell? ⟨L, 0, none⟩ = some (.string T) ∧ w'.cell? ⟨L, 1, none⟩ = some (.int .i64 nb))
    (first | exact ⟨hq, c0, c1⟩ | exact ⟨zq, z0, z1⟩ | (refine ⟨?_, ?_, ?_⟩ <;> (simp [World.cell?_setCell_other, zq, z0, z1, hne]; done)))
    (first | (go_at_call 13; (with_reducible refine (HF.out _).mono ?_); rintro e z ⟨v0, rfl, ho, hb⟩; obtain ⟨p, c, rfl⟩ := own_form ho; have kz := HL.out.drew.below hb lL; have zq := (hb.cell (p := ⟨q, 0, none⟩) lq).trans hq; have z0 := (hb.cell (p := ⟨L, 0, none⟩) lL).trans c0; have z1 := (hb.cell (p := ⟨L, 1, none⟩) lL).trans c1; have zc := kz.cell; have zf := kz.frozen; have zl := kz.lt; have KZ := Lib.hid kz; have OZ := Lib.hid (own_mono ho (Nat.zero_le _)); have OO := Lib.hid ((Only.refl [L] w).drew.below hb (Nat.le_refl _)); clear hb ho kz))
  all_goals
    have own9 := own_blk_ne OZ.out KZ.out (by decide)
    have OWN9 := Lib.hid own9
    clear own9
    go_wp2_with fail
    have K9 := ((KZ.out.set_ 6 (.slice p n c) rfl).set_ 7 (.int .i64 0) rfl).set_ 8 (.int .i64 0) rfl
    refine (add32 ⟨L, 5, none⟩ _ (K9.cell 5) (K9.frozen 5)).mono ?_
    rintro e w' ⟨rfl, rfl⟩
    go_wp2_with fail
    go_end0
    exact ⟨rfl, p, c, K9.set_ 5 (.int .i32 1) rfl, own_far (own_far (own_far (own_far OZ.out (p := ⟨L, 6, none⟩) OWN9.out _) (p := ⟨L, 7, none⟩) OWN9.out _) (p := ⟨L, 8, none⟩) OWN9.out _) (p := ⟨L, 5, none⟩) OWN9.out _, by have := OO.out; exact onw⟩
theorem islow_c (T : ByteArray) (nb : Int) (n : Nat) (xs : List Value) (hF : ∀ w, Calls Tryz.prog 13 #[.string T, .int .i64 nb] w fun e w' => ∃ v0, e = .returned (.tuple #[v0, .int .i64 0, .int .i64 0]) ∧ w'.ownsRow w.heap.size 65 11 v0 n xs ∧ Below w.heap.size w w') (L q : Nat) (w : World) (hL : Blk w L 199 #[.string T, .int .i64 nb, .int .u32 0, .int .i32 0, .int .u32 0, .int .i32 0, .slice none 0 0, .int .i64 0, .int .i64 0]) (hq : w.cell? ⟨q, 0, none⟩ = some (.pointer (some ⟨L, 0, none⟩))) (hne : q ≠ L) :
    Calls Tryz.prog 138 #[.pointer (some ⟨L, 2, none⟩), .func (.func 90) #[] #[.pointer (some ⟨q, 0, none⟩)]] w fun e w' => e = .returned (.tuple #[]) ∧ ∃ p c, Blk w' L 199 #[.string T, .int .i64 nb, .int .u32 1, .int .i32 0, .int .u32 0, .int .i32 1, .slice p n c, .int .i64 0, .int .i64 0] ∧ w'.ownsRow 0 65 11 (.slice p n c) n xs ∧ Only [L] w w' := by
  have K1 : Blk (w.setCell ⟨L, 3, none⟩ (.int .i32 1)) L 199 #[.string T, .int .i64 nb, .int .u32 0, .int .i32 1, .int .u32 0, .int .i32 0, .slice none 0 0, .int .i64 0, .int .i64 0] := hL.set_ 3 _ rfl
  have hnot : ∀ (x : Bool) (w : World), (Op.unary .not (.bool x)).run Tryz.prog w = .ok (.bool (!x)) w := fun _ _ => rfl
  have c3 := hL.cell 3
  have f3 := hL.frozen 3
  have hq1 : (w.setCell ⟨L, 3, none⟩ (.int .i32 1)).cell? ⟨q, 0, none⟩ = some (.pointer (some ⟨L, 0, none⟩)) := (World.cell?_setCell_other _ _ _ _ (by intro h; injection h with h1 h2; first | exact hne h1 | exact hne h1.symm)).trans hq
  have HK1 := Lib.hid K1
  have HC := Lib.hid (iclosure_c T nb n xs hF L q _ K1 hq1 hne)
  clear hL K1 hq hq1 hF
  go_enter_defers Tryz.func138, Tryz.ntmps138
  go_wp2_with (first | (go_at_call 183; refine (lock_free ⟨L, 3, none⟩ _ c3 f3).mono ?_; rintro e w' ⟨rfl, rfl⟩) | (go_at_call 137; refine (bload ⟨L, 2, none⟩ _ (HK1.out.cell 2)).mono ?_; rintro e w' ⟨rfl, rfl⟩))
  refine (HC.out).mono ?_
  rintro e z ⟨rfl, p, c, hk, ho, hon⟩
  have ho9 := own_blk_ne ho hk (by decide)
  have kf := (hk.drew.set_ 2 (.int .u32 1) rfl).set_ 3 (.int .i32 0) rfl
  have of := own_far (own_far (World.ownsRow.drew ho) (p := ⟨L, 2, none⟩) ho9 (.int .u32 1)) (p := ⟨L, 3, none⟩) ho9 (.int .i32 0)
  have onf : Only [L] w _ := ((((Only.refl [L] w).setCell (p := ⟨L, 3, none⟩) (by simp) (.int .i32 1)).trans hon).drew.setCell (p := ⟨L, 2, none⟩) (by simp) (.int .u32 1)).setCell (p := ⟨L, 3, none⟩) (by simp) (.int .i32 0)
  have k2 := hk.drew.set_ 2 (.int .u32 1) rfl
  have HFF := Lib.hid (And.intro kf (And.intro of onf))
  have HK := Lib.hid hk
  have HK2 := Lib.hid k2
  clear ho9 kf of onf k2 hk ho hon
  go_wp2_with fail
  refine leaves_cons (f := 185) (args := #[.pointer (some ⟨L, 2, none⟩), .bool true]) (by simp) (by simp [go_sem]) ?_
  refine (store_deferred ⟨L, 2, none⟩ (.int .u32 0) .returning _ (HK.out.cell 2) (HK.out.frozen 2)).mono ?_
  rintro e u' w'' ⟨rfl, rfl, rfl⟩
  refine leaves_cons (f := 184) (args := #[.pointer (some ⟨L, 3, none⟩)]) (by simp [settle]) (by simp [go_sem]) ?_
  refine (unlock_deferred ⟨L, 3, none⟩ _ _ (HK2.out.cell 3) (HK2.out.frozen 3)).mono ?_
  rintro e u' w'' ⟨rfl, rfl, rfl⟩
  simp only [Leaves, settle]
  exact ⟨.tuple #[], results_none rfl _ _ _, rfl, p, c, HFF.out.1, HFF.out.2.1, HFF.out.2.2⟩
theorem ionce_c (T : ByteArray) (nb : Int) (n : Nat) (xs : List Value) (hF : ∀ w, Calls Tryz.prog 13 #[.string T, .int .i64 nb] w fun e w' => ∃ v0, e = .returned (.tuple #[v0, .int .i64 0, .int .i64 0]) ∧ w'.ownsRow w.heap.size 65 11 v0 n xs ∧ Below w.heap.size w w') (L q : Nat) (w : World) (hL : Blk w L 199 #[.string T, .int .i64 nb, .int .u32 0, .int .i32 0, .int .u32 0, .int .i32 0, .slice none 0 0, .int .i64 0, .int .i64 0]) (hq : w.cell? ⟨q, 0, none⟩ = some (.pointer (some ⟨L, 0, none⟩))) (hne : q ≠ L) :
    Calls Tryz.prog 86 #[.pointer (some ⟨L, 2, none⟩), .func (.func 90) #[] #[.pointer (some ⟨q, 0, none⟩)]] w fun e w' => e = .returned (.tuple #[]) ∧ ∃ p c, Blk w' L 199 #[.string T, .int .i64 nb, .int .u32 1, .int .i32 0, .int .u32 0, .int .i32 1, .slice p n c, .int .i64 0, .int .i64 0] ∧ w'.ownsRow 0 65 11 (.slice p n c) n xs ∧ Only [L] w w' := by
  have HS := Lib.hid (islow_c T nb n xs hF L q w hL hq hne)
  have h2 := hL.cell 2
  have hnot : ∀ (x : Bool) (w : World), (Op.unary .not (.bool x)).run Tryz.prog w = .ok (.bool (!x)) w := fun _ _ => rfl
  clear hL hq hne hF
  go_enter Tryz.func86, Tryz.ntmps86
  go_wp2_with (first | (go_at_call 138; refine (HS.out).mono ?_; rintro e w' ⟨rfl, hR⟩) | (go_at_call 137; refine (bload ⟨L, 2, none⟩ _ h2).mono ?_; rintro e w' ⟨rfl, rfl⟩))
  go_end0
  exact ⟨rfl, hR⟩
theorem inewLayer_c (T : ByteArray) (nb : Int) (w : World) : Calls Tryz.prog 55 #[.string T, .int .i64 nb] w fun e w' => e = .returned (.pointer (some ⟨w.heap.size, 0, none⟩)) ∧ w' = w.alloc (.cells #[.string T, .int .i64 nb, .int .u32 0, .int .i32 0, .int .u32 0, .int .i32 0, .slice none 0 0, .int .i64 0, .int .i64 0] 199) := by
  go_enter Tryz.func55, Tryz.ntmps55
  go_wp2
  go_ret
  exact ⟨rfl, rfl⟩
theorem iobjects_c (T : ByteArray) (nb : Int) (n : Nat) (xs : List Value) (hF : ∀ w, Calls Tryz.prog 13 #[.string T, .int .i64 nb] w fun e w' => ∃ v0, e = .returned (.tuple #[v0, .int .i64 0, .int .i64 0]) ∧ w'.ownsRow w.heap.size 65 11 v0 n xs ∧ Below w.heap.size w w') (hC : ∀ v w, w.ownsRow 0 65 11 v n xs → Calls Tryz.prog 57 #[v, .slice none 0 0] w fun e w' => ∃ u, e = .returned u ∧ w'.ownsRow w.heap.size 65 11 u n xs ∧ Below w.heap.size w w') (L : Nat) (w : World) (hL : Blk w L 199 #[.string T, .int .i64 nb, .int .u32 0, .int .i32 0, .int .u32 0, .int .i32 0, .slice none 0 0, .int .i64 0, .int .i64 0]) :
    Calls Tryz.prog 56 #[.pointer (some ⟨L, 0, none⟩)] w fun e w' => ∃ u1, e = .returned (.tuple #[u1, .int .i64 0, .int .i64 0]) ∧ w'.ownsRow w.heap.size 65 11 u1 n xs ∧ Only [L] w w' := by
  have lL := hL.lt
  obtain ⟨v, ev⟩ : ∃ v, w.alloc (.cells #[.pointer (some ⟨L, 0, none⟩)] 134) = v := ⟨_, rfl⟩
  have kv : Blk v L 199 #[.string T, .int .i64 nb, .int .u32 0, .int .i32 0, .int .u32 0, .int .i32 0, .slice none 0 0, .int .i64 0, .int .i64 0] := by rw [← ev]; exact hL.alloc _
  have kq : Blk v w.heap.size 134 #[.pointer (some ⟨L, 0, none⟩)] := by rw [← ev]; exact Blk.newAt rfl
  have ov : Only [L] w v := by rw [← ev]; exact (Only.refl _ _).alloc _
  have hne : w.heap.size ≠ L := by omega
  have HO := Lib.hid (ionce_c T nb n xs hF L w.heap.size v kv (kq.cell 0) hne)
  have cq := kq.cell
  have lq := kq.lt
  have KQ := Lib.hid kq
  have OV := Lib.hid ov
  have EV := Lib.hid ev
  have HLS := Lib.hid hC
  clear hL kv kq ov ev hF hC
  go_enter Tryz.func56, Tryz.ntmps56
  go_wp2_with fail
  rw [EV.out]
  go_wp2_with fail
  refine (HO.out).mono ?_
  rintro e z ⟨rfl, p, c, hk, ho, hon⟩
  have jq := hon.blk KQ.out (by simpa using hne)
  have z0 : z.cell? ⟨w.heap.size, 0, none⟩ = some (.pointer (some ⟨L, 0, none⟩)) := jq.cell 0
  have z6 : z.cell? ⟨L, 6, none⟩ = some (.slice p n c) := hk.cell 6
  have z7 : z.cell? ⟨L, 7, none⟩ = some (.int .i64 0) := hk.cell 7
  have z8 : z.cell? ⟨L, 8, none⟩ = some (.int .i64 0) := hk.cell 8
  have lz := jq.lt
  have lz2 := hk.lt
  have HZ := Lib.hid ho
  have OZ := Lib.hid (OV.out.trans hon)
  clear jq hk ho hon cq lq
  go_wp2_with fail
  go_region_held3 (fun w' => w'.cell? ⟨w.heap.size, 0, none⟩ = some (.pointer (some ⟨L, 0, none⟩)) ∧ w'.cell? ⟨L, 6, none⟩ = some (.slice p n c) ∧ w'.cell? ⟨L, 7, none⟩ = some (.int .i64 0) ∧ w'.cell? ⟨L, 8, none⟩ = some (.int .i64 0))
    (first | exact ⟨z0, z6, z7, z8⟩ | exact ⟨y0, y6, y7, y8⟩)
    (first | (go_at_call 57; (with_reducible refine (HLS.out _ z.drew (World.ownsRow.drew HZ.out)).mono ?_); rintro e y ⟨u1, rfl, ho2, hb⟩; have y0 := (hb.cell (p := ⟨w.heap.size, 0, none⟩) lz).trans z0; have y6 := (hb.cell (p := ⟨L, 6, none⟩) lz2).trans z6; have y7 := (hb.cell (p := ⟨L, 7, none⟩) lz2).trans z7; have y8 := (hb.cell (p := ⟨L, 8, none⟩) lz2).trans z8; have HY := Lib.hid (own_mono ho2 OZ.out.size); have OY := Lib.hid (OZ.out.drew.below hb OZ.out.size); clear ho2 hb))
  all_goals
    go_wp2_with fail
    go_ret3
    exact ⟨u1, rfl, HY.out, OY.out⟩
end Go.Proofs.YtfajckkbinbpiaaGreatDoor
