/- A walk: heliographlaw24.MixTells returns true. -/
import Derived.Test.YtcpfpefbpeidpaaMixS
import Derived.Test.YtcpfpefbpeidpaaMixB
import Derived.Test.YtcpfpefbpeidpaaMixD
import Derived.Deep.DeepCutAuto
import Derived.Deep.RegionWith
import Derived.Lib.QuietBelow
namespace Go.Proofs.Ytcpfpefbpeidpaa
open Go.RowKit Go.Sort
set_option linter.unusedVariables false

/-- The laws' number of cells. -/
def CellsN (n : Int) : Prop := n = 1 ∨ n = 4 ∨ n = 16 ∨ n = 64 ∨ n = 256 ∨ n = 1024 ∨ n = 4096 ∨ n = 3
theorem cellsN_bd {n : Int} (h : CellsN n) : 1 ≤ n ∧ n ≤ 4096 := by unfold CellsN at h; omega
theorem table_at (n : Int) : ∃ (i : Nat) (m : Int), bits .and .i64 n 7 = i ∧ i < 8 ∧ CellsN m ∧ ([.int .i64 1, .int .i64 4, .int .i64 16, .int .i64 64, .int .i64 256, .int .i64 1024, .int .i64 4096, .int .i64 3] : List Value)[i]? = some (.int .i64 m) := by
  have h : n % 8 = 0 ∨ n % 8 = 1 ∨ n % 8 = 2 ∨ n % 8 = 3 ∨ n % 8 = 4 ∨ n % 8 = 5 ∨ n % 8 = 6 ∨ n % 8 = 7 := by omega
  rw [mask7]
  rcases h with h | h | h | h | h | h | h | h <;> rw [h]
  · exact ⟨0, 1, rfl, by omega, by unfold CellsN; omega, rfl⟩
  · exact ⟨1, 4, rfl, by omega, by unfold CellsN; omega, rfl⟩
  · exact ⟨2, 16, rfl, by omega, by unfold CellsN; omega, rfl⟩
  · exact ⟨3, 64, rfl, by omega, by unfold CellsN; omega, rfl⟩
  · exact ⟨4, 256, rfl, by omega, by unfold CellsN; omega, rfl⟩
  · exact ⟨5, 1024, rfl, by omega, by unfold CellsN; omega, rfl⟩
  · exact ⟨6, 4096, rfl, by omega, by unfold CellsN; omega, rfl⟩
  · exact ⟨7, 3, rfl, by omega, by unfold CellsN; omega, rfl⟩
theorem table_in {i : Nat} {v : Value} {l : List Value} (h : l[i]? = some v) (hi : i < l.length) : l[i] = v := by
  rw [List.getElem?_eq_getElem hi] at h; exact Option.some.inj h

/-- What one round leaves: the two structs, the four numbers. -/
def Held (w : World) (i c al n : Value) (wx : World) : Prop := ∃ (k c' al' n' tl th vl vh : Int), i = .int .i64 k ∧ c = .int .i64 c' ∧ al = .int .i64 al' ∧ n = .int .i64 n' ∧ 0 ≤ k ∧ k ≤ 2 ∧
  Blk wx w.heap.size 34 #[.int .i64 tl, .int .i64 th] ∧ Blk wx (w.heap.size + 1) 38 #[.int .i64 vl, .int .i64 vh] ∧ Below w.heap.size w wx
/-- What line 38 leaves. -/
def Midst (w : World) (vl vh : Int) (c al n : Value) (wx : World) : Prop := ∃ (c' al' n' tl th : Int), c = .int .i64 c' ∧ al = .int .i64 al' ∧ n = .int .i64 n' ∧ CellsN n' ∧
  Blk wx w.heap.size 34 #[.int .i64 tl, .int .i64 th] ∧ Blk wx (w.heap.size + 1) 38 #[.int .i64 vl, .int .i64 vh] ∧ Below w.heap.size w wx

theorem midst_mk {w wx : World} {vl vh lo hi c' al' m : Int} {v : Value} (hv : v = .int .i64 m) (hM : CellsN m) (hT : Blk wx w.heap.size 34 #[.int .i64 lo, .int .i64 hi]) (hV : Blk wx (w.heap.size + 1) 38 #[.int .i64 vl, .int .i64 vh]) (hB : Below w.heap.size w wx) :
    Midst w vl vh (.int .i64 c') (.int .i64 al') v wx := ⟨_, _, _, _, _, rfl, rfl, hv, hM, hT, hV, hB⟩
theorem midst_set {w wq : World} {tl th vl vh lo hi : Int} (hT : Blk wq w.heap.size 34 #[.int .i64 tl, .int .i64 th]) (hV : Blk wq (w.heap.size + 1) 38 #[.int .i64 vl, .int .i64 vh]) (hB : Below w.heap.size w wq) :
    Blk ((wq.setCell ⟨w.heap.size, 0, none⟩ (.int .i64 lo)).setCell ⟨w.heap.size, 1, none⟩ (.int .i64 hi)) w.heap.size 34 #[.int .i64 lo, .int .i64 hi] ∧
    Blk ((wq.setCell ⟨w.heap.size, 0, none⟩ (.int .i64 lo)).setCell ⟨w.heap.size, 1, none⟩ (.int .i64 hi)) (w.heap.size + 1) 38 #[.int .i64 vl, .int .i64 vh] ∧
    Below w.heap.size w ((wq.setCell ⟨w.heap.size, 0, none⟩ (.int .i64 lo)).setCell ⟨w.heap.size, 1, none⟩ (.int .i64 hi)) := by
  refine ⟨?_, ?_, ?_⟩
  · exact (hT.set_ 0 _ rfl).set_ 1 _ rfl
  · refine Blk.far (Blk.far hV ?_ _) ?_ _ <;> simp
  · (repeat' (first | (with_reducible exact Below.refl _ _) | (with_reducible assumption) | (with_reducible refine below_drewN ?_ _) | (with_reducible refine Below.drew ?_) | (with_reducible refine Below.alloc ?_ ?_ _) | (with_reducible refine Below.setCell ?_ ?_ _) | omega | (simp; done) | (simp; omega)))
theorem midst_a {w w3 wq : World} {tl th vl vh lo hi c' al' m : Int} {v : Value} {o : Obj} (hv : v = .int .i64 m) (hM : CellsN m) (hT : Blk w3 w.heap.size 34 #[.int .i64 tl, .int .i64 th]) (hV : Blk w3 (w.heap.size + 1) 38 #[.int .i64 vl, .int .i64 vh]) (hB : Below w.heap.size w w3)
    (hb : Below w3.drew.heap.size w3.drew wq) : Midst w vl vh (.int .i64 c') (.int .i64 al') v (((wq.setCell ⟨w.heap.size, 0, none⟩ (.int .i64 lo)).setCell ⟨w.heap.size, 1, none⟩ (.int .i64 hi)).alloc o) := by
  obtain ⟨a, b, c⟩ := midst_set (lo := lo) (hi := hi) (hT.drew.below hb hT.lt) (hV.drew.below hb hV.lt) ((hB.drew).trans (hb.mono hB.size))
  refine midst_mk hv hM (a.alloc o) (b.alloc o) (Below.alloc c ?_ o)
  exact c.size
theorem midst_b {w w3 wq : World} {tl th vl vh lo hi c' al' m : Int} {v : Value} {o : Obj} (hv : v = .int .i64 m) (hM : CellsN m) (hT : Blk w3 w.heap.size 34 #[.int .i64 tl, .int .i64 th]) (hV : Blk w3 (w.heap.size + 1) 38 #[.int .i64 vl, .int .i64 vh]) (hB : Below w.heap.size w w3)
    (hb : Below (w3.alloc o).drew.heap.size (w3.alloc o).drew wq) : Midst w vl vh (.int .i64 c') (.int .i64 al') v ((wq.setCell ⟨w.heap.size, 0, none⟩ (.int .i64 lo)).setCell ⟨w.heap.size, 1, none⟩ (.int .i64 hi)) := by
  obtain ⟨a, b, c⟩ := midst_set (lo := lo) (hi := hi) ((hT.alloc o).drew.below hb (hT.alloc o).lt) ((hV.alloc o).drew.below hb (hV.alloc o).lt) ((Below.alloc hB hB.size o).drew.trans (hb.mono (Below.alloc hB hB.size o).size))
  exact midst_mk hv hM a b c

set_option maxRecDepth 100000 in
set_option maxHeartbeats 10000000 in
theorem tells (tl th c al vl vh n : Int) (w : World) :
    Calls Try.prog 5 #[.agg #[.int .i64 tl, .int .i64 th], .int .i64 c, .int .i64 al, .agg #[.int .i64 vl, .int .i64 vh], .int .i64 n] w fun e w' => e = .returned (.bool true) ∧ Below w.heap.size w w' := by
  go_enter Try.func5, Try.ntmps5
  go_wp2_with fail
  go_loopw [11, 1, 2, 4] (Held w) (fun i _ _ _ _ => 2 - (intOf i).toNat)
  case atStart =>
    refine ⟨0, c, al, n, tl, th, vl, vh, rfl, rfl, rfl, rfl, by omega, by omega, ?_, ?_, ?_⟩
    · (repeat' (first | (with_reducible assumption) | (with_reducible exact Blk.new _ _ _) | (exact Blk.newAt (by first | rfl | (simp; done) | omega)) | (with_reducible refine Blk.drewN ?_ _) | (with_reducible refine Blk.drew ?_) | (with_reducible refine Blk.alloc ?_ _) | (with_reducible apply Blk.set_) | (with_reducible refine Blk.far ?_ ?_ _) | rfl | omega | (simp; done) | (simp; omega)))
    · (repeat' (first | (with_reducible assumption) | (with_reducible exact Blk.new _ _ _) | (exact Blk.newAt (by first | rfl | (simp; done) | omega)) | (with_reducible refine Blk.drewN ?_ _) | (with_reducible refine Blk.drew ?_) | (with_reducible refine Blk.alloc ?_ _) | (with_reducible apply Blk.set_) | (with_reducible refine Blk.far ?_ ?_ _) | rfl | omega | (simp; done) | (simp; omega)))
    · (repeat' (first | (with_reducible exact Below.refl _ _) | (with_reducible assumption) | (with_reducible refine below_drewN ?_ _) | (with_reducible refine Below.drew ?_) | (with_reducible refine Below.alloc ?_ ?_ _) | (with_reducible refine Below.setCell ?_ ?_ _) | omega | (simp; done) | (simp; omega)))
  case round =>
  obtain ⟨k, c, al, n, tl, th, vl, vh, rfl, rfl, rfl, rfl, k0, k1, k0_0, k0_1, hB0⟩ := hrel
  have c0_0 := k0_0.cell
  have c0_1 := k0_1.cell
  have f0_0 := k0_0.frozen
  have f0_1 := k0_1.frozen
  have l0_0 := k0_0.lt
  have l0_1 := k0_1.lt
  have l0 := hB0.size
  by_cases hk : k = 2
  · subst hk
    as_aux_lemma =>
      go_wp2_with fail
      refine (awake24 _).mono ?_
      rintro e w6 ⟨rfl, hb⟩
      have hB6 : Below w.heap.size w w6 := Below.trans (by (repeat' (first | (with_reducible exact Below.refl _ _) | (with_reducible assumption) | (with_reducible refine below_drewN ?_ _) | (with_reducible refine Below.drew ?_) | (with_reducible refine Below.alloc ?_ ?_ _) | (with_reducible refine Below.setCell ?_ ?_ _) | omega | (simp; done) | (simp; omega)))) (hb.mono (by first | omega | (simp; done) | (simp; omega)))
      go_wp2_with fail
      go_ret
      exact ⟨rfl, hB6⟩
  have k2 : k < 2 := by omega
  have d1 : decide (k < 2) = true := by simpa using k2
  clear hk
  obtain ⟨L, eL⟩ : ∃ L, overL tl th c al vl vh n = L := ⟨_, rfl⟩
  obtain ⟨H, eH⟩ : ∃ L, overH tl th c al vl vh n = L := ⟨_, rfl⟩
  obtain ⟨b, eb⟩ : ∃ b, decide (OverMay tl th c al vl vh n) = b := ⟨_, rfl⟩
  have o1 := fun w => over_any tl th c al vl vh n w
  have o2 := fun w => overR_any tl th c al vl vh n w
  unfold OverAny at o1 o2
  rw [eL, eH, eb] at o1 o2
  obtain ⟨Y, eY⟩ : ∃ Y, byteV tl th = Y := ⟨_, rfl⟩
  obtain ⟨G, eG⟩ : ∃ Y, greyV vl vh n = Y := ⟨_, rfl⟩
  obtain ⟨S, eS⟩ : ∃ Y, 65536 * clamp c = Y := ⟨_, rfl⟩
  have O1 := Lib.hid o1
  have O2 := Lib.hid o2
  have P1 : Hid (∀ w d os, Calls Try.prog 18 #[.agg #[.int .i64 tl, .int .i64 th]] (grow (redrawn w d) os) fun e w'' => e = .returned (.int .u8 Y) ∧ ∃ p : Regrown, w'' = grow (redrawn w p.d) p.os) := Lib.hid (fun w d os => Calls.regrown_of (by have := byte_any tl th (grow (redrawn w d) os); rw [eY] at this; exact this))
  have P2 : Hid (∀ w d os, Calls Try.prog 19 #[.agg #[.int .i64 tl, .int .i64 th]] (grow (redrawn w d) os) fun e w'' => e = .returned (.int .u8 Y) ∧ ∃ p : Regrown, w'' = grow (redrawn w p.d) p.os) := Lib.hid (fun w d os => Calls.regrown_of (by have := byteR_any tl th (grow (redrawn w d) os); rw [eY] at this; exact this))
  have P3 : Hid (∀ w d os, Calls Try.prog 20 #[.agg #[.int .i64 vl, .int .i64 vh], .int .i64 n] (grow (redrawn w d) os) fun e w'' => e = .returned (.int .u8 G) ∧ ∃ p : Regrown, w'' = grow (redrawn w p.d) p.os) := Lib.hid (fun w d os => Calls.regrown_of (by have := grey_any vl vh n (grow (redrawn w d) os); rw [eG] at this; exact this))
  have P4 : Hid (∀ w d os, Calls Try.prog 21 #[.agg #[.int .i64 vl, .int .i64 vh], .int .i64 n] (grow (redrawn w d) os) fun e w'' => e = .returned (.int .u8 G) ∧ ∃ p : Regrown, w'' = grow (redrawn w p.d) p.os) := Lib.hid (fun w d os => Calls.regrown_of (by have := greyR_any vl vh n (grow (redrawn w d) os); rw [eG] at this; exact this))
  have P5 : Hid (∀ w d os, Calls Try.prog 13 #[.int .i64 c] (grow (redrawn w d) os) fun e w'' => e = .returned (.agg #[.int .i64 S, .int .i64 S]) ∧ ∃ p : Regrown, w'' = grow (redrawn w p.d) p.os) := Lib.hid (fun w d os => Calls.regrown_of (by have := start c (grow (redrawn w d) os); rw [eS] at this; exact this))
  have P6 : Hid (∀ w d os, Calls Try.prog 22 #[.int .i64 c] (grow (redrawn w d) os) fun e w'' => e = .returned (.agg #[.int .i64 S, .int .i64 S]) ∧ ∃ p : Regrown, w'' = grow (redrawn w p.d) p.os) := Lib.hid (fun w d os => Calls.regrown_of (by have := startR c (grow (redrawn w d) os); rw [eS] at this; exact this))
  clear o1 o2 eL eH eb eY eG eS
  obtain ⟨i, m, ei, hi8, hm, ht⟩ := table_at n
  have hM := Lib.hid hm
  have hT := Lib.hid ht
  clear hm ht
  have hi8' : (i : Int) < 8 := by omega
  go_wp2_with fail
  refine (O1.out _).mono ?_
  rintro e w1 ⟨rfl, hb⟩
  have hB1 : Below w.heap.size w w1 := Below.trans (by (repeat' (first | (with_reducible exact Below.refl _ _) | (with_reducible assumption) | (with_reducible refine below_drewN ?_ _) | (with_reducible refine Below.drew ?_) | (with_reducible refine Below.alloc ?_ ?_ _) | (with_reducible refine Below.setCell ?_ ?_ _) | omega | (simp; done) | (simp; omega)))) (hb.mono (by first | omega | (simp; done) | (simp; omega)))
  have k1_0 : Blk w1 (w.heap.size) 34 #[.int .i64 tl, .int .i64 th] := Blk.below (by (repeat' (first | (with_reducible assumption) | (with_reducible exact Blk.new _ _ _) | (exact Blk.newAt (by first | rfl | (simp; done) | omega)) | (with_reducible refine Blk.drewN ?_ _) | (with_reducible refine Blk.drew ?_) | (with_reducible refine Blk.alloc ?_ _) | (with_reducible apply Blk.set_) | (with_reducible refine Blk.far ?_ ?_ _) | rfl | omega | (simp; done) | (simp; omega)))) hb (by first | omega | (simp; done) | (simp; omega))
  have k1_1 : Blk w1 (w.heap.size + 1) 38 #[.int .i64 vl, .int .i64 vh] := Blk.below (by (repeat' (first | (with_reducible assumption) | (with_reducible exact Blk.new _ _ _) | (exact Blk.newAt (by first | rfl | (simp; done) | omega)) | (with_reducible refine Blk.drewN ?_ _) | (with_reducible refine Blk.drew ?_) | (with_reducible refine Blk.alloc ?_ _) | (with_reducible apply Blk.set_) | (with_reducible refine Blk.far ?_ ?_ _) | rfl | omega | (simp; done) | (simp; omega)))) hb (by first | omega | (simp; done) | (simp; omega))
  have c1_0 := k1_0.cell
  have f1_0 := k1_0.frozen
  have l1_0 := k1_0.lt
  have c1_1 := k1_1.cell
  have f1_1 := k1_1.frozen
  have l1_1 := k1_1.lt
  have l1 := hB1.size
  clear hb k0_0 c0_0 f0_0 l0_0 k0_1 c0_1 f0_1 l0_1 hB0
  go_wp2_with fail
  focus
    refine (O2.out _).mono ?_
    rintro e w2 ⟨rfl, hb⟩
    have hB2 : Below w.heap.size w w2 := Below.trans (by (repeat' (first | (with_reducible exact Below.refl _ _) | (with_reducible assumption) | (with_reducible refine below_drewN ?_ _) | (with_reducible refine Below.drew ?_) | (with_reducible refine Below.alloc ?_ ?_ _) | (with_reducible refine Below.setCell ?_ ?_ _) | omega | (simp; done) | (simp; omega)))) (hb.mono (by first | omega | (simp; done) | (simp; omega)))
    have k2_0 : Blk w2 (w.heap.size) 34 #[.int .i64 tl, .int .i64 th] := Blk.below (by (repeat' (first | (with_reducible assumption) | (with_reducible exact Blk.new _ _ _) | (exact Blk.newAt (by first | rfl | (simp; done) | omega)) | (with_reducible refine Blk.drewN ?_ _) | (with_reducible refine Blk.drew ?_) | (with_reducible refine Blk.alloc ?_ _) | (with_reducible apply Blk.set_) | (with_reducible refine Blk.far ?_ ?_ _) | rfl | omega | (simp; done) | (simp; omega)))) hb (by first | omega | (simp; done) | (simp; omega))
    have k2_1 : Blk w2 (w.heap.size + 1) 38 #[.int .i64 vl, .int .i64 vh] := Blk.below (by (repeat' (first | (with_reducible assumption) | (with_reducible exact Blk.new _ _ _) | (exact Blk.newAt (by first | rfl | (simp; done) | omega)) | (with_reducible refine Blk.drewN ?_ _) | (with_reducible refine Blk.drew ?_) | (with_reducible refine Blk.alloc ?_ _) | (with_reducible apply Blk.set_) | (with_reducible refine Blk.far ?_ ?_ _) | rfl | omega | (simp; done) | (simp; omega)))) hb (by first | omega | (simp; done) | (simp; omega))
    have k2_2 : Blk w2 (w1.heap.size) 34 #[.int .i64 L, .int .i64 H] := Blk.below (by (repeat' (first | (with_reducible assumption) | (with_reducible exact Blk.new _ _ _) | (exact Blk.newAt (by first | rfl | (simp; done) | omega)) | (with_reducible refine Blk.drewN ?_ _) | (with_reducible refine Blk.drew ?_) | (with_reducible refine Blk.alloc ?_ _) | (with_reducible apply Blk.set_) | (with_reducible refine Blk.far ?_ ?_ _) | rfl | omega | (simp; done) | (simp; omega)))) hb (by first | omega | (simp; done) | (simp; omega))
    have c2_0 := k2_0.cell
    have f2_0 := k2_0.frozen
    have l2_0 := k2_0.lt
    have c2_1 := k2_1.cell
    have f2_1 := k2_1.frozen
    have l2_1 := k2_1.lt
    have c2_2 := k2_2.cell
    have f2_2 := k2_2.frozen
    have l2_2 := k2_2.lt
    have l2 := hB2.size
    clear hb k1_0 c1_0 f1_0 l1_0 k1_1 c1_1 f1_1 l1_1 hB1
    go_upto_region 6 with (fail)
    focus
      have xa0 := cell_regrown (w := (w2.alloc (.cells #[.int .i64 L, .int .i64 H] 34))) (a := ⟨w.heap.size, 0, none⟩) (v := .int .i64 tl) (by simp [go_sem, *])
      have xa1 := cell_regrown (w := (w2.alloc (.cells #[.int .i64 L, .int .i64 H] 34))) (a := ⟨w.heap.size, 1, none⟩) (v := .int .i64 th) (by simp [go_sem, *])
      have xb0 := cell_regrown (w := (w2.alloc (.cells #[.int .i64 L, .int .i64 H] 34))) (a := ⟨(w.heap.size + 1), 0, none⟩) (v := .int .i64 vl) (by simp [go_sem, *])
      have xb1 := cell_regrown (w := (w2.alloc (.cells #[.int .i64 L, .int .i64 H] 34))) (a := ⟨(w.heap.size + 1), 1, none⟩) (v := .int .i64 vh) (by simp [go_sem, *])
      have xc0 := cell_regrown (w := (w2.alloc (.cells #[.int .i64 L, .int .i64 H] 34))) (a := ⟨w1.heap.size, 0, none⟩) (v := .int .i64 L) (by simp [go_sem, *])
      have xc1 := cell_regrown (w := (w2.alloc (.cells #[.int .i64 L, .int .i64 H] 34))) (a := ⟨w1.heap.size, 1, none⟩) (v := .int .i64 H) (by simp [go_sem, *])
      have xd0 := cell_regrown (w := (w2.alloc (.cells #[.int .i64 L, .int .i64 H] 34))) (a := ⟨w2.heap.size, 0, none⟩) (v := .int .i64 L) (by simp [go_sem, *])
      have xd1 := cell_regrown (w := (w2.alloc (.cells #[.int .i64 L, .int .i64 H] 34))) (a := ⟨w2.heap.size, 1, none⟩) (v := .int .i64 H) (by simp [go_sem, *])
      refine wp_region_quiet_below (by kernel_rfl) (by kernel_rfl) ?_
      repeat (first | go_big_quiet_step (first | (with_reducible exact P1.out _ _ _) | (with_reducible exact P2.out _ _ _) | (with_reducible exact P3.out _ _ _) | (with_reducible exact P4.out _ _ _) | (with_reducible exact P5.out _ _ _) | (with_reducible exact P6.out _ _ _)) | quiet_step (first | (with_reducible exact P1.out _ _ _) | (with_reducible exact P2.out _ _ _) | (with_reducible exact P3.out _ _ _) | (with_reducible exact P4.out _ _ _) | (with_reducible exact P5.out _ _ _) | (with_reducible exact P6.out _ _ _)))
      refine wpQuiet_nil ?_
      intro w3 hw'
      have hb : Below (w2.alloc (.cells #[.int .i64 L, .int .i64 H] 34)).heap.size (w2.alloc (.cells #[.int .i64 L, .int .i64 H] 34)) w3 := by obtain ⟨p, rfl⟩ := hw'; exact below_regrown _ _ _
      clear hw' xa0 xa1 xb0 xb1 xc0 xc1 xd0 xd1
      have hB3 : Below w.heap.size w w3 := Below.trans (by (repeat' (first | (with_reducible exact Below.refl _ _) | (with_reducible assumption) | (with_reducible refine below_drewN ?_ _) | (with_reducible refine Below.drew ?_) | (with_reducible refine Below.alloc ?_ ?_ _) | (with_reducible refine Below.setCell ?_ ?_ _) | omega | (simp; done) | (simp; omega)))) (hb.mono (by first | omega | (simp; done) | (simp; omega)))
      have k3_0 : Blk w3 w.heap.size 34 #[.int .i64 tl, .int .i64 th] := Blk.below (by (repeat' (first | (with_reducible assumption) | (with_reducible exact Blk.new _ _ _) | (exact Blk.newAt (by first | rfl | (simp; done) | omega)) | (with_reducible refine Blk.drewN ?_ _) | (with_reducible refine Blk.drew ?_) | (with_reducible refine Blk.alloc ?_ _) | (with_reducible apply Blk.set_) | (with_reducible refine Blk.far ?_ ?_ _) | rfl | omega | (simp; done) | (simp; omega)))) hb (by first | omega | (simp; done) | (simp; omega))
      have k3_1 : Blk w3 (w.heap.size + 1) 38 #[.int .i64 vl, .int .i64 vh] := Blk.below (by (repeat' (first | (with_reducible assumption) | (with_reducible exact Blk.new _ _ _) | (exact Blk.newAt (by first | rfl | (simp; done) | omega)) | (with_reducible refine Blk.drewN ?_ _) | (with_reducible refine Blk.drew ?_) | (with_reducible refine Blk.alloc ?_ _) | (with_reducible apply Blk.set_) | (with_reducible refine Blk.far ?_ ?_ _) | rfl | omega | (simp; done) | (simp; omega)))) hb (by first | omega | (simp; done) | (simp; omega))
      have c3_0 := k3_0.cell
      have f3_0 := k3_0.frozen
      have l3_0 := k3_0.lt
      have c3_1 := k3_1.cell
      have f3_1 := k3_1.frozen
      have l3_1 := k3_1.lt
      have l3 := hB3.size
      clear hb k2_0 c2_0 f2_0 l2_0 k2_1 c2_1 f2_1 l2_1 k2_2 c2_2 f2_2 l2_2 hB2 l2 l1 P1 P2 P3 P4 P5 P6
      go_upto_region 8 with (fail)
      go_cut [1, 2, 4] (fun s1 s2 s4 wx => Midst w vl vh s1 s2 s4 wx)
      case first =>
        go_region_with (go_at_call 23; refine (tone _ _ _).mono ?_; rintro e wq ⟨lo, hi, h0, h1, h2, rfl, hb⟩; have hK : Blk wq w.heap.size 34 #[.int .i64 tl, .int .i64 th] := Blk.below (by (repeat' (first | (with_reducible assumption) | (with_reducible exact Blk.new _ _ _) | (exact Blk.newAt (by first | rfl | (simp; done) | omega)) | (with_reducible refine Blk.drewN ?_ _) | (with_reducible refine Blk.drew ?_) | (with_reducible refine Blk.alloc ?_ _) | (with_reducible apply Blk.set_) | (with_reducible refine Blk.far ?_ ?_ _) | rfl | omega | (simp; done) | (simp; omega)))) hb (by first | omega | (simp; done) | (simp; omega)); have hkf := hK.frozen; have hkl := hK.lt; have hkc := hK.cell; obtain ⟨hc, hf⟩ := bcell hb; clear hf; (first | (have hl : w3.heap.size < wq.heap.size := by (have := hb.size; simp at this; omega)) | have hl : w3.heap.size ≤ wq.heap.size := hb.size | skip))
        all_goals as_aux_lemma =>
          go_wp2_with fail
          go_meet
          first
            | ((with_reducible refine midst_b ?_ hM.out k3_0 k3_1 hB3 hb); exact table_in hT.out (by simpa using hi8))
            | ((with_reducible refine midst_a ?_ hM.out k3_0 k3_1 hB3 hb); exact table_in hT.out (by simpa using hi8))
      case rest =>
        obtain ⟨c', al', n', lo, hi, rfl, rfl, rfl, hn, k4_0, k4_1, hB4⟩ := hcut
        obtain ⟨n0, n1⟩ := cellsN_bd hn
        clear hM hT ei hi8 hi8' hn k3_0 k3_1 c3_0 c3_1 f3_0 f3_1 l3_0 l3_1 hB3
        have c4_0 := k4_0.cell
        have f4_0 := k4_0.frozen
        have l4_0 := k4_0.lt
        have c4_1 := k4_1.cell
        have f4_1 := k4_1.frozen
        have l4_1 := k4_1.lt
        have l4 := hB4.size
        as_aux_lemma =>
          go_wp2_with fail
          refine (cov _ _ _ (by omega) n1 _).mono ?_
          rintro e w5 ⟨pl, ph, g0, g1, g2, rfl, hb⟩
          have hB5 : Below w.heap.size w w5 := Below.trans (by (repeat' (first | (with_reducible exact Below.refl _ _) | (with_reducible assumption) | (with_reducible refine below_drewN ?_ _) | (with_reducible refine Below.drew ?_) | (with_reducible refine Below.alloc ?_ ?_ _) | (with_reducible refine Below.setCell ?_ ?_ _) | omega | (simp; done) | (simp; omega)))) (hb.mono (by first | omega | (simp; done) | (simp; omega)))
          have k5_0 : Blk w5 w.heap.size 34 #[.int .i64 lo, .int .i64 hi] := Blk.below (by (repeat' (first | (with_reducible assumption) | (with_reducible exact Blk.new _ _ _) | (exact Blk.newAt (by first | rfl | (simp; done) | omega)) | (with_reducible refine Blk.drewN ?_ _) | (with_reducible refine Blk.drew ?_) | (with_reducible refine Blk.alloc ?_ _) | (with_reducible apply Blk.set_) | (with_reducible refine Blk.far ?_ ?_ _) | rfl | omega | (simp; done) | (simp; omega)))) hb (by first | omega | (simp; done) | (simp; omega))
          have k5_1 : Blk w5 (w.heap.size + 1) 38 #[.int .i64 vl, .int .i64 vh] := Blk.below (by (repeat' (first | (with_reducible assumption) | (with_reducible exact Blk.new _ _ _) | (exact Blk.newAt (by first | rfl | (simp; done) | omega)) | (with_reducible refine Blk.drewN ?_ _) | (with_reducible refine Blk.drew ?_) | (with_reducible refine Blk.alloc ?_ _) | (with_reducible apply Blk.set_) | (with_reducible refine Blk.far ?_ ?_ _) | rfl | omega | (simp; done) | (simp; omega)))) hb (by first | omega | (simp; done) | (simp; omega))
          have f5_1 := k5_1.frozen
          have l5_1 := k5_1.lt
          have c5_1 := k5_1.cell
          have l5 := hB5.size
          clear hb k4_0 k4_1 c4_0 c4_1 f4_0 f4_1 l4_0 l4_1 hB4
          go_wp2_with fail
          go_roundw
          case rel =>
            refine ⟨k + 1, _, _, _, lo, hi, pl, ph, rfl, rfl, rfl, rfl, by omega, by omega, ?_, ?_, ?_⟩
            · (repeat' (first | (with_reducible assumption) | (with_reducible exact Blk.new _ _ _) | (exact Blk.newAt (by first | rfl | (simp; done) | omega)) | (with_reducible refine Blk.drewN ?_ _) | (with_reducible refine Blk.drew ?_) | (with_reducible refine Blk.alloc ?_ _) | (with_reducible apply Blk.set_) | (with_reducible refine Blk.far ?_ ?_ _) | rfl | omega | (simp; done) | (simp; omega)))
            · (repeat' (first | (with_reducible assumption) | (with_reducible exact Blk.new _ _ _) | (exact Blk.newAt (by first | rfl | (simp; done) | omega)) | (with_reducible refine Blk.drewN ?_ _) | (with_reducible refine Blk.drew ?_) | (with_reducible refine Blk.alloc ?_ _) | (with_reducible apply Blk.set_) | (with_reducible refine Blk.far ?_ ?_ _) | rfl | omega | (simp; done) | (simp; omega)))
            · (repeat' (first | (with_reducible exact Below.refl _ _) | (with_reducible assumption) | (with_reducible refine below_drewN ?_ _) | (with_reducible refine Below.drew ?_) | (with_reducible refine Below.alloc ?_ ?_ _) | (with_reducible refine Below.setCell ?_ ?_ _) | omega | (simp; done) | (simp; omega)))
          case measure => simp [intOf]; omega
end Go.Proofs.Ytcpfpefbpeidpaa
