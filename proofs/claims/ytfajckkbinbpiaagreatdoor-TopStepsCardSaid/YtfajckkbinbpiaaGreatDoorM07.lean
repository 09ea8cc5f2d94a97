/- Walks: a step as it is written. -/
import Derived.Test.YtfajckkbinbpiaaGreatDoorM06
namespace Go.Proofs.YtfajckkbinbpiaaGreatDoor
open Go.RowKit
set_option linter.unusedVariables false
set_option linter.unusedSimpArgs false

theorem own_of_blk {w : World} {g t size n : Nat} {cs : Array Value} (h : Blk w g t cs) (hn : n ≤ maxLen) (hs : cs.size = n * size) {B : Nat} (hB : B ≤ g) : w.ownsRow B t size (.slice (some ⟨g, 0, none⟩) n n) n cs.toList := by
  refine ⟨by simpa using hs, .inr ⟨g, n, cs, rfl, hB, h, Nat.le_refl _, hn, hs, ?_⟩⟩
  rw [← hs, ← Array.length_toList, List.take_length]
/-- A byte that is a digit. -/
def Dig (b : UInt8) : Prop := 48 ≤ b.toNat ∧ b.toNat ≤ 57
theorem dig_one {b : UInt8} (h : Dig b) : Digits [b] := by intro c hc; simp at hc; subst hc; exact h
theorem dig_num (b : UInt8) : numV [b] = b.toNat - 48 := by simp [numV]
theorem dig_ne {b c : UInt8} (h : Dig b) (hc : 57 < c.toNat) : c ∉ [b] := by
  intro hm; simp at hm; subst hm; have := h.2; omega
set_option maxRecDepth 100000 in
set_option maxHeartbeats 4000000 in
theorem step_c (n m x y : UInt8) (w : World) (dn : Dig n) (dm : Dig m) (dx : Dig x) (dy : Dig y) : Calls Tryz.prog 151 #[.string { data := #[88, n, 89, m, 73, x, 74, y] }] w fun e w' => ∃ v, e = .returned (.tuple #[.agg #[.int .i64 0, .int .i64 13, .int .i64 ((n.toNat - 48 : Nat) : Int), .int .i64 ((m.toNat - 48 : Nat) : Int), .bool false, .string { data := #[] }, .string { data := #[] }, .string { data := #[] }, .string { data := #[] }, .string { data := #[] }, v, .slice none 0 0], .bool true]) ∧ Nums w' w.heap.size v [(((x.toNat - 48) * 1000000 : Nat) : Int), (((y.toNat - 48) * 1000000 : Nat) : Int)] ∧ Below w.heap.size w w' := by
  obtain ⟨N, eN⟩ : ∃ N : Int, ((n.toNat - 48 : Nat) : Int) = N := ⟨_, rfl⟩
  obtain ⟨M, eM⟩ : ∃ N : Int, ((m.toNat - 48 : Nat) : Int) = N := ⟨_, rfl⟩
  obtain ⟨P, eP⟩ : ∃ N : Int, (((x.toNat - 48) * 1000000 : Nat) : Int) = N := ⟨_, rfl⟩
  obtain ⟨Q, eQ⟩ : ∃ N : Int, (((y.toNat - 48) * 1000000 : Nat) : Int) = N := ⟨_, rfl⟩
  have h1 : ∀ w, Calls Tryz.prog 93 #[.string { data := #[88, n, 89, m, 73, x, 74, y] }, .string { data := #[88] }] w fun e w' => e = .returned (.tuple #[.string { data := #[n, 89, m, 73, x, 74, y] }, .bool true]) ∧ w = w' := fun w => cutP_yes [88] [n, 89, m, 73, x, 74, y] w (by simp)
  have h2 : ∀ w, Calls Tryz.prog 196 #[.string { data := #[n, 89, m, 73, x, 74, y] }, .string { data := #[89] }] w fun e w' => e = .returned (.tuple #[.string { data := #[n] }, .string { data := #[m, 73, x, 74, y] }, .bool true]) ∧ Below w.heap.size w w' := fun w => cut_yes [n] [m, 73, x, 74, y] 89 w (by simp) (dig_ne dn (by decide)) (by simp)
  have h3 : ∀ w, Calls Tryz.prog 196 #[.string { data := #[m, 73, x, 74, y] }, .string { data := #[73] }] w fun e w' => e = .returned (.tuple #[.string { data := #[m] }, .string { data := #[x, 74, y] }, .bool true]) ∧ Below w.heap.size w w' := fun w => cut_yes [m] [x, 74, y] 73 w (by simp) (dig_ne dm (by decide)) (by simp)
  have h4 : ∀ w, Calls Tryz.prog 196 #[.string { data := #[x, 74, y] }, .string { data := #[74] }] w fun e w' => e = .returned (.tuple #[.string { data := #[x] }, .string { data := #[y] }, .bool true]) ∧ Below w.heap.size w w' := fun w => cut_yes [x] [y] 74 w (by simp) (dig_ne dx (by decide)) (by simp)
  have h5 : ∀ w, Calls Tryz.prog 154 #[.string { data := #[n] }] w fun e w' => e = .returned (.tuple #[.int .i64 N, .bool true]) ∧ w = w' := fun w => by have h := count_c [n] w (by simp) (by simp) (dig_one dn); rw [dig_num, eN] at h; exact h
  have h6 : ∀ w, Calls Tryz.prog 154 #[.string { data := #[m] }] w fun e w' => e = .returned (.tuple #[.int .i64 M, .bool true]) ∧ w = w' := fun w => by have h := count_c [m] w (by simp) (by simp) (dig_one dm); rw [dig_num, eM] at h; exact h
  have h7 : ∀ w, Calls Tryz.prog 152 #[.string { data := #[x] }] w fun e w' => e = .returned (.tuple #[.int .i64 P, .bool true]) ∧ w = w' := fun w => by have h := parse_int [x] w (by simp) (by simp) (dig_one dx); rw [dig_num, eP] at h; exact h
  have h8 : ∀ w, Calls Tryz.prog 152 #[.string { data := #[y] }] w fun e w' => e = .returned (.tuple #[.int .i64 Q, .bool true]) ∧ w = w' := fun w => by have h := parse_int [y] w (by simp) (by simp) (dig_one dy); rw [dig_num, eQ] at h; exact h
  rw [eN, eM, eP, eQ]
  have H1 := Lib.hid h1
  have H2 := Lib.hid h2
  have H3 := Lib.hid h3
  have H4 := Lib.hid h4
  have H5 := Lib.hid h5
  have H6 := Lib.hid h6
  have H7 := Lib.hid h7
  have H8 := Lib.hid h8
  clear h1 h2 h3 h4 h5 h6 h7 h8 eN eM eP eQ dn dm dx dy
  obtain ⟨A0, eA0⟩ : ∃ T : ByteArray, { data := #[88, n, 89, m, 73, x, 74, y] } = T := ⟨_, rfl⟩
  obtain ⟨A1, eA1⟩ : ∃ T : ByteArray, { data := #[n, 89, m, 73, x, 74, y] } = T := ⟨_, rfl⟩
  obtain ⟨A2, eA2⟩ : ∃ T : ByteArray, { data := #[m, 73, x, 74, y] } = T := ⟨_, rfl⟩
  obtain ⟨A3, eA3⟩ : ∃ T : ByteArray, { data := #[x, 74, y] } = T := ⟨_, rfl⟩
  obtain ⟨An, eAn⟩ : ∃ T : ByteArray, { data := #[n] } = T := ⟨_, rfl⟩
  obtain ⟨Am, eAm⟩ : ∃ T : ByteArray, { data := #[m] } = T := ⟨_, rfl⟩
  obtain ⟨Ax, eAx⟩ : ∃ T : ByteArray, { data := #[x] } = T := ⟨_, rfl⟩
  obtain ⟨Ay, eAy⟩ : ∃ T : ByteArray, { data := #[y] } = T := ⟨_, rfl⟩
  rw [eA0, eA1] at H1
  rw [eA1, eAn, eA2] at H2
  rw [eA2, eAm, eA3] at H3
  rw [eA3, eAx, eAy] at H4
  rw [eAn] at H5
  rw [eAm] at H6
  rw [eAx] at H7
  rw [eAy] at H8
  rw [eA0]
  clear eA0 eA1 eA2 eA3 eAn eAm eAx eAy
  go_enter Tryz.func151, Tryz.ntmps151
  go_wp2_with (go_at_call 93; ((with_reducible refine (H1.out _).mono ?_); rintro e w' ⟨rfl, rfl⟩))
  refine (H2.out _).mono ?_
  rintro e w1 ⟨rfl, hb⟩
  have hB1 : Below w.heap.size w w1 := Below.trans (by (repeat' (first | (with_reducible exact Below.refl _ _) | (with_reducible assumption) | (with_reducible refine below_drewN ?_ _) | (with_reducible refine Below.drew ?_) | (with_reducible refine Below.alloc ?_ ?_ _) | (with_reducible refine Below.setCell ?_ ?_ _) | omega | (simp; done) | (simp; omega)))) (hb.mono (by first | omega | (simp; done) | (simp; omega)))
  have k1_0 : Blk w1 (w.heap.size) 103 #[.int .i64 0, .int .i64 0, .int .i64 0, .int .i64 0, .bool false, .string { data := #[] }, .string { data := #[] }, .string { data := #[] }, .string { data := #[] }, .string { data := #[] }, .slice none 0 0, .slice none 0 0] := Blk.below (by (repeat' (first | (with_reducible assumption) | (with_reducible exact Blk.new _ _ _) | (exact Blk.newAt (by first | rfl | (simp; done) | omega)) | (with_reducible refine Blk.drewN ?_ _) | (with_reducible refine Blk.drew ?_) | (with_reducible refine Blk.alloc ?_ _) | (with_reducible apply Blk.set_) | (with_reducible refine Blk.far ?_ ?_ _) | rfl | omega | (simp; done) | (simp; omega)))) hb (by first | omega | (simp; done) | (simp; omega))
  have c1_0 := k1_0.cell
  have f1_0 := k1_0.frozen
  have l1_0 := k1_0.lt
  have l1 := hB1.size
  clear hb
  go_wp2_with fail
  refine (H3.out _).mono ?_
  rintro e w2 ⟨rfl, hb⟩
  have hB2 : Below w.heap.size w w2 := Below.trans (by (repeat' (first | (with_reducible exact Below.refl _ _) | (with_reducible assumption) | (with_reducible refine below_drewN ?_ _) | (with_reducible refine Below.drew ?_) | (with_reducible refine Below.alloc ?_ ?_ _) | (with_reducible refine Below.setCell ?_ ?_ _) | omega | (simp; done) | (simp; omega)))) (hb.mono (by first | omega | (simp; done) | (simp; omega)))
  have k2_0 : Blk w2 (w.heap.size) 103 #[.int .i64 0, .int .i64 0, .int .i64 0, .int .i64 0, .bool false, .string { data := #[] }, .string { data := #[] }, .string { data := #[] }, .string { data := #[] }, .string { data := #[] }, .slice none 0 0, .slice none 0 0] := Blk.below (by (repeat' (first | (with_reducible assumption) | (with_reducible exact Blk.new _ _ _) | (exact Blk.newAt (by first | rfl | (simp; done) | omega)) | (with_reducible refine Blk.drewN ?_ _) | (with_reducible refine Blk.drew ?_) | (with_reducible refine Blk.alloc ?_ _) | (with_reducible apply Blk.set_) | (with_reducible refine Blk.far ?_ ?_ _) | rfl | omega | (simp; done) | (simp; omega)))) hb (by first | omega | (simp; done) | (simp; omega))
  have c2_0 := k2_0.cell
  have f2_0 := k2_0.frozen
  have l2_0 := k2_0.lt
  have l2 := hB2.size
  clear hb k1_0 c1_0 f1_0
  go_wp2_with fail
  refine (H4.out _).mono ?_
  rintro e w3 ⟨rfl, hb⟩
  have hB3 : Below w.heap.size w w3 := Below.trans (by (repeat' (first | (with_reducible exact Below.refl _ _) | (with_reducible assumption) | (with_reducible refine below_drewN ?_ _) | (with_reducible refine Below.drew ?_) | (with_reducible refine Below.alloc ?_ ?_ _) | (with_reducible refine Below.setCell ?_ ?_ _) | omega | (simp; done) | (simp; omega)))) (hb.mono (by first | omega | (simp; done) | (simp; omega)))
  have k3_0 : Blk w3 (w.heap.size) 103 #[.int .i64 0, .int .i64 0, .int .i64 0, .int .i64 0, .bool false, .string { data := #[] }, .string { data := #[] }, .string { data := #[] }, .string { data := #[] }, .string { data := #[] }, .slice none 0 0, .slice none 0 0] := Blk.below (by (repeat' (first | (with_reducible assumption) | (with_reducible exact Blk.new _ _ _) | (exact Blk.newAt (by first | rfl | (simp; done) | omega)) | (with_reducible refine Blk.drewN ?_ _) | (with_reducible refine Blk.drew ?_) | (with_reducible refine Blk.alloc ?_ _) | (with_reducible apply Blk.set_) | (with_reducible refine Blk.far ?_ ?_ _) | rfl | omega | (simp; done) | (simp; omega)))) hb (by first | omega | (simp; done) | (simp; omega))
  have c3_0 := k3_0.cell
  have f3_0 := k3_0.frozen
  have l3_0 := k3_0.lt
  have l3 := hB3.size
  clear hb k2_0 c2_0 f2_0
  go_wp2_with fail
  refine (H5.out _).mono ?_
  rintro e w' ⟨rfl, rfl⟩
  go_wp2_with fail
  refine (H6.out _).mono ?_
  rintro e w' ⟨rfl, rfl⟩
  go_wp2_with fail
  refine (H7.out _).mono ?_
  rintro e w' ⟨rfl, rfl⟩
  go_wp2_with fail
  refine (H8.out _).mono ?_
  rintro e w' ⟨rfl, rfl⟩
  have hk4 := k3_0.alloc (.cells #[.int .i64 P, .int .i64 Q] 2)
  have HK := Lib.hid hk4
  clear hk4
  go_wp2_with (refine wpList_storeBlk rfl 103 (.tmp 2) (.tmp 86) rfl rfl w.heap.size #[.int .i64 0, .int .i64 13, .int .i64 N, .int .i64 M, .bool false, .string { data := #[] }, .string { data := #[] }, .string { data := #[] }, .string { data := #[] }, .string { data := #[] }, .slice (some ⟨w3.heap.size, 0, none⟩) 2 2, .slice none 0 0] (by simp [Act.eval]) (by simp [Act.eval]) 103 #[.int .i64 0, .int .i64 0, .int .i64 0, .int .i64 0, .bool false, .string { data := #[] }, .string { data := #[] }, .string { data := #[] }, .string { data := #[] }, .string { data := #[] }, .slice none 0 0, .slice none 0 0] HK.out (by kernel_rfl) (by kernel_rfl) (by kernel_rfl) ?_)
  intro w5 k5 hgr
  have hb5 : Below w.heap.size w w5 := Below.grown (Below.alloc hB3 l3 _) hgr (by simp; omega) (by intro q hq; injection hq with hq; omega)
  have hk6 : Blk w5 w3.heap.size 2 #[.int .i64 P, .int .i64 Q] := Blk.grown' (Blk.new w3 2 _) hgr (by intro e; injection e with e; omega)
  have HK6 := Lib.hid hk6
  clear hgr hk6
  go_wp2_with fail
  refine bodyPost_ret (results_row_tmp Tryz.results151 _ _ w.heap.size #[.int .i64 0, .int .i64 13, .int .i64 N, .int .i64 M, .bool false, .string { data := #[] }, .string { data := #[] }, .string { data := #[] }, .string { data := #[] }, .string { data := #[] }, .slice (some ⟨w3.heap.size, 0, none⟩) 2 2, .slice none 0 0] (by rfl) (run_loadVar_row _ _ 103 103 _ (0, 0) _ k5 Tryz.underlying103 rfl (by kernel_rfl))) rfl ⟨_, rfl, ?_, hb5⟩
  exact own_of_blk HK6.out (by decide) rfl (by omega)
end Go.Proofs.YtfajckkbinbpiaaGreatDoor
