/- Walks: package plot: the one square is flashed. Walks: package plot: operations. -/
import Derived.Test.YtfajckkbinbpiaaGreatDoorM18
import Derived.Test.YtfajckkbinbpiaaGreatDoorM19
import Derived.Test.YtfajckkbinbpiaaGreatDoorM25
import Derived.Test.YtfajckkbinbpiaaGreatDoorM26
import Derived.Test.YtfajckkbinbpiaaGreatDoorM16
namespace Go.Proofs.YtfajckkbinbpiaaGreatDoor
open Go.RowKit
set_option linter.unusedVariables false
set_option linter.unusedSimpArgs false

set_option maxRecDepth 100000 in
set_option maxHeartbeats 4000000 in
theorem addT_sq (P M gL B gl gp cp : Nat) (w : World) (hP : Blk w P 159 #[.int .i64 1, .int .i64 1, .int .i64 2, .int .i64 4, .bool false, .bool true, .map (some M), .int .i64 10, .slice none 0 0, .int .i64 0, .int .i64 0, .int .i64 1, .bool false, .bool true, .bool false, .bool false, .int .i64 0, .int .i64 0, .int .i64 0, .bool false, .slice none 0 0, .slice (some ⟨gL, 0, none⟩) 1 1, .int .i64 0, .int .i64 10, .bool false]) (hL : Blk w gL 162 #[.bool false, .int .i64 0, .int .i64 0, .int .i64 0, .int .i64 0, .int .i64 0, .slice none 0 0]) (hS : SqAt w gl gp cp) (hB : B ≤ w.heap.size) (hPM : P ≠ M) :
    Calls Tryz.prog 168 #[.pointer (some ⟨P, 0, none⟩), .bool true, .agg #[.int .i64 2, .int .i64 0, .int .i64 0, .int .i64 0, .int .i64 0, .int .i64 0, .int .i64 0, .int .i64 0, .slice (some ⟨gl, 0, none⟩) 1 1, .slice none 0 0], .agg #[.bool false, .bool false, .int .i64 0, .int .i64 0, .int .i64 0]] w fun e w' => ∃ gl2 gp2 cp2 g cap, e = .returned (.int .i64 0) ∧ Added P gL 6 B 0 #[.int .i64 1, .int .i64 1, .int .i64 2, .int .i64 4, .bool false, .bool true, .map (some M), .int .i64 10, .slice none 0 0, .int .i64 0, .int .i64 0, .int .i64 1, .bool false, .bool true, .bool false, .bool false, .int .i64 0, .int .i64 0, .int .i64 0, .bool false, .slice none 0 0, .slice (some ⟨gL, 0, none⟩) 1 1, .int .i64 1, .int .i64 10, .bool false] #[.bool false, .int .i64 0, .int .i64 0, .int .i64 0, .int .i64 0, .int .i64 0, .slice none 0 0] (.slice none 0 0) [.bool true, .int .i64 2, .int .i64 0, .int .i64 0, .int .i64 0, .int .i64 0, .int .i64 0, .int .i64 0, .int .i64 0, .slice (some ⟨gl2, 0, none⟩) 1 1, .slice none 0 0] g cap w w' ∧ SqAt w' gl2 gp2 cp2 := by
  have l := hP.lt
  have lL := hL.lt
  have HP := Lib.hid hP
  have HL := Lib.hid hL
  have HS := Lib.hid hS
  have HB := Lib.hid hB
  clear hP hL hS hB
  go_enter Tryz.func168, Tryz.ntmps168
  go_wp2_with fail
  refine (Apply_sq gl 1 gp cp _ ((HS.out.alloc _).alloc _)).mono ?_
  rintro e w1 ⟨gl2, gp2, cp2, rfl, hs2, hb⟩
  have hu : Only [] w w1 := (((Only.refl _ _).alloc _).alloc _).below hb (by first | (simp; done) | (simp; omega))
  have HU := Lib.hid hu
  have l1 := hb.size
  have k1 := ((HP.out.alloc _).alloc _).below hb (by first | (simp; done) | (simp; omega))
  have k2 := ((HL.out.alloc _).alloc _).below hb (by first | (simp; done) | (simp; omega))
  have n1 := hs2.ne_int (k1.cell 0) (by decide)
  have n2 := hs2.ne_blk (k2.cell 0) (by intro p n c h; cases h) (by intro h; cases h)
  have K1 := Lib.hid k1
  have K2 := Lib.hid k2
  have S2 := Lib.hid hs2
  have N12 := Lib.hid (And.intro n1 n2)
  clear hu hb k1 k2 hs2 n1 n2
  go_wp2_with fail
  refine (add_1 P gL 1 B 0 0 10 2 0 0 0 true (some ⟨gl2, 0, none⟩) 1 1 (.slice none 0 0) #[.bool false, .int .i64 0, .int .i64 0, .int .i64 0, .int .i64 0, .int .i64 0, .slice none 0 0] [] _ (K1.out.alloc _) (K2.out.alloc _) rfl (World.ownsRow_nil _ _ _ _) (by omega) (by omega) (by omega) (by omega) (by have := HB.out; have := HU.out.size; simp; omega) ((ok_sq gl2 1 gp2 cp2 _ ((S2.out.alloc _).alloc _)).mono fun e w' h => ⟨h.1, by simpa using h.2⟩)).mono ?_
  rintro e w2 ⟨g, cap, rfl, hA⟩
  have hs3 : SqAt w2 gl2 gp2 cp2 := (S2.out.alloc _).only hA.2.2.2.1 (by have := N12.out; simp [Value.ownBlock]; exact ⟨this.1.1, this.2.1⟩) (by have := N12.out; simp [Value.ownBlock]; exact ⟨this.1.2, this.2.2⟩)
  have HA := Lib.hid (hA.from ((HU.out).alloc _))
  have HS3 := Lib.hid hs3
  clear hA hs3
  go_wp2_with fail
  go_ret
  exact ⟨gl2, gp2, cp2, g, cap, rfl, HA.out, HS3.out⟩
set_option maxRecDepth 100000 in
set_option maxHeartbeats 4000000 in
theorem flash_sq (P M gL B gl gp cp : Nat) (w : World) (hP : Blk w P 159 #[.int .i64 1, .int .i64 1, .int .i64 2, .int .i64 4, .bool false, .bool true, .map (some M), .int .i64 10, .slice none 0 0, .int .i64 0, .int .i64 0, .int .i64 1, .bool false, .bool true, .bool false, .bool false, .int .i64 0, .int .i64 0, .int .i64 0, .bool false, .slice none 0 0, .slice (some ⟨gL, 0, none⟩) 1 1, .int .i64 0, .int .i64 10, .bool false]) (hL : Blk w gL 162 #[.bool false, .int .i64 0, .int .i64 0, .int .i64 0, .int .i64 0, .int .i64 0, .slice none 0 0]) (hS : SqAt w gl gp cp) (hB : B ≤ w.heap.size) (hPM : P ≠ M) (hM : IsMap w M #[{ key := .int .i64 10, val := .agg #[.int .i64 2, .int .i64 0, .int .i64 0, .int .i64 0, .int .i64 0, .int .i64 0, .int .i64 0, .int .i64 0, .slice (some ⟨gl, 0, none⟩) 1 1, .slice none 0 0, .int .i64 0, .bool false, .bool false, .slice none 0 0], born := 0 }] 1) :
    Calls Tryz.prog 165 #[.pointer (some ⟨P, 0, none⟩), .agg #[.int .i64 0, .int .i64 0]] w fun e w' => ∃ gl2 gp2 cp2 g cap, e = .returned (.int .i64 0) ∧ Added P gL 6 B 0 #[.int .i64 1, .int .i64 1, .int .i64 2, .int .i64 4, .bool false, .bool true, .map (some M), .int .i64 10, .slice none 0 0, .int .i64 0, .int .i64 0, .int .i64 1, .bool false, .bool true, .bool false, .bool false, .int .i64 0, .int .i64 0, .int .i64 0, .bool false, .slice none 0 0, .slice (some ⟨gL, 0, none⟩) 1 1, .int .i64 1, .int .i64 10, .bool false] #[.bool false, .int .i64 0, .int .i64 0, .int .i64 0, .int .i64 0, .int .i64 0, .slice none 0 0] (.slice none 0 0) [.bool true, .int .i64 2, .int .i64 0, .int .i64 0, .int .i64 0, .int .i64 0, .int .i64 0, .int .i64 0, .int .i64 0, .slice (some ⟨gl2, 0, none⟩) 1 1, .slice none 0 0] g cap w w' ∧ SqAt w' gl2 gp2 cp2 := by
  have l := hP.lt
  have lM := hM.lt
  have lL := hL.lt
  have c := hP.cell
  have f := hP.frozen
  have hl : ∀ w', w'.heap[M]? = some (.map #[{ key := .int .i64 10, val := .agg #[.int .i64 2, .int .i64 0, .int .i64 0, .int .i64 0, .int .i64 0, .int .i64 0, .int .i64 0, .int .i64 0, .slice (some ⟨gl, 0, none⟩) 1 1, .slice none 0 0, .int .i64 0, .bool false, .bool false, .slice none 0 0], born := 0 }] 1) → (Instr.lookup 151 (.map (some M)) (.int .i64 10) true).run Tryz.prog w' = .ok (.tuple #[.agg #[.int .i64 2, .int .i64 0, .int .i64 0, .int .i64 0, .int .i64 0, .int .i64 0, .int .i64 0, .int .i64 0, .slice (some ⟨gl, 0, none⟩) 1 1, .slice none 0 0, .int .i64 0, .bool false, .bool false, .slice none 0 0], .bool true]) w' := fun w' hm => look_run w' hm 10 (.agg #[.int .i64 2, .int .i64 0, .int .i64 0, .int .i64 0, .int .i64 0, .int .i64 0, .int .i64 0, .int .i64 0, .slice (some ⟨gl, 0, none⟩) 1 1, .slice none 0 0, .int .i64 0, .bool false, .bool false, .slice none 0 0], true) rfl (fun h => by cases h)
  have HP := Lib.hid hP
  have HL := Lib.hid hL
  have HS := Lib.hid hS
  have HB := Lib.hid hB
  clear hP hL hS hB
  go_enter Tryz.func165, Tryz.ntmps165
  go_wp2_with fail
  have hl1 := hl _ ((hM.alloc (.cells #[.int .i64 0, .int .i64 0] 58)).drew)
  have hl2 := hl _ (((hM.alloc (.cells #[.int .i64 0, .int .i64 0] 58)).alloc (.cells #[.int .i64 0, .int .i64 0, .int .i64 0, .int .i64 0, .int .i64 0, .int .i64 0, .int .i64 0, .int .i64 0, .slice none 0 0, .slice none 0 0, .int .i64 0, .bool false, .bool false, .slice none 0 0] 280)).drew)
  clear hl
  go_region
  all_goals
    go_wp2_with fail
    obtain ⟨u, eu⟩ : ∃ u, (((w.alloc (.cells #[.int .i64 0, .int .i64 0] 58)).alloc (.cells #[.int .i64 2, .int .i64 0, .int .i64 0, .int .i64 0, .int .i64 0, .int .i64 0, .int .i64 0, .int .i64 0, .slice (some ⟨gl, 0, none⟩) 1 1, .slice none 0 0, .int .i64 0, .bool false, .bool false, .slice none 0 0] 280)).alloc (.cells #[.bool false, .bool false, .int .i64 0, .int .i64 0, .int .i64 0] 157)).drew = u := ⟨_, rfl⟩
    have u1 : Blk u P 159 #[.int .i64 1, .int .i64 1, .int .i64 2, .int .i64 4, .bool false, .bool true, .map (some M), .int .i64 10, .slice none 0 0, .int .i64 0, .int .i64 0, .int .i64 1, .bool false, .bool true, .bool false, .bool false, .int .i64 0, .int .i64 0, .int .i64 0, .bool false, .slice none 0 0, .slice (some ⟨gL, 0, none⟩) 1 1, .int .i64 0, .int .i64 10, .bool false] := by rw [← eu]; exact (((HP.out.alloc _).alloc _).alloc _).drew
    have u2 : Blk u gL 162 #[.bool false, .int .i64 0, .int .i64 0, .int .i64 0, .int .i64 0, .int .i64 0, .slice none 0 0] := by rw [← eu]; exact (((HL.out.alloc _).alloc _).alloc _).drew
    have u3 : SqAt u gl gp cp := by rw [← eu]; exact (((HS.out.alloc _).alloc _).alloc _).drew
    have u4 : Blk u (w.heap.size + 1) 280 #[.int .i64 2, .int .i64 0, .int .i64 0, .int .i64 0, .int .i64 0, .int .i64 0, .int .i64 0, .int .i64 0, .slice (some ⟨gl, 0, none⟩) 1 1, .slice none 0 0, .int .i64 0, .bool false, .bool false, .slice none 0 0] := by rw [← eu]; exact ((Blk.newAt (by simp)).alloc _).drew
    have u5 : Blk u (w.heap.size + 1 + 1) 157 #[.bool false, .bool false, .int .i64 0, .int .i64 0, .int .i64 0] := by rw [← eu]; exact (Blk.newAt (by simp)).drew
    have u6 : Only [] w u := by rw [← eu]; exact ((((Only.refl _ _).alloc _).alloc _).alloc _).drew
    rw [eu]
    have c := u1.cell
    have f := u1.frozen
    have l := u1.lt
    have c4 := u4.cell
    have l4 := u4.lt
    have c5 := u5.cell
    have l5 := u5.lt
    have hT := addT_sq P M gL B gl gp cp u.drew u1.drew u2.drew u3.drew (by have := HB.out; have := u6.size; simp; omega) hPM
    have HT := Lib.hid hT
    have HU := Lib.hid u6
    clear hl1 hl2 eu u1 u2 u3 u4 u5 u6 hT
    go_still_tail 8, (by kernel_rfl)
    change wpList _ _ _ _ _ u.drew
    go_wp2_with (go_at_call 168; refine (HT.out).mono ?_; rintro e w3 ⟨gl2, gp2, cp2, g, cap, rfl, hA, hs3⟩)
    have HA := Lib.hid (hA.from HU.out.drew)
    have HS3 := Lib.hid hs3
    clear hA hs3
    go_wp2_with fail
    go_ret
    exact ⟨gl2, gp2, cp2, g, cap, rfl, HA.out, HS3.out⟩
end Go.Proofs.YtfajckkbinbpiaaGreatDoor
namespace Go.Proofs.YtfajckkbinbpiaaGreatDoor
open Go.RowKit
set_option linter.unusedVariables false
set_option linter.unusedSimpArgs false

set_option maxRecDepth 100000 in
set_option maxHeartbeats 4000000 in
theorem move_c (P : Nat) {v0 v1 v2 v3 v4 v5 v6 v7 v8 v9 v10 v11 v12 v13 v14 v15 v16 v17 v18 v20 v21 v22 v23 v24 : Value} (x y : Int) (w : World) (hP : Blk w P 159 #[v0, v1, v2, v3, v4, v5, v6, v7, v8, v9, v10, v11, v12, v13, v14, v15, v16, v17, v18, .bool false, v20, v21, v22, v23, v24]) :
    Calls Tryz.prog 164 #[.pointer (some ⟨P, 0, none⟩), .agg #[.int .i64 x, .int .i64 y]] w fun e w' => e = .returned (.int .i64 0) ∧ Below w.heap.size w w' := by
  have c := hP.cell
  have f := hP.frozen
  have l := hP.lt
  clear hP
  go_enter Tryz.func164, Tryz.ntmps164
  go_wp2_with fail
  go_ret
  exact ⟨rfl, by (repeat' (first | (with_reducible exact Below.refl _ _) | (with_reducible assumption) | (with_reducible refine below_drewN ?_ _) | (with_reducible refine Below.drew ?_) | (with_reducible refine Below.alloc ?_ ?_ _) | (with_reducible refine Below.setCell ?_ ?_ _) | omega | (simp; done) | (simp; omega)))⟩
set_option maxRecDepth 100000 in
set_option maxHeartbeats 4000000 in
theorem operate_2 (P : Nat) (A x y : Int) {v6 v7 v8 v11 v12 v13 v14 v15 v16 v17 v18 v20 v21 v22 v23 v24 : Value} (a b : List UInt8) (w : World) (hP : Blk w P 159 #[.int .i64 1, .int .i64 1, .int .i64 2, .int .i64 4, .bool false, .bool true, v6, v7, v8, .int .i64 x, .int .i64 y, v11, v12, v13, v14, v15, v16, v17, v18, .bool false, v20, v21, v22, v23, v24])
    (ha : Digits a) (ha1 : 0 < a.length) (ha6 : a.length ≤ 6) (hav : numV a ≤ 536870) (hb : Digits b) (hb1 : 0 < b.length) (hb6 : b.length ≤ 6) (hbv : numV b ≤ 536870) :
    Calls Tryz.prog 103 #[.pointer (some ⟨P, 0, none⟩), .agg #[.int .i64 A, .int .i64 7, .int .i64 2, .int .i64 0, .bool false, .string { data := #[] }, .string (bs a), .string (bs b), .string { data := #[] }, .string { data := #[] }, .slice none 0 0, .slice none 0 0]] w fun e w' => e = .returned (.int .i64 0) ∧ Blk w' P 159 #[.int .i64 1, .int .i64 1, .int .i64 2, .int .i64 4, .bool false, .bool true, v6, v7, v8, .int .i64 (coordOf a), .int .i64 (coordOf b), v11, v12, v13, v14, v15, v16, v17, v18, .bool false, v20, v21, v22, v23, v24] ∧ Only [P] w w' := by
  have h1 := fun w => coord_c a w ha ha1 ha6 hav
  have h2 := fun w => coord_c b w hb hb1 hb6 hbv
  obtain ⟨X, eX⟩ : ∃ x, bs a = x := ⟨_, rfl⟩
  obtain ⟨Y, eY⟩ : ∃ x, bs b = x := ⟨_, rfl⟩
  have z1 : X.toList.isEmpty = false := by rw [← eX, bs_toList]; cases a <;> simp at ha1 ⊢
  have z2 : Y.toList.isEmpty = false := by rw [← eY, bs_toList]; cases b <;> simp at hb1 ⊢
  obtain ⟨U, eU⟩ : ∃ x, coordOf a = x := ⟨_, rfl⟩
  obtain ⟨V, eV⟩ : ∃ x, coordOf b = x := ⟨_, rfl⟩
  have h1 : ∀ w, Calls Tryz.prog 162 #[.string X, .agg #[.int .i64 1, .int .i64 2, .int .i64 4, .bool false]] w fun e w' => e = .returned (.tuple #[.int .i64 U, .bool true]) ∧ Below w.heap.size w w' := by rw [← eX, ← eU]; exact h1
  have h2 : ∀ w, Calls Tryz.prog 162 #[.string Y, .agg #[.int .i64 1, .int .i64 2, .int .i64 4, .bool false]] w fun e w' => e = .returned (.tuple #[.int .i64 V, .bool true]) ∧ Below w.heap.size w w' := by rw [← eY, ← eV]; exact h2
  rw [eX, eY, eU, eV]
  have i0 : ∀ w, (Instr.index 285 (.agg #[.string X, .string Y, .string { data := #[] }, .string { data := #[] }]) (.int .i64 0)).run Tryz.prog w = .ok (.string X) w := fun _ => by kernel_rfl
  have i1 : ∀ w, (Instr.index 285 (.agg #[.string X, .string Y, .string { data := #[] }, .string { data := #[] }]) (.int .i64 1)).run Tryz.prog w = .ok (.string Y) w := fun _ => by kernel_rfl
  have i2 : ∀ w, (Instr.index 285 (.agg #[.string X, .string Y, .string { data := #[] }, .string { data := #[] }]) (.int .i64 2)).run Tryz.prog w = .ok (.string { data := #[] }) w := fun _ => by kernel_rfl
  have i3 : ∀ w, (Instr.index 285 (.agg #[.string X, .string Y, .string { data := #[] }, .string { data := #[] }]) (.int .i64 3)).run Tryz.prog w = .ok (.string { data := #[] }) w := fun _ => by kernel_rfl
  have H1 := Lib.hid h1
  have H2 := Lib.hid h2
  have c := hP.cell
  have f := hP.frozen
  have l := hP.lt
  clear ha ha1 ha6 hav hb hb1 hb6 hbv eX eY eU eV h1 h2
  go_enter Tryz.func103, Tryz.ntmps103
  go_wp2_with fail
  have c9 : w.cell? ⟨P, 9, none⟩ = some (.int .i64 x) := c 9
  have c10 : w.cell? ⟨P, 10, none⟩ = some (.int .i64 y) := c 10
  have l3 : P < w.heap.size + 1 + 1 := by omega
  go_region
  go_wp2_with fail
  refine wp_loop_rounds 5 ?_
  rw [rounds_succ]
  go_wp2_with fail
  refine (H1.out _).mono ?_
  rintro e w1 ⟨rfl, hb⟩
  have hB1 : Below w.heap.size w w1 := Below.trans (by (repeat' (first | (with_reducible exact Below.refl _ _) | (with_reducible assumption) | (with_reducible refine below_drewN ?_ _) | (with_reducible refine Below.drew ?_) | (with_reducible refine Below.alloc ?_ ?_ _) | (with_reducible refine Below.setCell ?_ ?_ _) | omega | (simp; done) | (simp; omega)))) (hb.mono (by first | omega | (simp; done) | (simp; omega)))
  have k1_0 : Blk w1 (P) 159 #[.int .i64 1, .int .i64 1, .int .i64 2, .int .i64 4, .bool false, .bool true, v6, v7, v8, .int .i64 x, .int .i64 y, v11, v12, v13, v14, v15, v16, v17, v18, .bool false, v20, v21, v22, v23, v24] := Blk.below (by (repeat' (first | (with_reducible assumption) | (with_reducible exact Blk.new _ _ _) | (exact Blk.newAt (by first | rfl | (simp; done) | omega)) | (with_reducible refine Blk.drewN ?_ _) | (with_reducible refine Blk.drew ?_) | (with_reducible refine Blk.alloc ?_ _) | (with_reducible apply Blk.set_) | (with_reducible refine Blk.far ?_ ?_ _) | rfl | omega | (simp; done) | (simp; omega)))) hb (by first | omega | (simp; done) | (simp; omega))
  have k1_1 : Blk w1 (w.heap.size) 103 #[.int .i64 A, .int .i64 7, .int .i64 2, .int .i64 0, .bool false, .string { data := #[] }, .string X, .string Y, .string { data := #[] }, .string { data := #[] }, .slice none 0 0, .slice none 0 0] := Blk.below (by (repeat' (first | (with_reducible assumption) | (with_reducible exact Blk.new _ _ _) | (exact Blk.newAt (by first | rfl | (simp; done) | omega)) | (with_reducible refine Blk.drewN ?_ _) | (with_reducible refine Blk.drew ?_) | (with_reducible refine Blk.alloc ?_ _) | (with_reducible apply Blk.set_) | (with_reducible refine Blk.far ?_ ?_ _) | rfl | omega | (simp; done) | (simp; omega)))) hb (by first | omega | (simp; done) | (simp; omega))
  have k1_2 : Blk w1 (w.heap.size + 1) 154 #[.int .i64 1, .int .i64 2, .int .i64 4, .bool false] := Blk.below (by (repeat' (first | (with_reducible assumption) | (with_reducible exact Blk.new _ _ _) | (exact Blk.newAt (by first | rfl | (simp; done) | omega)) | (with_reducible refine Blk.drewN ?_ _) | (with_reducible refine Blk.drew ?_) | (with_reducible refine Blk.alloc ?_ _) | (with_reducible apply Blk.set_) | (with_reducible refine Blk.far ?_ ?_ _) | rfl | omega | (simp; done) | (simp; omega)))) hb (by first | omega | (simp; done) | (simp; omega))
  have k1_3 : Blk w1 (w.heap.size + 1 + 1) 284 #[.int .i64 x, .int .i64 y, .int .i64 0, .int .i64 0] := Blk.below (by (repeat' (first | (with_reducible assumption) | (with_reducible exact Blk.new _ _ _) | (exact Blk.newAt (by first | rfl | (simp; done) | omega)) | (with_reducible refine Blk.drewN ?_ _) | (with_reducible refine Blk.drew ?_) | (with_reducible refine Blk.alloc ?_ _) | (with_reducible apply Blk.set_) | (with_reducible refine Blk.far ?_ ?_ _) | rfl | omega | (simp; done) | (simp; omega)))) hb (by first | omega | (simp; done) | (simp; omega))
  have c1_0 := k1_0.cell
  have f1_0 := k1_0.frozen
  have l1_0 := k1_0.lt
  have c1_1 := k1_1.cell
  have f1_1 := k1_1.frozen
  have l1_1 := k1_1.lt
  have c1_2 := k1_2.cell
  have f1_2 := k1_2.frozen
  have l1_2 := k1_2.lt
  have c1_3 := k1_3.cell
  have f1_3 := k1_3.frozen
  have l1_3 := k1_3.lt
  have l1 := hB1.size
  clear hb hP c f c9 c10 l3
  go_wp2_with fail
  rw [rounds_succ]
  go_wp2_with fail
  refine (H2.out _).mono ?_
  rintro e w2 ⟨rfl, hb⟩
  have hB2 : Below w.heap.size w w2 := Below.trans (by (repeat' (first | (with_reducible exact Below.refl _ _) | (with_reducible assumption) | (with_reducible refine below_drewN ?_ _) | (with_reducible refine Below.drew ?_) | (with_reducible refine Below.alloc ?_ ?_ _) | (with_reducible refine Below.setCell ?_ ?_ _) | omega | (simp; done) | (simp; omega)))) (hb.mono (by first | omega | (simp; done) | (simp; omega)))
  have k2_0 : Blk w2 (P) 159 #[.int .i64 1, .int .i64 1, .int .i64 2, .int .i64 4, .bool false, .bool true, v6, v7, v8, .int .i64 x, .int .i64 y, v11, v12, v13, v14, v15, v16, v17, v18, .bool false, v20, v21, v22, v23, v24] := Blk.below (by (repeat' (first | (with_reducible assumption) | (with_reducible exact Blk.new _ _ _) | (exact Blk.newAt (by first | rfl | (simp; done) | omega)) | (with_reducible refine Blk.drewN ?_ _) | (with_reducible refine Blk.drew ?_) | (with_reducible refine Blk.alloc ?_ _) | (with_reducible apply Blk.set_) | (with_reducible refine Blk.far ?_ ?_ _) | rfl | omega | (simp; done) | (simp; omega)))) hb (by first | omega | (simp; done) | (simp; omega))
  have k2_1 : Blk w2 (w.heap.size) 103 #[.int .i64 A, .int .i64 7, .int .i64 2, .int .i64 0, .bool false, .string { data := #[] }, .string X, .string Y, .string { data := #[] }, .string { data := #[] }, .slice none 0 0, .slice none 0 0] := Blk.below (by (repeat' (first | (with_reducible assumption) | (with_reducible exact Blk.new _ _ _) | (exact Blk.newAt (by first | rfl | (simp; done) | omega)) | (with_reducible refine Blk.drewN ?_ _) | (with_reducible refine Blk.drew ?_) | (with_reducible refine Blk.alloc ?_ _) | (with_reducible apply Blk.set_) | (with_reducible refine Blk.far ?_ ?_ _) | rfl | omega | (simp; done) | (simp; omega)))) hb (by first | omega | (simp; done) | (simp; omega))
  have k2_2 : Blk w2 (w.heap.size + 1) 154 #[.int .i64 1, .int .i64 2, .int .i64 4, .bool false] := Blk.below (by (repeat' (first | (with_reducible assumption) | (with_reducible exact Blk.new _ _ _) | (exact Blk.newAt (by first | rfl | (simp; done) | omega)) | (with_reducible refine Blk.drewN ?_ _) | (with_reducible refine Blk.drew ?_) | (with_reducible refine Blk.alloc ?_ _) | (with_reducible apply Blk.set_) | (with_reducible refine Blk.far ?_ ?_ _) | rfl | omega | (simp; done) | (simp; omega)))) hb (by first | omega | (simp; done) | (simp; omega))
  have k2_3 : Blk w2 (w.heap.size + 1 + 1) 284 #[.int .i64 U, .int .i64 y, .int .i64 0, .int .i64 0] := Blk.below (by (repeat' (first | (with_reducible assumption) | (with_reducible exact Blk.new _ _ _) | (exact Blk.newAt (by first | rfl | (simp; done) | omega)) | (with_reducible refine Blk.drewN ?_ _) | (with_reducible refine Blk.drew ?_) | (with_reducible refine Blk.alloc ?_ _) | (with_reducible apply Blk.set_) | (with_reducible refine Blk.far ?_ ?_ _) | rfl | omega | (simp; done) | (simp; omega)))) hb (by first | omega | (simp; done) | (simp; omega))
  have c2_0 := k2_0.cell
  have f2_0 := k2_0.frozen
  have l2_0 := k2_0.lt
  have c2_1 := k2_1.cell
  have f2_1 := k2_1.frozen
  have l2_1 := k2_1.lt
  have c2_2 := k2_2.cell
  have f2_2 := k2_2.frozen
  have l2_2 := k2_2.lt
  have c2_3 := k2_3.cell
  have f2_3 := k2_3.frozen
  have l2_3 := k2_3.lt
  have l2 := hB2.size
  clear hb k1_0 c1_0 f1_0 l1_0 k1_1 c1_1 f1_1 l1_1 k1_2 c1_2 f1_2 l1_2 k1_3 c1_3 f1_3 l1_3
  go_wp2_with fail
  rw [rounds_succ]
  go_wp2_with fail
  rw [rounds_succ]
  go_wp2_with fail
  rw [rounds_succ]
  go_wp2_with fail
  refine (move_c P U V _ (by (repeat' (first | (with_reducible assumption) | (with_reducible exact Blk.new _ _ _) | (exact Blk.newAt (by first | rfl | (simp; done) | omega)) | (with_reducible refine Blk.drewN ?_ _) | (with_reducible refine Blk.drew ?_) | (with_reducible refine Blk.alloc ?_ _) | (with_reducible apply Blk.set_) | (with_reducible refine Blk.far ?_ ?_ _) | rfl | omega | (simp; done) | (simp; omega))))).mono ?_
  rintro e w3 ⟨rfl, hb⟩
  have k3 : Blk w3 P 159 #[.int .i64 1, .int .i64 1, .int .i64 2, .int .i64 4, .bool false, .bool true, v6, v7, v8, .int .i64 x, .int .i64 y, v11, v12, v13, v14, v15, v16, v17, v18, .bool false, v20, v21, v22, v23, v24] := Blk.below (by (repeat' (first | (with_reducible assumption) | (with_reducible exact Blk.new _ _ _) | (exact Blk.newAt (by first | rfl | (simp; done) | omega)) | (with_reducible refine Blk.drewN ?_ _) | (with_reducible refine Blk.drew ?_) | (with_reducible refine Blk.alloc ?_ _) | (with_reducible apply Blk.set_) | (with_reducible refine Blk.far ?_ ?_ _) | rfl | omega | (simp; done) | (simp; omega)))) hb (by first | omega | (simp; done) | (simp; omega))
  have k4 : Blk w3 w2.heap.size 58 #[.int .i64 U, .int .i64 V] := Blk.below (by (repeat' (first | (with_reducible assumption) | (with_reducible exact Blk.new _ _ _) | (exact Blk.newAt (by first | rfl | (simp; done) | omega)) | (with_reducible refine Blk.drewN ?_ _) | (with_reducible refine Blk.drew ?_) | (with_reducible refine Blk.alloc ?_ _) | (with_reducible apply Blk.set_) | (with_reducible refine Blk.far ?_ ?_ _) | rfl | omega | (simp; done) | (simp; omega)))) hb (by first | omega | (simp; done) | (simp; omega))
  have c4 := k4.cell
  have l4 := k4.lt
  have hO : Only [P] w w3 := by
    have h0 : Only [P] w w2 := Only.of_below hB2 (Nat.le_refl _) _
    exact Only.below (by (repeat' (first | (with_reducible exact Only.refl _ _) | (with_reducible assumption) | (with_reducible refine Only.drewN ?_ _) | (with_reducible refine Only.drew ?_) | (with_reducible refine Only.alloc ?_ _) | (with_reducible refine Only.setCell ?_ ?_ _) | (left; simp; done) | (right; omega) | (right; simp; done) | (right; simp; omega)))) hb (by simp; omega)
  have l3 := hO.size
  have c3 := k3.cell
  have f3 := k3.frozen
  have K3 := Lib.hid k3
  clear k3 k4 hb k2_0 c2_0 f2_0 k2_3 c2_3 f2_3
  go_wp2_with fail
  go_ret
  exact ⟨rfl, (K3.out.set_ 9 _ rfl).set_ 10 _ rfl, by (repeat' (first | (with_reducible exact Only.refl _ _) | (with_reducible assumption) | (with_reducible refine Only.drewN ?_ _) | (with_reducible refine Only.drew ?_) | (with_reducible refine Only.alloc ?_ _) | (with_reducible refine Only.setCell ?_ ?_ _) | (left; simp; done) | (right; omega) | (right; simp; done) | (right; simp; omega)))⟩
end Go.Proofs.YtfajckkbinbpiaaGreatDoor
