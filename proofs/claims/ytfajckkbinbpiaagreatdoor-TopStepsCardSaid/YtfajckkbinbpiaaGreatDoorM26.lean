/- Walks: package plot: a disc is added, moved. Walks: package plot: a disc is flashed. -/
import Derived.Test.YtfajckkbinbpiaaGreatDoorM25
import Derived.Test.YtfajckkbinbpiaaGreatDoorM03
import Derived.Test.YtfajckkbinbpiaaGreatDoorM16
import Derived.StillTailTactics
namespace Go.Proofs.YtfajckkbinbpiaaGreatDoor
open Go.RowKit
set_option linter.unusedVariables false
set_option linter.unusedSimpArgs false

theorem Added.from {P gL off B n : Nat} {pc lcs : Array Value} {ov : Value} {ys : List Value} {g cap : Nat} {w u w' : World} (h : Added P gL off B n pc lcs ov ys g cap u w') (hu : Only [] w u) : Added P gL off B n pc lcs ov ys g cap w w' :=
  ⟨h.1, h.2.1, h.2.2.1, (hu.mono (by simp)).trans h.2.2.2.1, h.2.2.2.2.imp id (fun h => Nat.le_trans hu.size h)⟩
set_option maxRecDepth 100000 in
set_option maxHeartbeats 4000000 in
theorem addT_1 (P gL capL B n : Nat) (mk bud x y a b : Int) (dk : Bool) {v0 v1 v2 v3 v4 v5 v6 v7 v8 v9 v10 v11 v12 v13 v14 v15 v16 v17 v18 v19 v20 v24 : Value} {ov : Value} {lcs : Array Value} {xs : List Value} (w : World)
    (hP : Blk w P 159 #[v0, v1, v2, v3, v4, v5, v6, v7, v8, v9, v10, v11, v12, v13, v14, v15, v16, v17, v18, v19, v20, .slice (some ⟨gL, 0, none⟩) 1 capL, .int .i64 mk, .int .i64 bud, v24]) (hL : Blk w gL 162 lcs) (ho : lcs[6]? = some ov) (hov : w.ownsRow B 65 11 ov n xs) (hm0 : 0 ≤ mk) (hm1 : mk < bud) (hm2 : bud ≤ 100000) (hn : n ≤ 100000) (hB : B ≤ w.heap.size) (x0 : 0 ≤ x) (x1 : x ≤ 250000000) (y0 : 0 ≤ y) (y1 : y ≤ 250000000) (a0 : 0 ≤ a) (a1 : a ≤ 250000000) (b0 : 0 ≤ b) (b1 : b ≤ 250000000) :
    Calls Tryz.prog 168 #[.pointer (some ⟨P, 0, none⟩), .bool dk, .agg #[.int .i64 1, .int .i64 x, .int .i64 y, .int .i64 0, .int .i64 0, .int .i64 0, .int .i64 0, .int .i64 2500000, .slice none 0 0, .slice none 0 0], .agg #[.bool false, .bool false, .int .i64 0, .int .i64 a, .int .i64 b]] w fun e w' => ∃ g cap, e = .returned (.int .i64 0) ∧ Added P gL 6 B n #[v0, v1, v2, v3, v4, v5, v6, v7, v8, v9, v10, v11, v12, v13, v14, v15, v16, v17, v18, v19, v20, .slice (some ⟨gL, 0, none⟩) 1 capL, .int .i64 (mk + 1), .int .i64 bud, v24] lcs ov (xs ++ [.bool dk, .int .i64 1, .int .i64 (x + a), .int .i64 (y + b), .int .i64 0, .int .i64 0, .int .i64 0, .int .i64 0, .int .i64 2500000, .slice none 0 0, .slice none 0 0]) g cap w w' := by
  have l := hP.lt
  have lL := hL.lt
  have HP := Lib.hid hP
  have HL := Lib.hid hL
  have HO := Lib.hid ho
  have HOV := Lib.hid hov
  have HB := Lib.hid hB
  clear hP hL ho hov hB
  go_enter Tryz.func168, Tryz.ntmps168
  go_wp2_with fail
  refine (Apply_disc x y 2500000 a b _ (by omega) (by omega) (by omega) (by omega) (by omega) (by omega) (by omega) (by omega) (by omega) (by omega) (by omega) (by omega) (by omega) (by omega)).mono ?_
  rintro e w1 ⟨rfl, hb⟩
  have hu : Only [] w w1 := (((Only.refl _ _).alloc _).alloc _).below hb (by first | (simp; done) | (simp; omega))
  have HU := Lib.hid hu
  have l1 := hb.size
  have k1 := ((HP.out.alloc _).alloc _).below hb (by first | (simp; done) | (simp; omega))
  have k2 := ((HL.out.alloc _).alloc _).below hb (by first | (simp; done) | (simp; omega))
  have hov1 := own_below ((HOV.out.alloc _).alloc _) hb (by simp)
  have K1 := Lib.hid k1
  have K2 := Lib.hid k2
  have HOV1 := Lib.hid hov1
  clear hu hb k1 k2 hov1
  go_wp2_with fail
  refine (add_1 P gL capL B n mk bud 1 (x + a) (y + b) 2500000 dk none 0 0 _ _ _ _ (K1.out.alloc _) (K2.out.alloc _) HO.out (HOV1.out.alloc _) hm0 hm1 hm2 hn (by have := HB.out; have := HU.out.size; simp; omega) ((ok_disc (x + a) (y + b) 2500000 _ (by omega) (by omega) (by omega) (by omega) (by omega) (by omega)).mono fun e w' h => ⟨h.1, by simpa using h.2⟩)).mono ?_
  rintro e w2 ⟨g, cap, rfl, hA⟩
  have HA := Lib.hid (hA.from ((HU.out).alloc _))
  clear hA
  go_wp2_with fail
  go_ret
  exact ⟨g, cap, rfl, HA.out⟩
set_option maxRecDepth 100000 in
set_option maxHeartbeats 4000000 in
theorem addT_2 (P gL capL B n : Nat) (mk bud x y a b : Int) (dk : Bool) {v0 v1 v2 v3 v4 v5 v6 v7 v8 v9 v10 v11 v12 v13 v14 v15 v16 v17 v18 v19 v20 v24 : Value} {ov : Value} {lcs : Array Value} {xs : List Value} (w : World)
    (hP : Blk w P 159 #[v0, v1, v2, v3, v4, v5, v6, v7, v8, v9, v10, v11, v12, v13, v14, v15, v16, v17, v18, v19, v20, .slice (some ⟨gL, 0, none⟩) 2 capL, .int .i64 mk, .int .i64 bud, v24]) (hL : Blk w gL 162 lcs) (ho : lcs[13]? = some ov) (hov : w.ownsRow B 65 11 ov n xs) (hm0 : 0 ≤ mk) (hm1 : mk < bud) (hm2 : bud ≤ 100000) (hn : n ≤ 100000) (hB : B ≤ w.heap.size) (x0 : 0 ≤ x) (x1 : x ≤ 250000000) (y0 : 0 ≤ y) (y1 : y ≤ 250000000) (a0 : 0 ≤ a) (a1 : a ≤ 250000000) (b0 : 0 ≤ b) (b1 : b ≤ 250000000) :
    Calls Tryz.prog 168 #[.pointer (some ⟨P, 0, none⟩), .bool dk, .agg #[.int .i64 1, .int .i64 x, .int .i64 y, .int .i64 0, .int .i64 0, .int .i64 0, .int .i64 0, .int .i64 2500000, .slice none 0 0, .slice none 0 0], .agg #[.bool false, .bool false, .int .i64 0, .int .i64 a, .int .i64 b]] w fun e w' => ∃ g cap, e = .returned (.int .i64 0) ∧ Added P gL 13 B n #[v0, v1, v2, v3, v4, v5, v6, v7, v8, v9, v10, v11, v12, v13, v14, v15, v16, v17, v18, v19, v20, .slice (some ⟨gL, 0, none⟩) 2 capL, .int .i64 (mk + 1), .int .i64 bud, v24] lcs ov (xs ++ [.bool dk, .int .i64 1, .int .i64 (x + a), .int .i64 (y + b), .int .i64 0, .int .i64 0, .int .i64 0, .int .i64 0, .int .i64 2500000, .slice none 0 0, .slice none 0 0]) g cap w w' := by
  have l := hP.lt
  have lL := hL.lt
  have HP := Lib.hid hP
  have HL := Lib.hid hL
  have HO := Lib.hid ho
  have HOV := Lib.hid hov
  have HB := Lib.hid hB
  clear hP hL ho hov hB
  go_enter Tryz.func168, Tryz.ntmps168
  go_wp2_with fail
  refine (Apply_disc x y 2500000 a b _ (by omega) (by omega) (by omega) (by omega) (by omega) (by omega) (by omega) (by omega) (by omega) (by omega) (by omega) (by omega) (by omega) (by omega)).mono ?_
  rintro e w1 ⟨rfl, hb⟩
  have hu : Only [] w w1 := (((Only.refl _ _).alloc _).alloc _).below hb (by first | (simp; done) | (simp; omega))
  have HU := Lib.hid hu
  have l1 := hb.size
  have k1 := ((HP.out.alloc _).alloc _).below hb (by first | (simp; done) | (simp; omega))
  have k2 := ((HL.out.alloc _).alloc _).below hb (by first | (simp; done) | (simp; omega))
  have hov1 := own_below ((HOV.out.alloc _).alloc _) hb (by simp)
  have K1 := Lib.hid k1
  have K2 := Lib.hid k2
  have HOV1 := Lib.hid hov1
  clear hu hb k1 k2 hov1
  go_wp2_with fail
  refine (add_2 P gL capL B n mk bud 1 (x + a) (y + b) 2500000 dk none 0 0 _ _ _ _ (K1.out.alloc _) (K2.out.alloc _) HO.out (HOV1.out.alloc _) hm0 hm1 hm2 hn (by have := HB.out; have := HU.out.size; simp; omega) ((ok_disc (x + a) (y + b) 2500000 _ (by omega) (by omega) (by omega) (by omega) (by omega) (by omega)).mono fun e w' h => ⟨h.1, by simpa using h.2⟩)).mono ?_
  rintro e w2 ⟨g, cap, rfl, hA⟩
  have HA := Lib.hid (hA.from ((HU.out).alloc _))
  clear hA
  go_wp2_with fail
  go_ret
  exact ⟨g, cap, rfl, HA.out⟩
end Go.Proofs.YtfajckkbinbpiaaGreatDoor
namespace Go.Proofs.YtfajckkbinbpiaaGreatDoor
open Go.RowKit
set_option linter.unusedVariables false
set_option linter.unusedSimpArgs false

set_option maxRecDepth 100000 in
set_option maxHeartbeats 4000000 in
theorem flash_1 (P M gL capL B n : Nat) (mk bud a b code : Int) (dk : Bool) {v0 v1 v2 v3 v4 v5 v8 v9 v10 v11 v12 v20 v24 : Value} {ov : Value} {lcs : Array Value} {xs : List Value} (es : Array MapEntry) (clk : Nat) (w : World)
    (hP : Blk w P 159 #[v0, v1, v2, v3, v4, v5, .map (some M), .int .i64 code, v8, v9, v10, v11, v12, .bool dk, .bool false, .bool false, .int .i64 0, .int .i64 0, .int .i64 0, .bool false, v20, .slice (some ⟨gL, 0, none⟩) 1 capL, .int .i64 mk, .int .i64 bud, v24]) (hM : IsMap w M es clk) (hf : (Instr.findNow (.int .i64) (.int .i64 code) es.toList 0).map (fun r => r.map (·.2)) = some (some (.agg #[.int .i64 1, .int .i64 0, .int .i64 0, .int .i64 0, .int .i64 0, .int .i64 0, .int .i64 0, .int .i64 2500000, .slice none 0 0, .slice none 0 0, .int .i64 2500000, .bool true, .bool false, .slice none 0 0]))) (hL : Blk w gL 162 lcs) (ho : lcs[6]? = some ov) (hov : w.ownsRow B 65 11 ov n xs) (hm0 : 0 ≤ mk) (hm1 : mk < bud) (hm2 : bud ≤ 100000) (hn : n ≤ 100000) (hB : B ≤ w.heap.size) (a0 : 0 ≤ a) (a1 : a ≤ 250000000) (b0 : 0 ≤ b) (b1 : b ≤ 250000000) :
    Calls Tryz.prog 165 #[.pointer (some ⟨P, 0, none⟩), .agg #[.int .i64 a, .int .i64 b]] w fun e w' => ∃ g cap, e = .returned (.int .i64 0) ∧ Added P gL 6 B n #[v0, v1, v2, v3, v4, v5, .map (some M), .int .i64 code, v8, v9, v10, v11, v12, .bool dk, .bool false, .bool false, .int .i64 0, .int .i64 0, .int .i64 0, .bool false, v20, .slice (some ⟨gL, 0, none⟩) 1 capL, .int .i64 (mk + 1), .int .i64 bud, v24] lcs ov (xs ++ [.bool dk, .int .i64 1, .int .i64 a, .int .i64 b, .int .i64 0, .int .i64 0, .int .i64 0, .int .i64 0, .int .i64 2500000, .slice none 0 0, .slice none 0 0]) g cap w w' := by
  have l := hP.lt
  have lM := hM.lt
  have lL := hL.lt
  have c := hP.cell
  have f := hP.frozen
  have hl : ∀ w', w'.heap[M]? = some (.map es clk) → (Instr.lookup 151 (.map (some M)) (.int .i64 code) true).run Tryz.prog w' = .ok (.tuple #[.agg #[.int .i64 1, .int .i64 0, .int .i64 0, .int .i64 0, .int .i64 0, .int .i64 0, .int .i64 0, .int .i64 2500000, .slice none 0 0, .slice none 0 0, .int .i64 2500000, .bool true, .bool false, .slice none 0 0], .bool true]) w' := fun w' hm => look_run w' hm code (.agg #[.int .i64 1, .int .i64 0, .int .i64 0, .int .i64 0, .int .i64 0, .int .i64 0, .int .i64 0, .int .i64 2500000, .slice none 0 0, .slice none 0 0, .int .i64 2500000, .bool true, .bool false, .slice none 0 0], true) hf (fun h => by cases h)
  have HP := Lib.hid hP
  have HL := Lib.hid hL
  have HO := Lib.hid ho
  have HOV := Lib.hid hov
  have HB := Lib.hid hB
  clear hP hL ho hov hB hf
  go_enter Tryz.func165, Tryz.ntmps165
  go_wp2_with fail
  have hl1 := hl _ ((hM.alloc (.cells #[.int .i64 a, .int .i64 b] 58)).drew)
  have hl2 := hl _ (((hM.alloc (.cells #[.int .i64 a, .int .i64 b] 58)).alloc (.cells #[.int .i64 0, .int .i64 0, .int .i64 0, .int .i64 0, .int .i64 0, .int .i64 0, .int .i64 0, .int .i64 0, .slice none 0 0, .slice none 0 0, .int .i64 0, .bool false, .bool false, .slice none 0 0] 280)).drew)
  clear hl
  go_region
  all_goals
    go_wp2_with fail
    obtain ⟨u, eu⟩ : ∃ u, (((w.alloc (.cells #[.int .i64 a, .int .i64 b] 58)).alloc (.cells #[.int .i64 1, .int .i64 0, .int .i64 0, .int .i64 0, .int .i64 0, .int .i64 0, .int .i64 0, .int .i64 2500000, .slice none 0 0, .slice none 0 0, .int .i64 2500000, .bool true, .bool false, .slice none 0 0] 280)).alloc (.cells #[.bool false, .bool false, .int .i64 0, .int .i64 a, .int .i64 b] 157)).drew = u := ⟨_, rfl⟩
    have u1 : Blk u P 159 #[v0, v1, v2, v3, v4, v5, .map (some M), .int .i64 code, v8, v9, v10, v11, v12, .bool dk, .bool false, .bool false, .int .i64 0, .int .i64 0, .int .i64 0, .bool false, v20, .slice (some ⟨gL, 0, none⟩) 1 capL, .int .i64 mk, .int .i64 bud, v24] := by rw [← eu]; exact (((HP.out.alloc _).alloc _).alloc _).drew
    have u2 : Blk u gL 162 lcs := by rw [← eu]; exact (((HL.out.alloc _).alloc _).alloc _).drew
    have u3 : u.ownsRow B 65 11 ov n xs := by rw [← eu]; exact (((HOV.out.alloc _).alloc _).alloc _).drew
    have u4 : Blk u (w.heap.size + 1) 280 #[.int .i64 1, .int .i64 0, .int .i64 0, .int .i64 0, .int .i64 0, .int .i64 0, .int .i64 0, .int .i64 2500000, .slice none 0 0, .slice none 0 0, .int .i64 2500000, .bool true, .bool false, .slice none 0 0] := by rw [← eu]; exact ((Blk.newAt (by simp)).alloc _).drew
    have u5 : Blk u (w.heap.size + 1 + 1) 157 #[.bool false, .bool false, .int .i64 0, .int .i64 a, .int .i64 b] := by rw [← eu]; exact (Blk.newAt (by simp)).drew
    have u6 : Only [] w u := by rw [← eu]; exact ((((Only.refl _ _).alloc _).alloc _).alloc _).drew
    rw [eu]
    have c := u1.cell
    have f := u1.frozen
    have l := u1.lt
    have c4 := u4.cell
    have l4 := u4.lt
    have c5 := u5.cell
    have l5 := u5.lt
    have hT := addT_1 P gL capL B n mk bud 0 0 a b dk u.drew u1.drew u2.drew HO.out u3.drew hm0 hm1 hm2 hn (by have := HB.out; have := u6.size; simp; omega) (by omega) (by omega) (by omega) (by omega) a0 a1 b0 b1
    simp only [Int.zero_add] at hT
    have HT := Lib.hid hT
    have HU := Lib.hid u6
    clear hl1 hl2 eu u1 u2 u3 u4 u5 u6 hT
    go_still_tail 8, (by kernel_rfl)
    change wpList _ _ _ _ _ u.drew
    go_wp2_with (go_at_call 168; refine (HT.out).mono ?_; rintro e w3 ⟨g, cap, rfl, hA⟩)
    have HA := Lib.hid (hA.from HU.out.drew)
    clear hA
    go_wp2_with fail
    go_ret
    exact ⟨g, cap, rfl, HA.out⟩
set_option maxRecDepth 100000 in
set_option maxHeartbeats 4000000 in
theorem flash_2 (P M gL capL B n : Nat) (mk bud a b code : Int) (dk : Bool) {v0 v1 v2 v3 v4 v5 v8 v9 v10 v11 v12 v20 v24 : Value} {ov : Value} {lcs : Array Value} {xs : List Value} (es : Array MapEntry) (clk : Nat) (w : World)
    (hP : Blk w P 159 #[v0, v1, v2, v3, v4, v5, .map (some M), .int .i64 code, v8, v9, v10, v11, v12, .bool dk, .bool false, .bool false, .int .i64 0, .int .i64 0, .int .i64 0, .bool false, v20, .slice (some ⟨gL, 0, none⟩) 2 capL, .int .i64 mk, .int .i64 bud, v24]) (hM : IsMap w M es clk) (hf : (Instr.findNow (.int .i64) (.int .i64 code) es.toList 0).map (fun r => r.map (·.2)) = some (some (.agg #[.int .i64 1, .int .i64 0, .int .i64 0, .int .i64 0, .int .i64 0, .int .i64 0, .int .i64 0, .int .i64 2500000, .slice none 0 0, .slice none 0 0, .int .i64 2500000, .bool true, .bool false, .slice none 0 0]))) (hL : Blk w gL 162 lcs) (ho : lcs[13]? = some ov) (hov : w.ownsRow B 65 11 ov n xs) (hm0 : 0 ≤ mk) (hm1 : mk < bud) (hm2 : bud ≤ 100000) (hn : n ≤ 100000) (hB : B ≤ w.heap.size) (a0 : 0 ≤ a) (a1 : a ≤ 250000000) (b0 : 0 ≤ b) (b1 : b ≤ 250000000) :
    Calls Tryz.prog 165 #[.pointer (some ⟨P, 0, none⟩), .agg #[.int .i64 a, .int .i64 b]] w fun e w' => ∃ g cap, e = .returned (.int .i64 0) ∧ Added P gL 13 B n #[v0, v1, v2, v3, v4, v5, .map (some M), .int .i64 code, v8, v9, v10, v11, v12, .bool dk, .bool false, .bool false, .int .i64 0, .int .i64 0, .int .i64 0, .bool false, v20, .slice (some ⟨gL, 0, none⟩) 2 capL, .int .i64 (mk + 1), .int .i64 bud, v24] lcs ov (xs ++ [.bool dk, .int .i64 1, .int .i64 a, .int .i64 b, .int .i64 0, .int .i64 0, .int .i64 0, .int .i64 0, .int .i64 2500000, .slice none 0 0, .slice none 0 0]) g cap w w' := by
  have l := hP.lt
  have lM := hM.lt
  have lL := hL.lt
  have c := hP.cell
  have f := hP.frozen
  have hl : ∀ w', w'.heap[M]? = some (.map es clk) → (Instr.lookup 151 (.map (some M)) (.int .i64 code) true).run Tryz.prog w' = .ok (.tuple #[.agg #[.int .i64 1, .int .i64 0, .int .i64 0, .int .i64 0, .int .i64 0, .int .i64 0, .int .i64 0, .int .i64 2500000, .slice none 0 0, .slice none 0 0, .int .i64 2500000, .bool true, .bool false, .slice none 0 0], .bool true]) w' := fun w' hm => look_run w' hm code (.agg #[.int .i64 1, .int .i64 0, .int .i64 0, .int .i64 0, .int .i64 0, .int .i64 0, .int .i64 0, .int .i64 2500000, .slice none 0 0, .slice none 0 0, .int .i64 2500000, .bool true, .bool false, .slice none 0 0], true) hf (fun h => by cases h)
  have HP := Lib.hid hP
  have HL := Lib.hid hL
  have HO := Lib.hid ho
  have HOV := Lib.hid hov
  have HB := Lib.hid hB
  clear hP hL ho hov hB hf
  go_enter Tryz.func165, Tryz.ntmps165
  go_wp2_with fail
  have hl1 := hl _ ((hM.alloc (.cells #[.int .i64 a, .int .i64 b] 58)).drew)
  have hl2 := hl _ (((hM.alloc (.cells #[.int .i64 a, .int .i64 b] 58)).alloc (.cells #[.int .i64 0, .int .i64 0, .int .i64 0, .int .i64 0, .int .i64 0, .int .i64 0, .int .i64 0, .int .i64 0, .slice none 0 0, .slice none 0 0, .int .i64 0, .bool false, .bool false, .slice none 0 0] 280)).drew)
  clear hl
  go_region
  all_goals
    go_wp2_with fail
    obtain ⟨u, eu⟩ : ∃ u, (((w.alloc (.cells #[.int .i64 a, .int .i64 b] 58)).alloc (.cells #[.int .i64 1, .int .i64 0, .int .i64 0, .int .i64 0, .int .i64 0, .int .i64 0, .int .i64 0, .int .i64 2500000, .slice none 0 0, .slice none 0 0, .int .i64 2500000, .bool true, .bool false, .slice none 0 0] 280)).alloc (.cells #[.bool false, .bool false, .int .i64 0, .int .i64 a, .int .i64 b] 157)).drew = u := ⟨_, rfl⟩
    have u1 : Blk u P 159 #[v0, v1, v2, v3, v4, v5, .map (some M), .int .i64 code, v8, v9, v10, v11, v12, .bool dk, .bool false, .bool false, .int .i64 0, .int .i64 0, .int .i64 0, .bool false, v20, .slice (some ⟨gL, 0, none⟩) 2 capL, .int .i64 mk, .int .i64 bud, v24] := by rw [← eu]; exact (((HP.out.alloc _).alloc _).alloc _).drew
    have u2 : Blk u gL 162 lcs := by rw [← eu]; exact (((HL.out.alloc _).alloc _).alloc _).drew
    have u3 : u.ownsRow B 65 11 ov n xs := by rw [← eu]; exact (((HOV.out.alloc _).alloc _).alloc _).drew
    have u4 : Blk u (w.heap.size + 1) 280 #[.int .i64 1, .int .i64 0, .int .i64 0, .int .i64 0, .int .i64 0, .int .i64 0, .int .i64 0, .int .i64 2500000, .slice none 0 0, .slice none 0 0, .int .i64 2500000, .bool true, .bool false, .slice none 0 0] := by rw [← eu]; exact ((Blk.newAt (by simp)).alloc _).drew
    have u5 : Blk u (w.heap.size + 1 + 1) 157 #[.bool false, .bool false, .int .i64 0, .int .i64 a, .int .i64 b] := by rw [← eu]; exact (Blk.newAt (by simp)).drew
    have u6 : Only [] w u := by rw [← eu]; exact ((((Only.refl _ _).alloc _).alloc _).alloc _).drew
    rw [eu]
    have c := u1.cell
    have f := u1.frozen
    have l := u1.lt
    have c4 := u4.cell
    have l4 := u4.lt
    have c5 := u5.cell
    have l5 := u5.lt
    have hT := addT_2 P gL capL B n mk bud 0 0 a b dk u.drew u1.drew u2.drew HO.out u3.drew hm0 hm1 hm2 hn (by have := HB.out; have := u6.size; simp; omega) (by omega) (by omega) (by omega) (by omega) a0 a1 b0 b1
    simp only [Int.zero_add] at hT
    have HT := Lib.hid hT
    have HU := Lib.hid u6
    clear hl1 hl2 eu u1 u2 u3 u4 u5 u6 hT
    go_still_tail 8, (by kernel_rfl)
    change wpList _ _ _ _ _ u.drew
    go_wp2_with (go_at_call 168; refine (HT.out).mono ?_; rintro e w3 ⟨g, cap, rfl, hA⟩)
    have HA := Lib.hid (hA.from HU.out.drew)
    clear hA
    go_wp2_with fail
    go_ret
    exact ⟨g, cap, rfl, HA.out⟩
end Go.Proofs.YtfajckkbinbpiaaGreatDoor
