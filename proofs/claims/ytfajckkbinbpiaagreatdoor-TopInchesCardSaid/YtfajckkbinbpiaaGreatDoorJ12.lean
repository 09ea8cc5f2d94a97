/- Walks: package plot: strokes are drawn. Walks: coordinates in inches, format 2.4, and in millimetres, format 2.6. -/
import Derived.Test.YtfajckkbinbpiaaGreatDoorJ01
import Derived.Test.YtfajckkbinbpiaaGreatDoorJ11
namespace Go.Proofs.YtfajckkbinbpiaaGreatDoor
set_option maxRecDepth 100000
set_option maxHeartbeats 32000000
set_option linter.unusedVariables false
set_option linter.unusedSimpArgs false
open Go.RowKit
theorem draw_l (P M gL capL B n : Nat) (mk bud U V code A x y : Int) (dk : Bool) (X Y : ByteArray) {v0 v1 v2 v3 v4 v5 v8 v12 v14 v15 v16 v17 v18 v20 v24 : Value} {ov : Value} {lcs : Array Value} {xs : List Value} (es : Array MapEntry) (clk : Nat) (w : World)
    (hP : Blk w P 159 #[v0, v1, v2, v3, v4, v5, .map (some M), .int .i64 code, v8, .int .i64 x, .int .i64 y, .int .i64 1, v12, .bool dk, v14, v15, v16, v17, v18, .bool false, v20, .slice (some ⟨gL, 0, none⟩) 1 capL, .int .i64 mk, .int .i64 bud, v24]) (hM : IsMap w M es clk) (hf : (Instr.findNow (.int .i64) (.int .i64 code) es.toList 0).map (fun r => r.map (·.2)) = some (some (.agg #[.int .i64 1, .int .i64 0, .int .i64 0, .int .i64 0, .int .i64 0, .int .i64 0, .int .i64 0, .int .i64 6350000, .slice none 0 0, .slice none 0 0, .int .i64 6350000, .bool true, .bool false, .slice none 0 0]))) (hL : Blk w gL 162 lcs) (ho : lcs[6]? = some ov) (hov : w.ownsRow B 65 11 ov n xs) (hm0 : 0 ≤ mk) (hm1 : mk < bud) (hm2 : bud ≤ 100000) (hn : n ≤ 100000) (hB : B ≤ w.heap.size) (hok : ∀ w, Calls Tryz.prog 171 #[.agg #[.int .i64 3, .int .i64 x, .int .i64 y, .int .i64 U, .int .i64 V, .int .i64 0, .int .i64 0, .int .i64 6350000, .slice none 0 0, .slice none 0 0]] w fun e w' => e = .returned (.bool true) ∧ Below w.heap.size w w') :
    Calls Tryz.prog 163 #[.pointer (some ⟨P, 0, none⟩), .agg #[.int .i64 A, .int .i64 7, .int .i64 1, .int .i64 0, .bool false, .string { data := #[] }, .string X, .string Y, .string { data := #[] }, .string { data := #[] }, .slice none 0 0, .slice none 0 0], .agg #[.int .i64 U, .int .i64 V], .agg #[.int .i64 0, .int .i64 0]] w fun e w' => ∃ g cap, e = .returned (.int .i64 0) ∧ Added P gL 6 B n #[v0, v1, v2, v3, v4, v5, .map (some M), .int .i64 code, v8, .int .i64 x, .int .i64 y, .int .i64 1, v12, .bool dk, v14, v15, v16, v17, v18, .bool false, v20, .slice (some ⟨gL, 0, none⟩) 1 capL, .int .i64 (mk + 1), .int .i64 bud, v24] lcs ov (xs ++ [.bool dk, .int .i64 3, .int .i64 x, .int .i64 y, .int .i64 U, .int .i64 V, .int .i64 0, .int .i64 0, .int .i64 6350000, .slice none 0 0, .slice none 0 0]) g cap w w' := by
  have l := hP.lt
  have lM := hM.lt
  have lL := hL.lt
  have c := hP.cell
  have f := hP.frozen
  have hl : ∀ w', w'.heap[M]? = some (.map es clk) → (Instr.lookup 151 (.map (some M)) (.int .i64 code) true).run Tryz.prog w' = .ok (.tuple #[.agg #[.int .i64 1, .int .i64 0, .int .i64 0, .int .i64 0, .int .i64 0, .int .i64 0, .int .i64 0, .int .i64 6350000, .slice none 0 0, .slice none 0 0, .int .i64 6350000, .bool true, .bool false, .slice none 0 0], .bool true]) w' := fun w' hm => look_run w' hm code (.agg #[.int .i64 1, .int .i64 0, .int .i64 0, .int .i64 0, .int .i64 0, .int .i64 0, .int .i64 0, .int .i64 6350000, .slice none 0 0, .slice none 0 0, .int .i64 6350000, .bool true, .bool false, .slice none 0 0], true) hf (fun h => by cases h)
  have HP := Lib.hid hP
  have HM := Lib.hid hM
  have HL := Lib.hid hL
  have HO := Lib.hid ho
  have HOV := Lib.hid hov
  have HB := Lib.hid hB
  have HOK := Lib.hid hok
  have l2_ : P < w.heap.size + 1 := by omega
  have l3_ : P < w.heap.size + 1 + 1 := by omega
  clear hP hL ho hov hB hf hok
  go_enter Tryz.func163, Tryz.ntmps163
  go_wp2_with fail
  obtain ⟨v, ev⟩ : ∃ v, (((w.alloc (.cells #[.int .i64 A, .int .i64 7, .int .i64 1, .int .i64 0, .bool false, .string { data := #[] }, .string X, .string Y, .string { data := #[] }, .string { data := #[] }, .slice none 0 0, .slice none 0 0] 103)).alloc (.cells #[.int .i64 U, .int .i64 V] 58)).alloc (.cells #[.int .i64 0, .int .i64 0] 58)) = v := ⟨_, rfl⟩
  have v1 : Blk v P 159 #[v0, v1, v2, v3, v4, v5, .map (some M), .int .i64 code, v8, .int .i64 x, .int .i64 y, .int .i64 1, v12, .bool dk, v14, v15, v16, v17, v18, .bool false, v20, .slice (some ⟨gL, 0, none⟩) 1 capL, .int .i64 mk, .int .i64 bud, v24] := by rw [← ev]; exact ((HP.out.alloc _).alloc _).alloc _
  have vT : Blk v (w.heap.size + 1) 58 #[.int .i64 U, .int .i64 V] := by rw [← ev]; exact (Blk.newAt (by simp)).alloc _
  have vL : Blk v gL 162 lcs := by rw [← ev]; exact ((HL.out.alloc _).alloc _).alloc _
  have vO : v.ownsRow B 65 11 ov n xs := by rw [← ev]; exact ((HOV.out.alloc _).alloc _).alloc _
  have vM : IsMap v M es clk := by rw [← ev]; exact ((HM.out.alloc _).alloc _).alloc _
  have vo : Only [] w v := by rw [← ev]; exact (((Only.refl _ _).alloc _).alloc _).alloc _
  have sv : v.heap.size = w.heap.size + 1 + 1 + 1 := by rw [← ev]; simp
  rw [ev]
  have c := v1.cell
  have f := v1.frozen
  have l := v1.lt
  have cT := vT.cell
  have lT := vT.lt
  have V1 := Lib.hid v1
  have VT := Lib.hid vT
  have VL := Lib.hid vL
  have VO := Lib.hid vO
  have VV := Lib.hid vo
  have SV := Lib.hid sv
  have hl1 := hl _ vM.drew
  have hl2 := hl _ ((vM.alloc (.cells #[.int .i64 0, .int .i64 0, .int .i64 0, .int .i64 0, .int .i64 0, .int .i64 0, .int .i64 0, .int .i64 0, .slice none 0 0, .slice none 0 0, .int .i64 0, .bool false, .bool false, .slice none 0 0] 280)).drew)
  clear l2_ l3_ hl ev v1 vT vL vO vo vM sv HM
  go_region
  all_goals
    go_wp2_with fail
    obtain ⟨t, et⟩ : ∃ t, ((v.alloc (.cells #[.int .i64 1, .int .i64 0, .int .i64 0, .int .i64 0, .int .i64 0, .int .i64 0, .int .i64 0, .int .i64 6350000, .slice none 0 0, .slice none 0 0, .int .i64 6350000, .bool true, .bool false, .slice none 0 0] 280))).drew = t := ⟨_, rfl⟩
    have t1 : Blk t P 159 #[v0, v1, v2, v3, v4, v5, .map (some M), .int .i64 code, v8, .int .i64 x, .int .i64 y, .int .i64 1, v12, .bool dk, v14, v15, v16, v17, v18, .bool false, v20, .slice (some ⟨gL, 0, none⟩) 1 capL, .int .i64 mk, .int .i64 bud, v24] := by rw [← et]; exact (V1.out.alloc _).drew
    have tT : Blk t (w.heap.size + 1) 58 #[.int .i64 U, .int .i64 V] := by rw [← et]; exact (VT.out.alloc _).drew
    have tL : Blk t gL 162 lcs := by rw [← et]; exact (VL.out.alloc _).drew
    have tO : t.ownsRow B 65 11 ov n xs := by rw [← et]; exact (VO.out.alloc _).drew
    have tA : Blk t v.heap.size 280 #[.int .i64 1, .int .i64 0, .int .i64 0, .int .i64 0, .int .i64 0, .int .i64 0, .int .i64 0, .int .i64 6350000, .slice none 0 0, .slice none 0 0, .int .i64 6350000, .bool true, .bool false, .slice none 0 0] := by rw [← et]; exact (Blk.newAt rfl).drew
    have to_ : Only [] w t := by rw [← et]; exact (VV.out.alloc _).drew
    rw [et]
    have c := t1.cell
    have f := t1.frozen
    have l := t1.lt
    have cT := tT.cell
    have lT := tT.lt
    have cA := tA.cell
    have lA := tA.lt
    have T1 := Lib.hid t1
    have TL := Lib.hid tL
    have TO := Lib.hid tO
    have TA := Lib.hid tA
    have TT := Lib.hid to_
    clear hl1 hl2 et t1 tT tL tO tA to_
    go_region
    all_goals
      go_wp2_with fail
      obtain ⟨u, eu⟩ : ∃ u, ((t.alloc (.cells #[.int .i64 3, .int .i64 x, .int .i64 y, .int .i64 U, .int .i64 V, .int .i64 0, .int .i64 0, .int .i64 6350000, .slice none 0 0, .slice none 0 0] 62))).drew = u := ⟨_, rfl⟩
      have u1 : Blk u P 159 #[v0, v1, v2, v3, v4, v5, .map (some M), .int .i64 code, v8, .int .i64 x, .int .i64 y, .int .i64 1, v12, .bool dk, v14, v15, v16, v17, v18, .bool false, v20, .slice (some ⟨gL, 0, none⟩) 1 capL, .int .i64 mk, .int .i64 bud, v24] := by rw [← eu]; exact (T1.out.alloc _).drew
      have u2 : Blk u gL 162 lcs := by rw [← eu]; exact (TL.out.alloc _).drew
      have u3 : u.ownsRow B 65 11 ov n xs := by rw [← eu]; exact (TO.out.alloc _).drew
      have u4 : Blk u v.heap.size 280 #[.int .i64 1, .int .i64 0, .int .i64 0, .int .i64 0, .int .i64 0, .int .i64 0, .int .i64 0, .int .i64 6350000, .slice none 0 0, .slice none 0 0, .int .i64 6350000, .bool true, .bool false, .slice none 0 0] := by rw [← eu]; exact (TA.out.alloc _).drew
      have u5 : Blk u t.heap.size 62 #[.int .i64 3, .int .i64 x, .int .i64 y, .int .i64 U, .int .i64 V, .int .i64 0, .int .i64 0, .int .i64 6350000, .slice none 0 0, .slice none 0 0] := by rw [← eu]; exact (Blk.newAt rfl).drew
      have u6 : Only [] w u := by rw [← eu]; exact (TT.out.alloc _).drew
      rw [eu]
      have c := u1.cell
      have f := u1.frozen
      have l := u1.lt
      have c4 := u4.cell
      have l4 := u4.lt
      have c5 := u5.cell
      have l5 := u5.lt
      have hT := add_l P gL capL B n mk bud 3 x y U V 6350000 dk none 0 0 ov lcs xs u.drew u1.drew u2.drew HO.out u3.drew hm0 hm1 hm2 hn (by have := HB.out; have := u6.size; simp; omega) ((HOK.out _).mono fun e w' h => ⟨h.1, by simpa using h.2⟩)
      have HT := Lib.hid hT
      have HU := Lib.hid u6
      clear eu u1 u2 u3 u4 u5 u6 hT cT lT cA lA
      go_wp2_with fail
      go_still_tail 6, (by kernel_rfl)
      change wpList _ _ _ _ _ u.drew
      go_wp2_with (go_at_call 161; refine (HT.out).mono ?_; rintro e w3 ⟨g, cap, rfl, hA⟩)
      have HA := Lib.hid (hA.from HU.out.drew)
      clear hA
      go_wp2_with fail
      go_ret
      exact ⟨g, cap, rfl, HA.out⟩
theorem operate_lg (P M gL capL B n : Nat) (mk bud code A x y : Int) (dk : Bool) {v8 v12 v20 v24 : Value} {ov : Value} {lcs : Array Value} {xs : List Value} (es : Array MapEntry) (clk : Nat) (un dc U V : Int) (X Y : ByteArray) (hu0 : (un == 0) = false) (z1 : X.toList.isEmpty = false) (z2 : Y.toList.isEmpty = false) (h1 : ∀ w, Calls Tryz.prog 162 #[.string X, .agg #[.int .i64 un, .int .i64 2, .int .i64 dc, .bool false]] w fun e w' => e = .returned (.tuple #[.int .i64 U, .bool true]) ∧ Below w.heap.size w w') (h2 : ∀ w, Calls Tryz.prog 162 #[.string Y, .agg #[.int .i64 un, .int .i64 2, .int .i64 dc, .bool false]] w fun e w' => e = .returned (.tuple #[.int .i64 V, .bool true]) ∧ Below w.heap.size w w') (u0 : 0 ≤ U) (u1 : U ≤ 230000000) (u2 : 0 ≤ V) (u3 : V ≤ 230000000) (hok : ∀ w, Calls Tryz.prog 171 #[.agg #[.int .i64 3, .int .i64 x, .int .i64 y, .int .i64 U, .int .i64 V, .int .i64 0, .int .i64 0, .int .i64 6350000, .slice none 0 0, .slice none 0 0]] w fun e w' => e = .returned (.bool true) ∧ Below w.heap.size w w') (w : World)
    (hP : Blk w P 159 #[.int .i64 un, .int .i64 1, .int .i64 2, .int .i64 dc, .bool false, .bool true, .map (some M), .int .i64 code, v8, .int .i64 x, .int .i64 y, .int .i64 1, v12, .bool dk, .bool false, .bool false, .int .i64 0, .int .i64 0, .int .i64 0, .bool false, v20, .slice (some ⟨gL, 0, none⟩) 1 capL, .int .i64 mk, .int .i64 bud, v24]) (hM : IsMap w M es clk) (hf : (Instr.findNow (.int .i64) (.int .i64 code) es.toList 0).map (fun r => r.map (·.2)) = some (some (.agg #[.int .i64 1, .int .i64 0, .int .i64 0, .int .i64 0, .int .i64 0, .int .i64 0, .int .i64 0, .int .i64 6350000, .slice none 0 0, .slice none 0 0, .int .i64 6350000, .bool true, .bool false, .slice none 0 0]))) (hL : Blk w gL 162 lcs) (ho : lcs[6]? = some ov) (hov : w.ownsRow B 65 11 ov n xs)  (hm0 : 0 ≤ mk) (hm1 : mk + 1 ≤ bud) (hm2 : bud ≤ 100000) (hn : n + 1 ≤ 100000) (hB : B ≤ w.heap.size) :
    Calls Tryz.prog 103 #[.pointer (some ⟨P, 0, none⟩), .agg #[.int .i64 A, .int .i64 7, .int .i64 1, .int .i64 0, .bool false, .string { data := #[] }, .string X, .string Y, .string { data := #[] }, .string { data := #[] }, .slice none 0 0, .slice none 0 0]] w fun e w' => e = .returned (.int .i64 0) ∧ Adds P gL 6 B n (fun m => #[.int .i64 un, .int .i64 1, .int .i64 2, .int .i64 dc, .bool false, .bool true, .map (some M), .int .i64 code, v8, .int .i64 U, .int .i64 V, .int .i64 1, v12, .bool dk, .bool false, .bool false, .int .i64 0, .int .i64 0, .int .i64 0, .bool false, v20, .slice (some ⟨gL, 0, none⟩) 1 capL, .int .i64 m, .int .i64 bud, v24]) lcs ov xs mk w 1 [.bool dk, .int .i64 3, .int .i64 x, .int .i64 y, .int .i64 U, .int .i64 V, .int .i64 0, .int .i64 0, .int .i64 6350000, .slice none 0 0, .slice none 0 0] w' := by
  have i0 : ∀ w, (Instr.index 285 (.agg #[.string X, .string Y, .string { data := #[] }, .string { data := #[] }]) (.int .i64 0)).run Tryz.prog w = .ok (.string X) w := fun _ => by kernel_rfl
  have i1 : ∀ w, (Instr.index 285 (.agg #[.string X, .string Y, .string { data := #[] }, .string { data := #[] }]) (.int .i64 1)).run Tryz.prog w = .ok (.string Y) w := fun _ => by kernel_rfl
  have i2 : ∀ w, (Instr.index 285 (.agg #[.string X, .string Y, .string { data := #[] }, .string { data := #[] }]) (.int .i64 2)).run Tryz.prog w = .ok (.string { data := #[] }) w := fun _ => by kernel_rfl
  have i3 : ∀ w, (Instr.index 285 (.agg #[.string X, .string Y, .string { data := #[] }, .string { data := #[] }]) (.int .i64 3)).run Tryz.prog w = .ok (.string { data := #[] }) w := fun _ => by kernel_rfl
  have H1 := Lib.hid h1
  have HOK := Lib.hid hok
  clear hok
  have H2 := Lib.hid h2
  have c := hP.cell
  have f := hP.frozen
  have l := hP.lt
  have lM := hM.lt
  have lL := hL.lt
  have HP0 := Lib.hid hP
  have HM := Lib.hid hM
  have HF := Lib.hid hf
  have HL := Lib.hid hL
  have HO := Lib.hid ho
  have HOV := Lib.hid hov
  have HB := Lib.hid hB
  clear h1 h2 hM hf hL ho hov hB 
  go_enter Tryz.func103, Tryz.ntmps103
  go_wp2_with fail
  have c9 : w.cell? ⟨P, 9, none⟩ = some (.int .i64 x) := c 9
  have c10 : w.cell? ⟨P, 10, none⟩ = some (.int .i64 y) := c 10
  have l3 : P < w.heap.size + 1 + 1 := by omega
  go_region
  go_wp2_with fail
  refine wp_loop_rounds 5 ?_
  rw [rounds_succ]
  go_wp2_with fail
  refine (H1.out _).mono ?_
  rintro e w1 ⟨rfl, hb⟩
  have hB1 : Below w.heap.size w w1 := Below.trans (by exact blw) (hb.mono (by first | omega | (simp; done) | (simp; omega)))
  have k1_0 : Blk w1 (P) 159 #[.int .i64 un, .int .i64 1, .int .i64 2, .int .i64 dc, .bool false, .bool true, .map (some M), .int .i64 code, v8, .int .i64 x, .int .i64 y, .int .i64 1, v12, .bool dk, .bool false, .bool false, .int .i64 0, .int .i64 0, .int .i64 0, .bool false, v20, .slice (some ⟨gL, 0, none⟩) 1 capL, .int .i64 mk, .int .i64 bud, v24] := Blk.below (by exact bkw) hb (by first | omega | (simp; done) | (simp; omega))
  have k1_1 : Blk w1 (w.heap.size) 103 #[.int .i64 A, .int .i64 7, .int .i64 1, .int .i64 0, .bool false, .string { data := #[] }, .string X, .string Y, .string { data := #[] }, .string { data := #[] }, .slice none 0 0, .slice none 0 0] := Blk.below (by exact bkw) hb (by first | omega | (simp; done) | (simp; omega))
  have k1_2 : Blk w1 (w.heap.size + 1) 154 #[.int .i64 un, .int .i64 2, .int .i64 dc, .bool false] := Blk.below (by exact bkw) hb (by first | omega | (simp; done) | (simp; omega))
  have k1_3 : Blk w1 (w.heap.size + 1 + 1) 284 #[.int .i64 x, .int .i64 y, .int .i64 0, .int .i64 0] := Blk.below (by exact bkw) hb (by first | omega | (simp; done) | (simp; omega))
  have c1_0 := k1_0.cell
  have f1_0 := k1_0.frozen
  have l1_0 := k1_0.lt
  have c1_1 := k1_1.cell
  have f1_1 := k1_1.frozen
  have l1_1 := k1_1.lt
  have c1_2 := k1_2.cell
  have f1_2 := k1_2.frozen
  have l1_2 := k1_2.lt
  have c1_3 := k1_3.cell
  have f1_3 := k1_3.frozen
  have l1_3 := k1_3.lt
  have l1 := hB1.size
  clear hb hP c f c9 c10 l3
  go_wp2_with fail
  rw [rounds_succ]
  go_wp2_with fail
  refine (H2.out _).mono ?_
  rintro e w2 ⟨rfl, hb⟩
  have hB2 : Below w.heap.size w w2 := Below.trans (by exact blw) (hb.mono (by first | omega | (simp; done) | (simp; omega)))
  have k2_0 : Blk w2 (P) 159 #[.int .i64 un, .int .i64 1, .int .i64 2, .int .i64 dc, .bool false, .bool true, .map (some M), .int .i64 code, v8, .int .i64 x, .int .i64 y, .int .i64 1, v12, .bool dk, .bool false, .bool false, .int .i64 0, .int .i64 0, .int .i64 0, .bool false, v20, .slice (some ⟨gL, 0, none⟩) 1 capL, .int .i64 mk, .int .i64 bud, v24] := Blk.below (by exact bkw) hb (by first | omega | (simp; done) | (simp; omega))
  have k2_1 : Blk w2 (w.heap.size) 103 #[.int .i64 A, .int .i64 7, .int .i64 1, .int .i64 0, .bool false, .string { data := #[] }, .string X, .string Y, .string { data := #[] }, .string { data := #[] }, .slice none 0 0, .slice none 0 0] := Blk.below (by exact bkw) hb (by first | omega | (simp; done) | (simp; omega))
  have k2_2 : Blk w2 (w.heap.size + 1) 154 #[.int .i64 un, .int .i64 2, .int .i64 dc, .bool false] := Blk.below (by exact bkw) hb (by first | omega | (simp; done) | (simp; omega))
  have k2_3 : Blk w2 (w.heap.size + 1 + 1) 284 #[.int .i64 U, .int .i64 y, .int .i64 0, .int .i64 0] := Blk.below (by exact bkw) hb (by first | omega | (simp; done) | (simp; omega))
  have c2_0 := k2_0.cell
  have f2_0 := k2_0.frozen
  have l2_0 := k2_0.lt
  have c2_1 := k2_1.cell
  have f2_1 := k2_1.frozen
  have l2_1 := k2_1.lt
  have c2_2 := k2_2.cell
  have f2_2 := k2_2.frozen
  have l2_2 := k2_2.lt
  have c2_3 := k2_3.cell
  have f2_3 := k2_3.frozen
  have l2_3 := k2_3.lt
  have l2 := hB2.size
  clear hb k1_0 c1_0 f1_0 l1_0 k1_1 c1_1 f1_1 l1_1 k1_2 c1_2 f1_2 l1_2 k1_3 c1_3 f1_3 l1_3
  go_wp2_with fail
  rw [rounds_succ]
  go_wp2_with fail
  rw [rounds_succ]
  go_wp2_with fail
  rw [rounds_succ]
  go_wp2_with fail
  obtain ⟨u, eu⟩ : ∃ u, (w2.setCell ⟨w.heap.size + 1 + 1, 1, none⟩ (.int .i64 V)).alloc (.cells #[.int .i64 U, .int .i64 V] 58) = u := ⟨_, rfl⟩
  have q1 : Blk u P 159 #[.int .i64 un, .int .i64 1, .int .i64 2, .int .i64 dc, .bool false, .bool true, .map (some M), .int .i64 code, v8, .int .i64 x, .int .i64 y, .int .i64 1, v12, .bool dk, .bool false, .bool false, .int .i64 0, .int .i64 0, .int .i64 0, .bool false, v20, .slice (some ⟨gL, 0, none⟩) 1 capL, .int .i64 mk, .int .i64 bud, v24] := by rw [← eu]; exact (k2_0.far (by simp; omega) _).alloc _
  have q2 : Blk u w2.heap.size 58 #[.int .i64 U, .int .i64 V] := by rw [← eu]; exact Blk.newAt (by simp)
  have q3 : Only [] w u := by
    rw [← eu]
    have h0 : Only [] w w2 := Only.of_below hB2 (Nat.le_refl _) _
    exact (h0.setCell (.inr (by simp; omega)) _).alloc _
  have qM := q3.map HM.out (by simp)
  have qL := q3.blk HL.out (by simp)
  have qO := q3.own HOV.out (by simp)
  have q4 : Blk u w.heap.size 103 #[.int .i64 A, .int .i64 7, .int .i64 1, .int .i64 0, .bool false, .string { data := #[] }, .string X, .string Y, .string { data := #[] }, .string { data := #[] }, .slice none 0 0, .slice none 0 0] := by rw [← eu]; exact (k2_1.far (by simp; omega) _).alloc _
  have q5 : Blk u (w.heap.size + 1 + 1) 284 #[.int .i64 U, .int .i64 V, .int .i64 0, .int .i64 0] := by rw [← eu]; exact (k2_3.set_ 1 _ rfl).alloc _
  have cq4 := q4.cell
  have lq4 := q4.lt
  have cq5 := q5.cell
  have lq5 := q5.lt
  have hF := draw_l P M gL capL B n mk bud U V code A x y dk X Y es clk u q1 qM HF.out qL HO.out qO hm0 (by omega) hm2 (by omega) (by have := HB.out; have := q3.size; omega) HOK.out
  have Q1 := Lib.hid q1
  have Q2 := Lib.hid q2
  have Q3 := Lib.hid q3
  have QL := Lib.hid qL
  have QO := Lib.hid qO
  have HFL := Lib.hid hF
  rw [eu]
  have lu := q3.size
  have lq2 := q2.lt
  clear q4 q5 eu q1 q2 q3 qM qL qO hF k2_0 c2_0 f2_0 l2_0 k2_1 c2_1 f2_1 l2_1 k2_2 c2_2 f2_2 l2_2 k2_3 c2_3 f2_3 l2_3
  refine (HFL.out).mono ?_
  rintro e w3 ⟨g, cap, rfl, hA⟩
  have hAA := Adds.one (pc := (fun m => #[.int .i64 un, .int .i64 1, .int .i64 2, .int .i64 dc, .bool false, .bool true, .map (some M), .int .i64 code, v8, .int .i64 x, .int .i64 y, .int .i64 1, v12, .bool dk, .bool false, .bool false, .int .i64 0, .int .i64 0, .int .i64 0, .bool false, v20, .slice (some ⟨gL, 0, none⟩) 1 capL, .int .i64 m, .int .i64 bud, v24])) Q1.out QL.out HO.out QO.out hA
  have k3 : Blk w3 P 159 #[.int .i64 un, .int .i64 1, .int .i64 2, .int .i64 dc, .bool false, .bool true, .map (some M), .int .i64 code, v8, .int .i64 x, .int .i64 y, .int .i64 1, v12, .bool dk, .bool false, .bool false, .int .i64 0, .int .i64 0, .int .i64 0, .bool false, v20, .slice (some ⟨gL, 0, none⟩) 1 capL, .int .i64 (mk + 1), .int .i64 bud, v24] := hA.1
  have hO : Only (P :: gL :: ov.ownBlock.toList) u w3 := hA.2.2.2.1
  have k4 := hO.blk Q2.out (by
    intro hm
    simp only [List.mem_cons, Option.mem_toList] at hm
    rcases hm with h | h | h
    · exact Q1.out.ne_ Q2.out (by decide) h.symm
    · exact QL.out.ne_ Q2.out (by decide) h.symm
    · exact own_blk_ne QO.out Q2.out (by decide) h)
  have c3 := k3.cell
  have f3 := k3.frozen
  have l3 := k3.lt
  have c4 := k4.cell
  have l4 := k4.lt
  have K3 := Lib.hid k3
  have HA := Lib.hid hAA
  clear hAA hA hO k3 k4
  go_wp2_with fail
  go_ret
  have k9 := (K3.out.set_ 9 (.int .i64 U) rfl).set_ 10 (.int .i64 V) rfl
  refine ⟨rfl, (HA.out.turnP (pc' := (fun m => #[.int .i64 un, .int .i64 1, .int .i64 2, .int .i64 dc, .bool false, .bool true, .map (some M), .int .i64 code, v8, .int .i64 U, .int .i64 V, .int .i64 1, v12, .bool dk, .bool false, .bool false, .int .i64 0, .int .i64 0, .int .i64 0, .bool false, v20, .slice (some ⟨gL, 0, none⟩) 1 capL, .int .i64 m, .int .i64 bud, v24])) k9 ?_).from_ Q3.out⟩
  exact ((Only.refl _ _).setCell (by simp) _).setCell (by simp) _
theorem grains_i (w : World) : Calls Tryz.prog 207 #[.int .i64 2] w fun e w' => e = .returned (.int .i64 254) ∧ w = w' := by
  go_enter Tryz.func207, Tryz.ntmps207
  go_wp2
  go_ret
  exact ⟨rfl, rfl⟩
theorem grain_i (n : Int) (w : World) (h0 : -2113664 ≤ n) (h1 : n ≤ 2113664) : Calls Tryz.prog 166 #[.int .i64 n, .int .i64 2] w fun e w' => e = .returned (.tuple #[.int .i64 (n * 254), .bool true]) ∧ w = w' := by
  have d1 : decide (n * 254 < -536870912) = false := by simp; omega
  have d2 : decide (536870912 < n * 254) = false := by simp; omega
  go_enter Tryz.func166, Tryz.ntmps166
  go_wp2_with (first | (go_at_call 207; refine (grains_i _).mono ?_; rintro e w' ⟨rfl, rfl⟩) | (go_at_call 208; refine (decok_c _ _ (by omega) (by omega)).mono ?_; rintro e w' ⟨rfl, rfl⟩))
  go_ret2
  exact ⟨rfl, rfl⟩
theorem unitok_i (w : World) : Calls Tryz.prog 156 #[.agg #[.int .i64 2, .int .i64 2, .int .i64 4, .bool false]] w fun e w' => e = .returned (.bool true) ∧ Below w.heap.size w w' := by
  go_enter Tryz.func156, Tryz.ntmps156
  go_wp2
  go_ret
  exact ⟨rfl, by go_grown⟩
theorem unitok_6 (w : World) : Calls Tryz.prog 156 #[.agg #[.int .i64 1, .int .i64 2, .int .i64 6, .bool false]] w fun e w' => e = .returned (.bool true) ∧ Below w.heap.size w w' := by
  go_enter Tryz.func156, Tryz.ntmps156
  go_wp2
  go_ret
  exact ⟨rfl, by go_grown⟩
theorem tens_0 (n : Int) (w : World) : Calls Tryz.prog 205 #[.int .i64 n, .int .i64 0] w fun e w' => e = .returned (.int .i64 n) ∧ w = w' := by
  go_enter Tryz.func205, Tryz.ntmps205
  go_wp2
  refine wp_loop_rounds 1 ?_
  rw [rounds_succ]
  go_wp2
  go_ret
  exact ⟨rfl, rfl⟩
theorem coord_i (s : List UInt8) (w : World) (hd : Digits s) (h1 : 0 < s.length) (h6 : s.length ≤ 6) (hv : numV s ≤ 20000) :
    Calls Tryz.prog 162 #[.string (bs s), .agg #[.int .i64 2, .int .i64 2, .int .i64 4, .bool false]] w fun e w' => e = .returned (.tuple #[.int .i64 ((numV s * 25400 : Nat) : Int), .bool true]) ∧ Below w.heap.size w w' := by
  obtain ⟨N, eN⟩ : ∃ N, s.length = N := ⟨_, rfl⟩
  have hsz : (bs s).size = N := by rw [bs_size, eN]
  have HD := Lib.hid hd
  have hAt := fun k c h w => bs_at s k c h w
  have HAt := Lib.hid hAt
  have hne : (bs s).toList.isEmpty = false := by
    rw [bs_toList]
    cases s with
    | nil => simp at h1
    | cons a l => rfl
  obtain ⟨c0, hc0, hx0⟩ : ∃ c0 : Nat, (48 ≤ c0 ∧ c0 ≤ 57) ∧ ∀ h : 0 < (bs s).size, ((bs s)[0]'h).toNat = c0 := ⟨s[0].toNat, digits_get hd 0 h1, fun h => bs_head s s[0] (by rw [List.head?_eq_getElem?]; exact List.getElem?_eq_getElem h1) h⟩
  have p1 : ((c0 : Int) == 43) = false := by simp; omega
  have p2 : ((c0 : Int) == 45) = false := by simp; omega
  have HV := Lib.hid hv
  have HM := fun k => numV_le (s.take k) (digits_take hd k) (by rw [List.length_take]; omega)
  have HMM := Lib.hid HM
  have HN := Lib.hid eN
  obtain ⟨V, eV⟩ : ∃ v, numV s = v := ⟨_, rfl⟩
  rw [eV] at HV ⊢
  have EV := Lib.hid eV
  obtain ⟨S, eS⟩ : ∃ x, bs s = x := ⟨_, rfl⟩
  rw [eS] at hsz hne HAt hx0 ⊢
  rw [eN] at h1 h6
  have q1 : decide ((N : Int) < 1) = false := by simp; omega
  have q2 : decide (6 < (N : Int)) = false := by simp; omega
  clear hAt hd hv HM eN eV eS
  go_enter Tryz.func162, Tryz.ntmps162
  go_wp2_with (first | (go_at_call 156; refine (unitok_i _).mono ?_; rintro e w1 ⟨rfl, hb⟩; obtain ⟨hc, hf⟩ := bcell hb))
  have hB1 : Below w.heap.size w w1 := (Below.alloc (Below.refl _ w) (Nat.le_refl _) _).trans (hb.mono (by simp))
  go_loop [8, 46] (fun v i => ∃ k : Nat, k ≤ N ∧ i = .int .i64 (k : Int) ∧ v = .int .i64 (numV (s.take k) : Int)) (fun _ i => N - (intOf i).toNat)
  case atStart => exact ⟨0, by omega, rfl, rfl⟩
  case round =>
  obtain ⟨k, hk, rfl, rfl⟩ := hrel
  by_cases hkN : k < N
  · have r1 : decide ((k : Int) < (N : Int)) = true := by simp; omega
    have r2 : (k : Int) < (N : Int) := by omega
    have hkl : k < s.length := by have := HN.out; omega
    have hx := HAt.out k s[k] (List.getElem?_eq_getElem hkl)
    have hdg := digits_get HD.out k hkl
    have hnx := numV_take s k hkl
    have hbd := HMM.out k
    obtain ⟨c, ec⟩ : ∃ c, s[k].toNat = c := ⟨_, rfl⟩
    rw [ec] at hx hdg hnx
    obtain ⟨u, eu⟩ : ∃ u, numV (s.take k) = u := ⟨_, rfl⟩
    rw [eu] at hnx hbd ⊢
    have hs48 := sub48 c hdg.1 hdg.2
    have t1 : decide ((c : Int) < 48) = false := by simp; omega
    have t2 : decide (57 < (c : Int)) = false := by simp; omega
    have HX := Lib.hid hnx
    have b1 : (c : Int) ≤ 57 := by omega
    have b2 : 48 ≤ (c : Int) := by omega
    have b3 : (u : Int) ≤ 999999 := by omega
    clear hnx ec eu hdg hbd
    go_wp2
    go_round
    case rel => exact ⟨k + 1, by omega, by go_num, by rw [HX.out]; simp⟩
    case measure => simp [intOf]; omega
  · obtain rfl : N = k := by omega
    have htk : s.take N = s := List.take_of_length_le (by rw [HN.out]; exact Nat.le_refl _)
    rw [htk, EV.out]
    have hv := HV.out
    have e1 : ((V : Int) * 100) * 254 = (((V * 25400 : Nat)) : Int) := by omega
    go_wp2_with (first | (go_at_call 205; refine (tens_c _ _ (by omega) (by omega)).mono ?_; rintro e w' ⟨rfl, rfl⟩) | (go_at_call 166; refine (grain_i _ _ (by omega) (by omega)).mono ?_; rintro e w' ⟨rfl, rfl⟩))
    go_ret2
    exact ⟨rfl, hB1⟩
theorem numV_le8 (l : List UInt8) (h : Digits l) (hl : l.length ≤ 8) : numV l ≤ 99999999 := by
  have := numV_lt l h
  have : 10 ^ l.length ≤ 10 ^ 8 := Nat.pow_le_pow_right (by decide) hl
  omega
theorem coord_6 (s : List UInt8) (w : World) (hd : Digits s) (h1 : 0 < s.length) (h6 : s.length ≤ 8) (hv : numV s ≤ 53687091) :
    Calls Tryz.prog 162 #[.string (bs s), .agg #[.int .i64 1, .int .i64 2, .int .i64 6, .bool false]] w fun e w' => e = .returned (.tuple #[.int .i64 ((numV s : Int) * 10), .bool true]) ∧ Below w.heap.size w w' := by
  obtain ⟨N, eN⟩ : ∃ N, s.length = N := ⟨_, rfl⟩
  have hsz : (bs s).size = N := by rw [bs_size, eN]
  have HD := Lib.hid hd
  have hAt := fun k c h w => bs_at s k c h w
  have HAt := Lib.hid hAt
  have hne : (bs s).toList.isEmpty = false := by
    rw [bs_toList]
    cases s with
    | nil => simp at h1
    | cons a l => rfl
  obtain ⟨c0, hc0, hx0⟩ : ∃ c0 : Nat, (48 ≤ c0 ∧ c0 ≤ 57) ∧ ∀ h : 0 < (bs s).size, ((bs s)[0]'h).toNat = c0 := ⟨s[0].toNat, digits_get hd 0 h1, fun h => bs_head s s[0] (by rw [List.head?_eq_getElem?]; exact List.getElem?_eq_getElem h1) h⟩
  have p1 : ((c0 : Int) == 43) = false := by simp; omega
  have p2 : ((c0 : Int) == 45) = false := by simp; omega
  have HV := Lib.hid hv
  have HM := fun k => numV_le8 (s.take k) (digits_take hd k) (by rw [List.length_take]; omega)
  have HMM := Lib.hid HM
  have HN := Lib.hid eN
  obtain ⟨V, eV⟩ : ∃ v, numV s = v := ⟨_, rfl⟩
  rw [eV] at HV ⊢
  have EV := Lib.hid eV
  obtain ⟨S, eS⟩ : ∃ x, bs s = x := ⟨_, rfl⟩
  rw [eS] at hsz hne HAt hx0 ⊢
  rw [eN] at h1 h6
  have q1 : decide ((N : Int) < 1) = false := by simp; omega
  have q2 : decide (8 < (N : Int)) = false := by simp; omega
  clear hAt hd hv HM eN eV eS
  go_enter Tryz.func162, Tryz.ntmps162
  go_wp2_with (first | (go_at_call 156; refine (unitok_6 _).mono ?_; rintro e w1 ⟨rfl, hb⟩; obtain ⟨hc, hf⟩ := bcell hb))
  have hB1 : Below w.heap.size w w1 := (Below.alloc (Below.refl _ w) (Nat.le_refl _) _).trans (hb.mono (by simp))
  go_loop [8, 46] (fun v i => ∃ k : Nat, k ≤ N ∧ i = .int .i64 (k : Int) ∧ v = .int .i64 (numV (s.take k) : Int)) (fun _ i => N - (intOf i).toNat)
  case atStart => exact ⟨0, by omega, rfl, rfl⟩
  case round =>
  obtain ⟨k, hk, rfl, rfl⟩ := hrel
  by_cases hkN : k < N
  · have r1 : decide ((k : Int) < (N : Int)) = true := by simp; omega
    have r2 : (k : Int) < (N : Int) := by omega
    have hkl : k < s.length := by have := HN.out; omega
    have hx := HAt.out k s[k] (List.getElem?_eq_getElem hkl)
    have hdg := digits_get HD.out k hkl
    have hnx := numV_take s k hkl
    have hbd := HMM.out k
    obtain ⟨c, ec⟩ : ∃ c, s[k].toNat = c := ⟨_, rfl⟩
    rw [ec] at hx hdg hnx
    obtain ⟨u, eu⟩ : ∃ u, numV (s.take k) = u := ⟨_, rfl⟩
    rw [eu] at hnx hbd ⊢
    have hs48 := sub48 c hdg.1 hdg.2
    have t1 : decide ((c : Int) < 48) = false := by simp; omega
    have t2 : decide (57 < (c : Int)) = false := by simp; omega
    have HX := Lib.hid hnx
    have b1 : (c : Int) ≤ 57 := by omega
    have b2 : 48 ≤ (c : Int) := by omega
    have b3 : (u : Int) ≤ 99999999 := by omega
    clear hnx ec eu hdg hbd
    go_wp2
    go_round
    case rel => exact ⟨k + 1, by omega, by go_num, by rw [HX.out]; simp⟩
    case measure => simp [intOf]; omega
  · obtain rfl : N = k := by omega
    have htk : s.take N = s := List.take_of_length_le (by rw [HN.out]; exact Nat.le_refl _)
    rw [htk, EV.out]
    have hv := HV.out
    go_wp2_with (first | (go_at_call 205; refine (tens_0 _ _).mono ?_; rintro e w' ⟨rfl, rfl⟩) | (go_at_call 166; refine (grain_c _ _ (by omega) (by omega)).mono ?_; rintro e w' ⟨rfl, rfl⟩))
    go_ret2
    exact ⟨rfl, hB1⟩
end Go.Proofs.YtfajckkbinbpiaaGreatDoor
