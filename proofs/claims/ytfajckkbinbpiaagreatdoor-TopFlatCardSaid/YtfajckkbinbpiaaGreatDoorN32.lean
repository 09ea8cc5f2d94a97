/- Walks: package plot: a code that is not taken. A struct stored into the last element of a row of one's own. A struct stored into a part of a block that is known: the walk goes on in a world of which the block is known, and that all else is as it was. Walks: package aper: a circle. Walks: operations as they are written. -/
import Derived.BigRegion
import Derived.Deep.MidRow
import Derived.Deep.RegionHeld3
import Derived.Maps.AppendAt
import Derived.Outline
import Derived.RegionTactic
import Derived.Test.YtfajckkbinbpiaaGreatDoorN01
import Derived.Test.YtfajckkbinbpiaaGreatDoorN06
import Derived.Test.YtfajckkbinbpiaaGreatDoorN11
import Derived.Test.YtfajckkbinbpiaaGreatDoorN14
namespace Go.Proofs.YtfajckkbinbpiaaGreatDoor
set_option maxRecDepth 100000
set_option maxHeartbeats 32000000
set_option linter.unusedVariables false
set_option linter.unusedSimpArgs false
open Go.RowKit
theorem zero167 (w : World) : (zeroValue 280).run Tryz.prog w = .ok (.agg #[.int .i64 0, .int .i64 0, .int .i64 0, .int .i64 0, .int .i64 0, .int .i64 0, .int .i64 0, .int .i64 0, .slice none 0 0, .slice none 0 0, .int .i64 0, .bool false, .bool false, .slice none 0 0]) w := by kernel_rfl
theorem taken_no (P M gL capL : Nat) (code : Int) {v0 v1 v2 v3 v4 v5 v7 v8 v9 v10 v11 v12 v13 v14 v15 v16 v17 v18 v19 v20 v22 v23 v24 : Value} (es : Array MapEntry) (clk : Nat) (w : World) (hP : Blk w P 159 #[v0, v1, v2, v3, v4, v5, .map (some M), v7, v8, v9, v10, v11, v12, v13, v14, v15, v16, v17, v18, v19, v20, .slice (some ⟨gL, 0, none⟩) 1 capL, v22, v23, v24]) (hM : IsMap w M es clk) (hf : Instr.findNow (.int .i64) (.int .i64 code) es.toList 0 = some none) (hcap : 1 ≤ capL) :
    Calls Tryz.prog 157 #[.pointer (some ⟨P, 0, none⟩), .int .i64 code] w fun e w' => e = .returned (.bool false) ∧ Below w.heap.size w w' := by
  have c := hP.cell
  have f := hP.frozen
  have l := hP.lt
  have HF := Lib.hid hf
  have HM := Lib.hid hM
  clear hP hf hM
  go_enter Tryz.func157, Tryz.ntmps157
  go_wp2_with (at_lookup; refine wpList_look _ rfl (.tmp 13) (.tmp 14) rfl (by simp [Act.eval]) HM.out code (by simp [Act.eval]) (.agg #[.int .i64 0, .int .i64 0, .int .i64 0, .int .i64 0, .int .i64 0, .int .i64 0, .int .i64 0, .int .i64 0, .slice none 0 0, .slice none 0 0, .int .i64 0, .bool false, .bool false, .slice none 0 0], false) (by rw [HF.out]; rfl) (fun _ w => zero167 w) ?_)
  all_goals
    refine wp_loop_rounds 1 ?_
    rw [rounds_succ]
    go_wp2_with fail
    go_ret
    exact ⟨rfl, by exact blw⟩
theorem define_fs (P : Nat) (A : Int) {v0 v6 v7 v8 v9 v10 v11 v12 v13 v14 v15 v16 v17 v18 v19 v20 v21 v22 v23 v24 : Value} (o1 o2 o3 o4 : Value) (w : World) (hP : Blk w P 159 #[v0, o1, o2, o3, o4, .bool false, v6, v7, v8, v9, v10, v11, v12, v13, v14, v15, v16, v17, v18, v19, v20, v21, v22, v23, v24]) :
    Calls Tryz.prog 100 #[.pointer (some ⟨P, 0, none⟩), .agg #[.int .i64 A, .int .i64 8, .int .i64 2, .int .i64 4, .bool false, .string { data := #[] }, .string { data := #[] }, .string { data := #[] }, .string { data := #[] }, .string { data := #[] }, .slice none 0 0, .slice none 0 0]] w fun e w' => e = .returned (.int .i64 0) ∧ Blk w' P 159 #[v0, .int .i64 1, .int .i64 2, .int .i64 4, .bool false, .bool true, v6, v7, v8, v9, v10, v11, v12, v13, v14, v15, v16, v17, v18, v19, v20, v21, v22, v23, v24] ∧ Only [P] w w' := by
  have c := hP.cell
  have f := hP.frozen
  have l := hP.lt
  have k := hP
  have HK := Lib.hid k
  clear hP k
  go_enter Tryz.func100, Tryz.ntmps100
  go_wp2_with fail
  refine (unitok_c _).mono ?_
  rintro e w1 ⟨rfl, hb⟩
  have k1 : Blk w1 P 159 #[v0, o1, o2, o3, o4, .bool false, v6, v7, v8, v9, v10, v11, v12, v13, v14, v15, v16, v17, v18, v19, v20, v21, v22, v23, v24] := (((HK.out).alloc _).alloc _).below hb (by simp; omega)
  have k2 : Blk w1 (w.heap.size + 1) 154 #[.int .i64 1, .int .i64 2, .int .i64 4, .bool false] := Blk.below (Blk.newAt (by simp)) hb (by simp)
  have hB1 : Only [P] w w1 := (((Only.refl _ _).alloc _).alloc _).below hb (by simp; omega)
  have l1 := hb.size
  have c1 := k1.cell
  have f1 := k1.frozen
  have c2 := k2.cell
  have l2 := k2.lt
  have K1 := Lib.hid k1
  clear hb c f k1 k2
  go_wp2_with fail
  go_ret
  exact ⟨rfl, ((((K1.out.set_ 1 _ rfl).set_ 2 _ rfl).set_ 3 _ rfl).set_ 4 _ rfl).set_ 5 _ rfl, by exact onw⟩
theorem define_mo (P : Nat) (A : Int) {v1 v2 v3 v4 v5 v6 v7 v8 v9 v10 v11 v12 v13 v14 v15 v16 v17 v18 v19 v20 v21 v22 v23 v24 : Value} (w : World) (hP : Blk w P 159 #[.int .i64 0, v1, v2, v3, v4, v5, v6, v7, v8, v9, v10, v11, v12, v13, v14, v15, v16, v17, v18, v19, v20, v21, v22, v23, v24]) :
    Calls Tryz.prog 100 #[.pointer (some ⟨P, 0, none⟩), .agg #[.int .i64 A, .int .i64 9, .int .i64 1, .int .i64 0, .bool false, .string { data := #[] }, .string { data := #[] }, .string { data := #[] }, .string { data := #[] }, .string { data := #[] }, .slice none 0 0, .slice none 0 0]] w fun e w' => e = .returned (.int .i64 0) ∧ Blk w' P 159 #[.int .i64 1, v1, v2, v3, v4, v5, v6, v7, v8, v9, v10, v11, v12, v13, v14, v15, v16, v17, v18, v19, v20, v21, v22, v23, v24] ∧ Only [P] w w' := by
  have c := hP.cell
  have f := hP.frozen
  have l := hP.lt
  have HK := Lib.hid hP
  clear hP
  go_enter Tryz.func100, Tryz.ntmps100
  go_wp2_with fail
  go_ret
  exact ⟨rfl, ((HK.out).set_ 0 _ rfl).alloc _, by exact onw⟩
theorem set_pick (P M : Nat) (A code : Int) {v0 v1 v2 v3 v4 v5 v8 v9 v10 v11 v12 v13 v14 v15 v16 v17 v18 v19 v20 v21 v22 v23 v24 : Value} (o1 : Value) (ak ar ar2 : Int) (rd bk : Bool) (pl po : Option Addr) (nl cl no co : Nat) (es : Array MapEntry) (clk : Nat) (w : World) (hP : Blk w P 159 #[v0, v1, v2, v3, v4, v5, .map (some M), o1, v8, v9, v10, v11, v12, v13, v14, v15, v16, v17, v18, v19, v20, v21, v22, v23, v24]) (hM : IsMap w M es clk) (hf : (Instr.findNow (.int .i64) (.int .i64 code) es.toList 0).map (fun r => r.map (·.2)) = some (some (.agg #[.int .i64 ak, .int .i64 0, .int .i64 0, .int .i64 0, .int .i64 0, .int .i64 0, .int .i64 0, .int .i64 ar, .slice pl nl cl, .slice none 0 0, .int .i64 ar2, .bool rd, .bool bk, .slice po no co]))) :
    Calls Tryz.prog 101 #[.pointer (some ⟨P, 0, none⟩), .agg #[.int .i64 A, .int .i64 6, .int .i64 code, .int .i64 0, .bool false, .string { data := #[] }, .string { data := #[] }, .string { data := #[] }, .string { data := #[] }, .string { data := #[] }, .slice none 0 0, .slice none 0 0]] w fun e w' => e = .returned (.int .i64 0) ∧ Blk w' P 159 #[v0, v1, v2, v3, v4, v5, .map (some M), .int .i64 code, v8, v9, v10, v11, v12, v13, v14, v15, v16, v17, v18, v19, v20, v21, v22, v23, v24] ∧ Only [P] w w' := by
  have c := hP.cell
  have f := hP.frozen
  have l := hP.lt
  have HK := Lib.hid hP
  have hl : ∀ w', w'.heap[M]? = some (.map es clk) → (Instr.lookup 151 (.map (some M)) (.int .i64 code) true).run Tryz.prog w' = .ok (.tuple #[.agg #[.int .i64 ak, .int .i64 0, .int .i64 0, .int .i64 0, .int .i64 0, .int .i64 0, .int .i64 0, .int .i64 ar, .slice pl nl cl, .slice none 0 0, .int .i64 ar2, .bool rd, .bool bk, .slice po no co], .bool true]) w' := fun w' hm => look_run w' hm code (.agg #[.int .i64 ak, .int .i64 0, .int .i64 0, .int .i64 0, .int .i64 0, .int .i64 0, .int .i64 0, .int .i64 ar, .slice pl nl cl, .slice none 0 0, .int .i64 ar2, .bool rd, .bool bk, .slice po no co], true) hf (fun h => by cases h)
  have lM := hM.lt
  clear hP hf
  go_enter Tryz.func101, Tryz.ntmps101
  go_wp2_with fail
  have hl1 := hl _ ((hM.alloc (.cells #[.int .i64 A, .int .i64 6, .int .i64 code, .int .i64 0, .bool false, .string { data := #[] }, .string { data := #[] }, .string { data := #[] }, .string { data := #[] }, .string { data := #[] }, .slice none 0 0, .slice none 0 0] 103)).drew)
  have hl2 := hl _ (((hM.alloc (.cells #[.int .i64 A, .int .i64 6, .int .i64 code, .int .i64 0, .bool false, .string { data := #[] }, .string { data := #[] }, .string { data := #[] }, .string { data := #[] }, .string { data := #[] }, .slice none 0 0, .slice none 0 0] 103)).alloc (.cells #[.int .i64 0, .int .i64 0, .int .i64 0, .int .i64 0, .int .i64 0, .int .i64 0, .int .i64 0, .int .i64 0, .slice none 0 0, .slice none 0 0, .int .i64 0, .bool false, .bool false, .slice none 0 0] 280)).drew)
  clear hl
  go_region
  all_goals
    go_wp2_with fail
    go_ret
    refine ⟨rfl, ?_, ?_⟩
    · exact ((((HK.out).set_ 7 _ rfl).alloc _).alloc _).drew
    · exact onw
def setAt (xs : List Value) : Nat → List Value → List Value
  | _, [] => xs
  | o, v :: r => setAt (xs.set o v) (o + 1) r
theorem setAt_end (xs : List Value) : ∀ (old new done : List Value), old.length = new.length → setAt (xs ++ done ++ old) (xs.length + done.length) new = xs ++ done ++ new
  | [], [], done, _ => by simp [setAt]
  | [], _ :: _, _, h => by simp at h
  | _ :: _, [], _, h => by simp at h
  | a :: old, b :: new, done, h => by
    simp only [List.length_cons, Nat.add_right_cancel_iff] at h
    rw [setAt]
    have e : (xs ++ done ++ a :: old).set (xs.length + done.length) b = xs ++ (done ++ [b]) ++ old := by
      rw [← List.length_append, List.set_append_right _ _ (Nat.le_refl _)]
      simp
    rw [e, show xs.length + done.length + 1 = xs.length + (done ++ [b]).length by simp; omega, setAt_end xs old new (done ++ [b]) h]
    simp
section
variable {base e size n g cap : Nat}
theorem own_setCells : ∀ (vs : List Value) (o : Nat) (w : World) (xs : List Value), w.ownsRow base e size (.slice (some ⟨g, 0, none⟩) n cap) n xs →
    (w.setCells g o vs).ownsRow base e size (.slice (some ⟨g, 0, none⟩) n cap) n (setAt xs o vs) ∧ w.grownBy (w.setCells g o vs) (some g)
  | [], _, w, _, h => ⟨h, World.grownBy.refl _ _⟩
  | v :: r, o, w, xs, h => by
    obtain ⟨h1, h2⟩ := h.stored o v
    obtain ⟨h3, h4⟩ := own_setCells r (o + 1) _ _ h1
    exact ⟨h3, h2.trans h4⟩
end
def splice (old : Array Value) : Nat → List Value → Array Value
  | _, [] => old
  | o, v :: r => splice (old.setIfInBounds o v) (o + 1) r
theorem blk_setCells {g : Nat} {t : TypeId} : ∀ (vs : List Value) (o : Nat) (w : World) (old : Array Value), Blk w g t old → Blk (w.setCells g o vs) g t (splice old o vs) ∧ w.grownBy (w.setCells g o vs) (some g)
  | [], _, w, _, h => ⟨h, World.grownBy.refl _ _⟩
  | v :: r, o, w, old, h => by
    obtain ⟨h3, h4⟩ := blk_setCells r (o + 1) (w.setCell ⟨g, o, none⟩ v) _ (h.set_ o v rfl)
    have h5 : w.grownBy (w.setCell ⟨g, o, none⟩ v) (some g) := ⟨rfl, rfl, rfl, by simp, fun k _ hk => Below.heap_setCell w ⟨g, o, none⟩ v k (fun e => hk (by simp [e]))⟩
    exact ⟨h3, h5.trans h4⟩
theorem wpList_storeMid {ops : Array Oper} {rest : List Oper} {o : Oper} {a : Act} {w : World} {Q : Exit → Act → World → Prop} (hgd : o.guard = none) (ty : TypeId) (x y : Operand) (ho : o.op = .store ty x y)
    (hd : o.dst = none) (g off : Nat) (cells : Array Value) (hx : a.eval x = .pointer (some ⟨g, off, none⟩)) (hy : a.eval y = .agg cells)
    (t : TypeId) (old new : Array Value) (hg : Blk w g t old) (hnew : splice old off cells.toList = new) (hi : (Tryz.prog.info? ty).map (·.size) = some cells.size)
    (hsz : off + cells.size ≤ old.size) (h1 : cells.all (·.oneCell') = true)
    (h : ∀ w1, Blk w1 g t new → w.grownBy w1 (some g) → wpList Tryz.prog ops Q rest a w1) : wpList Tryz.prog ops Q (o :: rest) a w := by
  refine wpList_store_mid hgd ty x y ho g off cells hx hy (fun j hj => ⟨?_, hg.frozen _⟩) hi h1 ?_
  · rw [hg.cell, Array.getElem?_eq_getElem (by omega)]; rfl
  · rw [hd]
    obtain ⟨h3, h4⟩ := blk_setCells cells.toList off w old hg
    rw [hnew] at h3
    exact h _ h3 h4
theorem info40 : (Tryz.prog.info? 103).map (fun i => (i.zero, i.size, i.bytes)) = some (some (.agg #[.int .i64 0, .int .i64 0, .int .i64 0, .int .i64 0, .bool false, .string { data := #[] }, .string { data := #[] }, .string { data := #[] }, .string { data := #[] }, .string { data := #[] }, .slice none 0 0, .slice none 0 0]), 12, 168) := by kernel_rfl
theorem plain_op2 (d1 d2 : List UInt8) (w : World) (hd1 : Digits d1) (hd2 : Digits d2) (a1 : 0 < d1.length) (b1 : d1.length ≤ 12) (a2 : 0 < d2.length) (b2 : d2.length ≤ 12) :
    Calls Tryz.prog 62 #[.string (bs (88 :: (d1 ++ 89 :: (d2 ++ [68, 48, 50]))))] w fun e w' => ∃ v, e = .returned (.tuple #[v, .int .i64 0]) ∧ Cmds w' w.heap.size v [[.int .i64 0, .int .i64 7, .int .i64 2, .int .i64 0, .bool false, .string { data := #[] }, .string (bs d1), .string (bs d2), .string { data := #[] }, .string { data := #[] }, .slice none 0 0, .slice none 0 0]] ∧ Below w.heap.size w w' := by
  have hlen : (88 :: (d1 ++ 89 :: (d2 ++ [68, 48, 50]))).length ≤ 1000000 := by simp; omega
  have n0 : ((bs (88 :: (d1 ++ 89 :: (d2 ++ [68, 48, 50])))).toList == [71, 51, 54]) = false := by rw [bs_toList, beq_eq_false_iff_ne]; intro e; injection e with e1 e2; exact absurd e1 (by decide)
  have n1 : ((bs (88 :: (d1 ++ 89 :: (d2 ++ [68, 48, 50])))).toList == [71, 51, 55]) = false := by rw [bs_toList, beq_eq_false_iff_ne]; intro e; injection e with e1 e2; exact absurd e1 (by decide)
  have n2 : ((bs (88 :: (d1 ++ 89 :: (d2 ++ [68, 48, 50])))).toList == [71, 55, 52]) = false := by rw [bs_toList, beq_eq_false_iff_ne]; intro e; injection e with e1 e2; exact absurd e1 (by decide)
  have n3 : ((bs (88 :: (d1 ++ 89 :: (d2 ++ [68, 48, 50])))).toList == [71, 55, 53]) = false := by rw [bs_toList, beq_eq_false_iff_ne]; intro e; injection e with e1 e2; exact absurd e1 (by decide)
  have n4 : ((bs (88 :: (d1 ++ 89 :: (d2 ++ [68, 48, 50])))).toList == [77, 48, 50]) = false := by rw [bs_toList, beq_eq_false_iff_ne]; intro e; injection e with e1 e2; exact absurd e1 (by decide)
  have h1 : ∀ w, Calls Tryz.prog 93 #[.string (bs (88 :: (d1 ++ 89 :: (d2 ++ [68, 48, 50])))), .string { data := #[71, 48, 52] }] w fun e w' => e = .returned (.tuple #[.string (bs (88 :: (d1 ++ 89 :: (d2 ++ [68, 48, 50])))), .bool false]) ∧ w = w' := fun w => cutP_no _ [71, 48, 52] w hlen (by decide) (by intro e; injection e with e1 e2; exact absurd e1 (by decide))
  have h2 : ∀ w, Calls Tryz.prog 93 #[.string (bs (88 :: (d1 ++ 89 :: (d2 ++ [68, 48, 50])))), .string { data := #[71, 48, 49] }] w fun e w' => e = .returned (.tuple #[.string (bs (88 :: (d1 ++ 89 :: (d2 ++ [68, 48, 50])))), .bool false]) ∧ w = w' := fun w => cutP_no _ [71, 48, 49] w hlen (by decide) (by intro e; injection e with e1 e2; exact absurd e1 (by decide))
  have h3 : ∀ w, Calls Tryz.prog 93 #[.string (bs (88 :: (d1 ++ 89 :: (d2 ++ [68, 48, 50])))), .string { data := #[71, 48, 50] }] w fun e w' => e = .returned (.tuple #[.string (bs (88 :: (d1 ++ 89 :: (d2 ++ [68, 48, 50])))), .bool false]) ∧ w = w' := fun w => cutP_no _ [71, 48, 50] w hlen (by decide) (by intro e; injection e with e1 e2; exact absurd e1 (by decide))
  have h4 : ∀ w, Calls Tryz.prog 93 #[.string (bs (88 :: (d1 ++ 89 :: (d2 ++ [68, 48, 50])))), .string { data := #[71, 48, 51] }] w fun e w' => e = .returned (.tuple #[.string (bs (88 :: (d1 ++ 89 :: (d2 ++ [68, 48, 50])))), .bool false]) ∧ w = w' := fun w => cutP_no _ [71, 48, 51] w hlen (by decide) (by intro e; injection e with e1 e2; exact absurd e1 (by decide))
  have h5 : ∀ w, Calls Tryz.prog 93 #[.string (bs (88 :: (d1 ++ 89 :: (d2 ++ [68, 48, 50])))), .string { data := #[68] }] w fun e w' => e = .returned (.tuple #[.string (bs (88 :: (d1 ++ 89 :: (d2 ++ [68, 48, 50])))), .bool false]) ∧ w = w' := fun w => cutP_no _ [68] w hlen (by decide) (by intro e; injection e with e1 e2; exact absurd e1 (by decide))
  have h6 := fun w => operation_2 d1 d2 w hd1 hd2 a1 b1 a2 b2
  obtain ⟨T, eT⟩ : ∃ x, bs (88 :: (d1 ++ 89 :: (d2 ++ [68, 48, 50]))) = x := ⟨_, rfl⟩
  obtain ⟨X, eX⟩ : ∃ x, bs d1 = x := ⟨_, rfl⟩
  obtain ⟨Y, eY⟩ : ∃ x, bs d2 = x := ⟨_, rfl⟩
  rw [eT] at n0 n1 n2 n3 n4 h1 h2 h3 h4 h5
  rw [eT, eX, eY] at h6
  rw [eT, eX, eY]
  have H1 := Lib.hid h1
  have H2 := Lib.hid h2
  have H3 := Lib.hid h3
  have H4 := Lib.hid h4
  have H5 := Lib.hid h5
  have H6 := Lib.hid h6
  obtain ⟨i40, hi40, hz0, hz1, hz2⟩ := info_parts info40
  have HI := Lib.hid (And.intro hi40 (And.intro hz0 (And.intro hz1 hz2)))
  have hZ : Hid ((Value.agg #[.int .i64 0, .int .i64 0, .int .i64 0, .int .i64 0, .bool false, .string { data := #[] }, .string { data := #[] }, .string { data := #[] }, .string { data := #[] }, .string { data := #[] }, .slice none 0 0, .slice none 0 0]).cells.size = 12) := Lib.hid (by kernel_rfl)
  clear h1 h2 h3 h4 h5 h6 hi40 hz0 hz1 hz2 eT eX eY hlen hd1 hd2 a1 b1 a2 b2
  go_enter Tryz.func62, Tryz.ntmps62
  go_wp2_with (go_at_call 93; ((with_reducible refine (H1.out _).mono ?_); rintro e w' ⟨rfl, rfl⟩))
  refine wp_loop_rounds 4 ?_
  rw [rounds_succ]
  go_wp2_with (go_at_call 93; ((with_reducible refine (H2.out _).mono ?_); rintro e w' ⟨rfl, rfl⟩))
  rw [rounds_succ]
  go_wp2_with (go_at_call 93; ((with_reducible refine (H3.out _).mono ?_); rintro e w' ⟨rfl, rfl⟩))
  rw [rounds_succ]
  go_wp2_with (go_at_call 93; ((with_reducible refine (H4.out _).mono ?_); rintro e w' ⟨rfl, rfl⟩))
  rw [rounds_succ]
  go_wp2_with (go_at_call 93; ((with_reducible refine (H5.out _).mono ?_); rintro e w' ⟨rfl, rfl⟩))
  refine (H6.out _).mono ?_
  rintro e w1 ⟨rfl, hb⟩
  have hB1 : Below w.heap.size w w1 := Below.trans (by exact blw) (hb.mono (by first | omega | (simp; done) | (simp; omega)))
  have l1 := hB1.size
  clear hb
  have hs : ∀ o, w.heap.size ≤ ((w1.alloc (.cells #[.int .i64 0, .int .i64 7, .int .i64 2, .int .i64 0, .bool false, .string { data := #[] }, .string X, .string Y, .string { data := #[] }, .string { data := #[] }, .slice none 0 0, .slice none 0 0] 103)).alloc o).heap.size := fun o => Nat.le_trans l1 (by simp; try omega)
  have hN : ∀ j u, ([.int .i64 0, .int .i64 7, .int .i64 2, .int .i64 0, .bool false, .string { data := #[] }, .string X, .string Y, .string { data := #[] }, .string { data := #[] }, .slice none 0 0, .slice none 0 0] : List Value)[j]? = some u → ((w1.alloc (.cells #[.int .i64 0, .int .i64 7, .int .i64 2, .int .i64 0, .bool false, .string { data := #[] }, .string X, .string Y, .string { data := #[] }, .string { data := #[] }, .slice none 0 0, .slice none 0 0] 103)).alloc (.cells #[.int .i64 0, .int .i64 7, .int .i64 2, .int .i64 0, .bool false, .string { data := #[] }, .string X, .string Y, .string { data := #[] }, .string { data := #[] }, .slice none 0 0, .slice none 0 0] 103)).cell? ((⟨(w1.alloc (.cells #[.int .i64 0, .int .i64 7, .int .i64 2, .int .i64 0, .bool false, .string { data := #[] }, .string X, .string Y, .string { data := #[] }, .string { data := #[] }, .slice none 0 0, .slice none 0 0] 103)).heap.size, 0, none⟩ : Addr).add j) = some u :=
    World.news_of_block (cs := #[.int .i64 0, .int .i64 7, .int .i64 2, .int .i64 0, .bool false, .string { data := #[] }, .string X, .string Y, .string { data := #[] }, .string { data := #[] }, .slice none 0 0, .slice none 0 0]) (Blk.newAt (w := (w1.alloc (.cells #[.int .i64 0, .int .i64 7, .int .i64 2, .int .i64 0, .bool false, .string { data := #[] }, .string X, .string Y, .string { data := #[] }, .string { data := #[] }, .slice none 0 0, .slice none 0 0] 103))) rfl)
  have hO : ∀ u ∈ ([.int .i64 0, .int .i64 7, .int .i64 2, .int .i64 0, .bool false, .string { data := #[] }, .string X, .string Y, .string { data := #[] }, .string { data := #[] }, .slice none 0 0, .slice none 0 0] : List Value), u.oneCell' = true := by
    intro u hu
    simp only [List.mem_cons, List.not_mem_nil, or_false] at hu
    rcases hu with rfl | rfl | rfl | rfl | rfl | rfl | rfl | rfl | rfl | rfl | rfl | rfl <;> rfl
  have HS := Lib.hid hs
  have HN := Lib.hid hN
  have HO := Lib.hid hO
  have hBW : Below w.heap.size w ((w1.alloc (.cells #[.int .i64 0, .int .i64 7, .int .i64 2, .int .i64 0, .bool false, .string { data := #[] }, .string X, .string Y, .string { data := #[] }, .string { data := #[] }, .slice none 0 0, .slice none 0 0] 103)).alloc (.cells #[.int .i64 0, .int .i64 7, .int .i64 2, .int .i64 0, .bool false, .string { data := #[] }, .string X, .string Y, .string { data := #[] }, .string { data := #[] }, .slice none 0 0, .slice none 0 0] 103)) := by exact blw
  have HBW := Lib.hid hBW
  clear hs hN hO hBW
  go_wp2_with (at_builtin; refine wpList_append_lies _ rfl (.tmp 106) (.tmp 108) 97 rfl w.heap.size 103 i40 _ 12 168 Tryz.underlying97 HI.out.1 HI.out.2.1 HI.out.2.2.1 HI.out.2.2.2 hZ.out (by decide) (.slice none 0 0) 0 [] (by simp [Act.eval]) (World.ownsRow_nil _ _ _ _) ⟨(w1.alloc (.cells #[.int .i64 0, .int .i64 7, .int .i64 2, .int .i64 0, .bool false, .string { data := #[] }, .string X, .string Y, .string { data := #[] }, .string { data := #[] }, .slice none 0 0, .slice none 0 0] 103)).heap.size, 0, none⟩ 1 1 [.int .i64 0, .int .i64 7, .int .i64 2, .int .i64 0, .bool false, .string { data := #[] }, .string X, .string Y, .string { data := #[] }, .string { data := #[] }, .slice none 0 0, .slice none 0 0] (by simp [Act.eval]) rfl HN.out HO.out (by decide) (by decide) (by decide) (HS.out _) _ rfl ?_)
  intro g cap w3 hown hgrow hat hlt
  have hB3 : Below w.heap.size w w3 := Below.grown HBW.out hgrow (HS.out _) (by simp [Value.ownBlock])
  have HQ := Lib.hid hown
  clear hown hgrow hat
  go_wp2_with fail
  go_ret2
  refine ⟨_, rfl, ⟨by simp, ?_⟩, hB3⟩
  exact HQ.out
theorem plain_op3 (d1 d2 : List UInt8) (w : World) (hd1 : Digits d1) (hd2 : Digits d2) (a1 : 0 < d1.length) (b1 : d1.length ≤ 12) (a2 : 0 < d2.length) (b2 : d2.length ≤ 12) :
    Calls Tryz.prog 62 #[.string (bs (88 :: (d1 ++ 89 :: (d2 ++ [68, 48, 51]))))] w fun e w' => ∃ v, e = .returned (.tuple #[v, .int .i64 0]) ∧ Cmds w' w.heap.size v [[.int .i64 0, .int .i64 7, .int .i64 3, .int .i64 0, .bool false, .string { data := #[] }, .string (bs d1), .string (bs d2), .string { data := #[] }, .string { data := #[] }, .slice none 0 0, .slice none 0 0]] ∧ Below w.heap.size w w' := by
  have hlen : (88 :: (d1 ++ 89 :: (d2 ++ [68, 48, 51]))).length ≤ 1000000 := by simp; omega
  have n0 : ((bs (88 :: (d1 ++ 89 :: (d2 ++ [68, 48, 51])))).toList == [71, 51, 54]) = false := by rw [bs_toList, beq_eq_false_iff_ne]; intro e; injection e with e1 e2; exact absurd e1 (by decide)
  have n1 : ((bs (88 :: (d1 ++ 89 :: (d2 ++ [68, 48, 51])))).toList == [71, 51, 55]) = false := by rw [bs_toList, beq_eq_false_iff_ne]; intro e; injection e with e1 e2; exact absurd e1 (by decide)
  have n2 : ((bs (88 :: (d1 ++ 89 :: (d2 ++ [68, 48, 51])))).toList == [71, 55, 52]) = false := by rw [bs_toList, beq_eq_false_iff_ne]; intro e; injection e with e1 e2; exact absurd e1 (by decide)
  have n3 : ((bs (88 :: (d1 ++ 89 :: (d2 ++ [68, 48, 51])))).toList == [71, 55, 53]) = false := by rw [bs_toList, beq_eq_false_iff_ne]; intro e; injection e with e1 e2; exact absurd e1 (by decide)
  have n4 : ((bs (88 :: (d1 ++ 89 :: (d2 ++ [68, 48, 51])))).toList == [77, 48, 50]) = false := by rw [bs_toList, beq_eq_false_iff_ne]; intro e; injection e with e1 e2; exact absurd e1 (by decide)
  have h1 : ∀ w, Calls Tryz.prog 93 #[.string (bs (88 :: (d1 ++ 89 :: (d2 ++ [68, 48, 51])))), .string { data := #[71, 48, 52] }] w fun e w' => e = .returned (.tuple #[.string (bs (88 :: (d1 ++ 89 :: (d2 ++ [68, 48, 51])))), .bool false]) ∧ w = w' := fun w => cutP_no _ [71, 48, 52] w hlen (by decide) (by intro e; injection e with e1 e2; exact absurd e1 (by decide))
  have h2 : ∀ w, Calls Tryz.prog 93 #[.string (bs (88 :: (d1 ++ 89 :: (d2 ++ [68, 48, 51])))), .string { data := #[71, 48, 49] }] w fun e w' => e = .returned (.tuple #[.string (bs (88 :: (d1 ++ 89 :: (d2 ++ [68, 48, 51])))), .bool false]) ∧ w = w' := fun w => cutP_no _ [71, 48, 49] w hlen (by decide) (by intro e; injection e with e1 e2; exact absurd e1 (by decide))
  have h3 : ∀ w, Calls Tryz.prog 93 #[.string (bs (88 :: (d1 ++ 89 :: (d2 ++ [68, 48, 51])))), .string { data := #[71, 48, 50] }] w fun e w' => e = .returned (.tuple #[.string (bs (88 :: (d1 ++ 89 :: (d2 ++ [68, 48, 51])))), .bool false]) ∧ w = w' := fun w => cutP_no _ [71, 48, 50] w hlen (by decide) (by intro e; injection e with e1 e2; exact absurd e1 (by decide))
  have h4 : ∀ w, Calls Tryz.prog 93 #[.string (bs (88 :: (d1 ++ 89 :: (d2 ++ [68, 48, 51])))), .string { data := #[71, 48, 51] }] w fun e w' => e = .returned (.tuple #[.string (bs (88 :: (d1 ++ 89 :: (d2 ++ [68, 48, 51])))), .bool false]) ∧ w = w' := fun w => cutP_no _ [71, 48, 51] w hlen (by decide) (by intro e; injection e with e1 e2; exact absurd e1 (by decide))
  have h5 : ∀ w, Calls Tryz.prog 93 #[.string (bs (88 :: (d1 ++ 89 :: (d2 ++ [68, 48, 51])))), .string { data := #[68] }] w fun e w' => e = .returned (.tuple #[.string (bs (88 :: (d1 ++ 89 :: (d2 ++ [68, 48, 51])))), .bool false]) ∧ w = w' := fun w => cutP_no _ [68] w hlen (by decide) (by intro e; injection e with e1 e2; exact absurd e1 (by decide))
  have h6 := fun w => operation_3 d1 d2 w hd1 hd2 a1 b1 a2 b2
  obtain ⟨T, eT⟩ : ∃ x, bs (88 :: (d1 ++ 89 :: (d2 ++ [68, 48, 51]))) = x := ⟨_, rfl⟩
  obtain ⟨X, eX⟩ : ∃ x, bs d1 = x := ⟨_, rfl⟩
  obtain ⟨Y, eY⟩ : ∃ x, bs d2 = x := ⟨_, rfl⟩
  rw [eT] at n0 n1 n2 n3 n4 h1 h2 h3 h4 h5
  rw [eT, eX, eY] at h6
  rw [eT, eX, eY]
  have H1 := Lib.hid h1
  have H2 := Lib.hid h2
  have H3 := Lib.hid h3
  have H4 := Lib.hid h4
  have H5 := Lib.hid h5
  have H6 := Lib.hid h6
  obtain ⟨i40, hi40, hz0, hz1, hz2⟩ := info_parts info40
  have HI := Lib.hid (And.intro hi40 (And.intro hz0 (And.intro hz1 hz2)))
  have hZ : Hid ((Value.agg #[.int .i64 0, .int .i64 0, .int .i64 0, .int .i64 0, .bool false, .string { data := #[] }, .string { data := #[] }, .string { data := #[] }, .string { data := #[] }, .string { data := #[] }, .slice none 0 0, .slice none 0 0]).cells.size = 12) := Lib.hid (by kernel_rfl)
  clear h1 h2 h3 h4 h5 h6 hi40 hz0 hz1 hz2 eT eX eY hlen hd1 hd2 a1 b1 a2 b2
  go_enter Tryz.func62, Tryz.ntmps62
  go_wp2_with (go_at_call 93; ((with_reducible refine (H1.out _).mono ?_); rintro e w' ⟨rfl, rfl⟩))
  refine wp_loop_rounds 4 ?_
  rw [rounds_succ]
  go_wp2_with (go_at_call 93; ((with_reducible refine (H2.out _).mono ?_); rintro e w' ⟨rfl, rfl⟩))
  rw [rounds_succ]
  go_wp2_with (go_at_call 93; ((with_reducible refine (H3.out _).mono ?_); rintro e w' ⟨rfl, rfl⟩))
  rw [rounds_succ]
  go_wp2_with (go_at_call 93; ((with_reducible refine (H4.out _).mono ?_); rintro e w' ⟨rfl, rfl⟩))
  rw [rounds_succ]
  go_wp2_with (go_at_call 93; ((with_reducible refine (H5.out _).mono ?_); rintro e w' ⟨rfl, rfl⟩))
  refine (H6.out _).mono ?_
  rintro e w1 ⟨rfl, hb⟩
  have hB1 : Below w.heap.size w w1 := Below.trans (by exact blw) (hb.mono (by first | omega | (simp; done) | (simp; omega)))
  have l1 := hB1.size
  clear hb
  have hs : ∀ o, w.heap.size ≤ ((w1.alloc (.cells #[.int .i64 0, .int .i64 7, .int .i64 3, .int .i64 0, .bool false, .string { data := #[] }, .string X, .string Y, .string { data := #[] }, .string { data := #[] }, .slice none 0 0, .slice none 0 0] 103)).alloc o).heap.size := fun o => Nat.le_trans l1 (by simp; try omega)
  have hN : ∀ j u, ([.int .i64 0, .int .i64 7, .int .i64 3, .int .i64 0, .bool false, .string { data := #[] }, .string X, .string Y, .string { data := #[] }, .string { data := #[] }, .slice none 0 0, .slice none 0 0] : List Value)[j]? = some u → ((w1.alloc (.cells #[.int .i64 0, .int .i64 7, .int .i64 3, .int .i64 0, .bool false, .string { data := #[] }, .string X, .string Y, .string { data := #[] }, .string { data := #[] }, .slice none 0 0, .slice none 0 0] 103)).alloc (.cells #[.int .i64 0, .int .i64 7, .int .i64 3, .int .i64 0, .bool false, .string { data := #[] }, .string X, .string Y, .string { data := #[] }, .string { data := #[] }, .slice none 0 0, .slice none 0 0] 103)).cell? ((⟨(w1.alloc (.cells #[.int .i64 0, .int .i64 7, .int .i64 3, .int .i64 0, .bool false, .string { data := #[] }, .string X, .string Y, .string { data := #[] }, .string { data := #[] }, .slice none 0 0, .slice none 0 0] 103)).heap.size, 0, none⟩ : Addr).add j) = some u :=
    World.news_of_block (cs := #[.int .i64 0, .int .i64 7, .int .i64 3, .int .i64 0, .bool false, .string { data := #[] }, .string X, .string Y, .string { data := #[] }, .string { data := #[] }, .slice none 0 0, .slice none 0 0]) (Blk.newAt (w := (w1.alloc (.cells #[.int .i64 0, .int .i64 7, .int .i64 3, .int .i64 0, .bool false, .string { data := #[] }, .string X, .string Y, .string { data := #[] }, .string { data := #[] }, .slice none 0 0, .slice none 0 0] 103))) rfl)
  have hO : ∀ u ∈ ([.int .i64 0, .int .i64 7, .int .i64 3, .int .i64 0, .bool false, .string { data := #[] }, .string X, .string Y, .string { data := #[] }, .string { data := #[] }, .slice none 0 0, .slice none 0 0] : List Value), u.oneCell' = true := by
    intro u hu
    simp only [List.mem_cons, List.not_mem_nil, or_false] at hu
    rcases hu with rfl | rfl | rfl | rfl | rfl | rfl | rfl | rfl | rfl | rfl | rfl | rfl <;> rfl
  have HS := Lib.hid hs
  have HN := Lib.hid hN
  have HO := Lib.hid hO
  have hBW : Below w.heap.size w ((w1.alloc (.cells #[.int .i64 0, .int .i64 7, .int .i64 3, .int .i64 0, .bool false, .string { data := #[] }, .string X, .string Y, .string { data := #[] }, .string { data := #[] }, .slice none 0 0, .slice none 0 0] 103)).alloc (.cells #[.int .i64 0, .int .i64 7, .int .i64 3, .int .i64 0, .bool false, .string { data := #[] }, .string X, .string Y, .string { data := #[] }, .string { data := #[] }, .slice none 0 0, .slice none 0 0] 103)) := by exact blw
  have HBW := Lib.hid hBW
  clear hs hN hO hBW
  go_wp2_with (at_builtin; refine wpList_append_lies _ rfl (.tmp 106) (.tmp 108) 97 rfl w.heap.size 103 i40 _ 12 168 Tryz.underlying97 HI.out.1 HI.out.2.1 HI.out.2.2.1 HI.out.2.2.2 hZ.out (by decide) (.slice none 0 0) 0 [] (by simp [Act.eval]) (World.ownsRow_nil _ _ _ _) ⟨(w1.alloc (.cells #[.int .i64 0, .int .i64 7, .int .i64 3, .int .i64 0, .bool false, .string { data := #[] }, .string X, .string Y, .string { data := #[] }, .string { data := #[] }, .slice none 0 0, .slice none 0 0] 103)).heap.size, 0, none⟩ 1 1 [.int .i64 0, .int .i64 7, .int .i64 3, .int .i64 0, .bool false, .string { data := #[] }, .string X, .string Y, .string { data := #[] }, .string { data := #[] }, .slice none 0 0, .slice none 0 0] (by simp [Act.eval]) rfl HN.out HO.out (by decide) (by decide) (by decide) (HS.out _) _ rfl ?_)
  intro g cap w3 hown hgrow hat hlt
  have hB3 : Below w.heap.size w w3 := Below.grown HBW.out hgrow (HS.out _) (by simp [Value.ownBlock])
  have HQ := Lib.hid hown
  clear hown hgrow hat
  go_wp2_with fail
  go_ret2
  refine ⟨_, rfl, ⟨by simp, ?_⟩, hB3⟩
  exact HQ.out
end Go.Proofs.YtfajckkbinbpiaaGreatDoor
