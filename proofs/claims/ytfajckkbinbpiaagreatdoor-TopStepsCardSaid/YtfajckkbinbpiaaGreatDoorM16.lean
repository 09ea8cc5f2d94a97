/- Walks: package plot: a code that is not taken. A struct stored into the last element of a row of one's own. A struct stored into a part of a block that is known: the walk goes on in a world of which the block is known, and that all else is as it was. Walks: package aper: a circle. -/
import Derived.Test.YtfajckkbinbpiaaGreatDoorM12
import Derived.Test.YtfajckkbinbpiaaGreatDoorM03
import Derived.Outline
import Derived.RegionTactic
import Derived.Deep.RegionHeld3
import Derived.BigRegion
import Derived.Deep.MidRow
import Derived.Maps.AppendAt
import Derived.Test.YtfajckkbinbpiaaGreatDoorM01
namespace Go.Proofs.YtfajckkbinbpiaaGreatDoor
open Go.RowKit
set_option linter.unusedVariables false
set_option linter.unusedSimpArgs false

theorem zero167 (w : World) : (zeroValue 280).run Tryz.prog w = .ok (.agg #[.int .i64 0, .int .i64 0, .int .i64 0, .int .i64 0, .int .i64 0, .int .i64 0, .int .i64 0, .int .i64 0, .slice none 0 0, .slice none 0 0, .int .i64 0, .bool false, .bool false, .slice none 0 0]) w := by kernel_rfl
set_option maxRecDepth 100000 in
set_option maxHeartbeats 4000000 in
theorem taken_no (P M gL capL : Nat) (code : Int) {v0 v1 v2 v3 v4 v5 v7 v8 v9 v10 v11 v12 v13 v14 v15 v16 v17 v18 v19 v20 v22 v23 v24 : Value} (es : Array MapEntry) (clk : Nat) (w : World) (hP : Blk w P 159 #[v0, v1, v2, v3, v4, v5, .map (some M), v7, v8, v9, v10, v11, v12, v13, v14, v15, v16, v17, v18, v19, v20, .slice (some ⟨gL, 0, none⟩) 1 capL, v22, v23, v24]) (hM : IsMap w M es clk) (hf : Instr.findNow (.int .i64) (.int .i64 code) es.toList 0 = some none) (hcap : 1 ≤ capL) :
    Calls Tryz.prog 157 #[.pointer (some ⟨P, 0, none⟩), .int .i64 code] w fun e w' => e = .returned (.bool false) ∧ Below w.heap.size w w' := by
  have c := hP.cell
  have f := hP.frozen
  have l := hP.lt
  have HF := Lib.hid hf
  have HM := Lib.hid hM
  clear hP hf hM
  go_enter Tryz.func157, Tryz.ntmps157
  go_wp2_with (at_lookup; refine wpList_look _ rfl (.tmp 13) (.tmp 14) rfl (by simp [Act.eval]) HM.out code (by simp [Act.eval]) (.agg #[.int .i64 0, .int .i64 0, .int .i64 0, .int .i64 0, .int .i64 0, .int .i64 0, .int .i64 0, .int .i64 0, .slice none 0 0, .slice none 0 0, .int .i64 0, .bool false, .bool false, .slice none 0 0], false) (by rw [HF.out]; rfl) (fun _ w => zero167 w) ?_)
  all_goals
    refine wp_loop_rounds 1 ?_
    rw [rounds_succ]
    go_wp2_with fail
    go_ret
    exact ⟨rfl, by (repeat' (first | (with_reducible exact Below.refl _ _) | (with_reducible assumption) | (with_reducible refine below_drewN ?_ _) | (with_reducible refine Below.drew ?_) | (with_reducible refine Below.alloc ?_ ?_ _) | (with_reducible refine Below.setCell ?_ ?_ _) | omega | (simp; done) | (simp; omega)))⟩
set_option maxRecDepth 100000 in
set_option maxHeartbeats 4000000 in
theorem define_fs (P : Nat) (A : Int) {v0 v6 v7 v8 v9 v10 v11 v12 v13 v14 v15 v16 v17 v18 v19 v20 v21 v22 v23 v24 : Value} (o1 o2 o3 o4 : Value) (w : World) (hP : Blk w P 159 #[v0, o1, o2, o3, o4, .bool false, v6, v7, v8, v9, v10, v11, v12, v13, v14, v15, v16, v17, v18, v19, v20, v21, v22, v23, v24]) :
    Calls Tryz.prog 100 #[.pointer (some ⟨P, 0, none⟩), .agg #[.int .i64 A, .int .i64 8, .int .i64 2, .int .i64 4, .bool false, .string { data := #[] }, .string { data := #[] }, .string { data := #[] }, .string { data := #[] }, .string { data := #[] }, .slice none 0 0, .slice none 0 0]] w fun e w' => e = .returned (.int .i64 0) ∧ Blk w' P 159 #[v0, .int .i64 1, .int .i64 2, .int .i64 4, .bool false, .bool true, v6, v7, v8, v9, v10, v11, v12, v13, v14, v15, v16, v17, v18, v19, v20, v21, v22, v23, v24] ∧ Only [P] w w' := by
  have c := hP.cell
  have f := hP.frozen
  have l := hP.lt
  have k := hP
  have HK := Lib.hid k
  clear hP k
  go_enter Tryz.func100, Tryz.ntmps100
  go_wp2_with fail
  refine (unitok_c _).mono ?_
  rintro e w1 ⟨rfl, hb⟩
  have k1 : Blk w1 P 159 #[v0, o1, o2, o3, o4, .bool false, v6, v7, v8, v9, v10, v11, v12, v13, v14, v15, v16, v17, v18, v19, v20, v21, v22, v23, v24] := (((HK.out).alloc _).alloc _).below hb (by simp; omega)
  have k2 : Blk w1 (w.heap.size + 1) 154 #[.int .i64 1, .int .i64 2, .int .i64 4, .bool false] := Blk.below (Blk.newAt (by simp)) hb (by simp)
  have hB1 : Only [P] w w1 := (((Only.refl _ _).alloc _).alloc _).below hb (by simp; omega)
  have l1 := hb.size
  have c1 := k1.cell
  have f1 := k1.frozen
  have c2 := k2.cell
  have l2 := k2.lt
  have K1 := Lib.hid k1
  clear hb c f k1 k2
  go_wp2_with fail
  go_ret
  exact ⟨rfl, ((((K1.out.set_ 1 _ rfl).set_ 2 _ rfl).set_ 3 _ rfl).set_ 4 _ rfl).set_ 5 _ rfl, by (repeat' (first | (with_reducible exact Only.refl _ _) | (with_reducible assumption) | (with_reducible refine Only.drewN ?_ _) | (with_reducible refine Only.drew ?_) | (with_reducible refine Only.alloc ?_ _) | (with_reducible refine Only.setCell ?_ ?_ _) | (left; simp; done) | (right; omega) | (right; simp; done) | (right; simp; omega)))⟩
set_option maxRecDepth 100000 in
set_option maxHeartbeats 4000000 in
theorem define_mo (P : Nat) (A : Int) {v1 v2 v3 v4 v5 v6 v7 v8 v9 v10 v11 v12 v13 v14 v15 v16 v17 v18 v19 v20 v21 v22 v23 v24 : Value} (w : World) (hP : Blk w P 159 #[.int .i64 0, v1, v2, v3, v4, v5, v6, v7, v8, v9, v10, v11, v12, v13, v14, v15, v16, v17, v18, v19, v20, v21, v22, v23, v24]) :
    Calls Tryz.prog 100 #[.pointer (some ⟨P, 0, none⟩), .agg #[.int .i64 A, .int .i64 9, .int .i64 1, .int .i64 0, .bool false, .string { data := #[] }, .string { data := #[] }, .string { data := #[] }, .string { data := #[] }, .string { data := #[] }, .slice none 0 0, .slice none 0 0]] w fun e w' => e = .returned (.int .i64 0) ∧ Blk w' P 159 #[.int .i64 1, v1, v2, v3, v4, v5, v6, v7, v8, v9, v10, v11, v12, v13, v14, v15, v16, v17, v18, v19, v20, v21, v22, v23, v24] ∧ Only [P] w w' := by
  have c := hP.cell
  have f := hP.frozen
  have l := hP.lt
  have HK := Lib.hid hP
  clear hP
  go_enter Tryz.func100, Tryz.ntmps100
  go_wp2_with fail
  go_ret
  exact ⟨rfl, ((HK.out).set_ 0 _ rfl).alloc _, by (repeat' (first | (with_reducible exact Only.refl _ _) | (with_reducible assumption) | (with_reducible refine Only.drewN ?_ _) | (with_reducible refine Only.drew ?_) | (with_reducible refine Only.alloc ?_ _) | (with_reducible refine Only.setCell ?_ ?_ _) | (left; simp; done) | (right; omega) | (right; simp; done) | (right; simp; omega)))⟩
set_option maxRecDepth 100000 in
set_option maxHeartbeats 4000000 in
theorem set_pol (P : Nat) (A : Int) {v0 v1 v2 v3 v4 v5 v6 v7 v8 v9 v10 v11 v12 v14 v15 v16 v17 v18 v19 v20 v21 v22 v23 v24 : Value} (o : Bool) (o1 : Value) (w : World) (hP : Blk w P 159 #[v0, v1, v2, v3, v4, v5, v6, v7, v8, v9, v10, v11, v12, o1, v14, v15, v16, v17, v18, v19, v20, v21, v22, v23, v24]) :
    Calls Tryz.prog 101 #[.pointer (some ⟨P, 0, none⟩), .agg #[.int .i64 A, .int .i64 15, .int .i64 0, .int .i64 0, .bool o, .string { data := #[] }, .string { data := #[] }, .string { data := #[] }, .string { data := #[] }, .string { data := #[] }, .slice none 0 0, .slice none 0 0]] w fun e w' => e = .returned (.int .i64 0) ∧ Blk w' P 159 #[v0, v1, v2, v3, v4, v5, v6, v7, v8, v9, v10, v11, v12, .bool o, v14, v15, v16, v17, v18, v19, v20, v21, v22, v23, v24] ∧ Only [P] w w' := by
  have c := hP.cell
  have f := hP.frozen
  have l := hP.lt
  have HK := Lib.hid hP
  clear hP
  go_enter Tryz.func101, Tryz.ntmps101
  go_wp2_with fail
  go_ret
  exact ⟨rfl, ((HK.out).set_ 13 _ rfl).alloc _, by (repeat' (first | (with_reducible exact Only.refl _ _) | (with_reducible assumption) | (with_reducible refine Only.drewN ?_ _) | (with_reducible refine Only.drew ?_) | (with_reducible refine Only.alloc ?_ _) | (with_reducible refine Only.setCell ?_ ?_ _) | (left; simp; done) | (right; omega) | (right; simp; done) | (right; simp; omega)))⟩
set_option maxRecDepth 100000 in
set_option maxHeartbeats 4000000 in
theorem set_pick (P M : Nat) (A code : Int) {v0 v1 v2 v3 v4 v5 v8 v9 v10 v11 v12 v13 v14 v15 v16 v17 v18 v19 v20 v21 v22 v23 v24 : Value} (o1 : Value) (ak ar ar2 : Int) (rd bk : Bool) (pl po : Option Addr) (nl cl no co : Nat) (es : Array MapEntry) (clk : Nat) (w : World) (hP : Blk w P 159 #[v0, v1, v2, v3, v4, v5, .map (some M), o1, v8, v9, v10, v11, v12, v13, v14, v15, v16, v17, v18, v19, v20, v21, v22, v23, v24]) (hM : IsMap w M es clk) (hf : (Instr.findNow (.int .i64) (.int .i64 code) es.toList 0).map (fun r => r.map (·.2)) = some (some (.agg #[.int .i64 ak, .int .i64 0, .int .i64 0, .int .i64 0, .int .i64 0, .int .i64 0, .int .i64 0, .int .i64 ar, .slice pl nl cl, .slice none 0 0, .int .i64 ar2, .bool rd, .bool bk, .slice po no co]))) :
    Calls Tryz.prog 101 #[.pointer (some ⟨P, 0, none⟩), .agg #[.int .i64 A, .int .i64 6, .int .i64 code, .int .i64 0, .bool false, .string { data := #[] }, .string { data := #[] }, .string { data := #[] }, .string { data := #[] }, .string { data := #[] }, .slice none 0 0, .slice none 0 0]] w fun e w' => e = .returned (.int .i64 0) ∧ Blk w' P 159 #[v0, v1, v2, v3, v4, v5, .map (some M), .int .i64 code, v8, v9, v10, v11, v12, v13, v14, v15, v16, v17, v18, v19, v20, v21, v22, v23, v24] ∧ Only [P] w w' := by
  have c := hP.cell
  have f := hP.frozen
  have l := hP.lt
  have HK := Lib.hid hP
  have hl : ∀ w', w'.heap[M]? = some (.map es clk) → (Instr.lookup 151 (.map (some M)) (.int .i64 code) true).run Tryz.prog w' = .ok (.tuple #[.agg #[.int .i64 ak, .int .i64 0, .int .i64 0, .int .i64 0, .int .i64 0, .int .i64 0, .int .i64 0, .int .i64 ar, .slice pl nl cl, .slice none 0 0, .int .i64 ar2, .bool rd, .bool bk, .slice po no co], .bool true]) w' := fun w' hm => look_run w' hm code (.agg #[.int .i64 ak, .int .i64 0, .int .i64 0, .int .i64 0, .int .i64 0, .int .i64 0, .int .i64 0, .int .i64 ar, .slice pl nl cl, .slice none 0 0, .int .i64 ar2, .bool rd, .bool bk, .slice po no co], true) hf (fun h => by cases h)
  have lM := hM.lt
  clear hP hf
  go_enter Tryz.func101, Tryz.ntmps101
  go_wp2_with fail
  have hl1 := hl _ ((hM.alloc (.cells #[.int .i64 A, .int .i64 6, .int .i64 code, .int .i64 0, .bool false, .string { data := #[] }, .string { data := #[] }, .string { data := #[] }, .string { data := #[] }, .string { data := #[] }, .slice none 0 0, .slice none 0 0] 103)).drew)
  have hl2 := hl _ (((hM.alloc (.cells #[.int .i64 A, .int .i64 6, .int .i64 code, .int .i64 0, .bool false, .string { data := #[] }, .string { data := #[] }, .string { data := #[] }, .string { data := #[] }, .string { data := #[] }, .slice none 0 0, .slice none 0 0] 103)).alloc (.cells #[.int .i64 0, .int .i64 0, .int .i64 0, .int .i64 0, .int .i64 0, .int .i64 0, .int .i64 0, .int .i64 0, .slice none 0 0, .slice none 0 0, .int .i64 0, .bool false, .bool false, .slice none 0 0] 280)).drew)
  clear hl
  go_region
  all_goals
    go_wp2_with fail
    go_ret
    refine ⟨rfl, ?_, ?_⟩
    · exact ((((HK.out).set_ 7 _ rfl).alloc _).alloc _).drew
    · (repeat' (first | (with_reducible exact Only.refl _ _) | (with_reducible assumption) | (with_reducible refine Only.drewN ?_ _) | (with_reducible refine Only.drew ?_) | (with_reducible refine Only.alloc ?_ _) | (with_reducible refine Only.setCell ?_ ?_ _) | (left; simp; done) | (right; omega) | (right; simp; done) | (right; simp; omega)))end Go.Proofs.YtfajckkbinbpiaaGreatDoor
namespace Go.Proofs.YtfajckkbinbpiaaGreatDoor
open Go.RowKit
set_option linter.unusedVariables false
set_option linter.unusedSimpArgs false

def setAt (xs : List Value) : Nat → List Value → List Value
  | _, [] => xs
  | o, v :: r => setAt (xs.set o v) (o + 1) r
theorem setAt_end (xs : List Value) : ∀ (old new done : List Value), old.length = new.length → setAt (xs ++ done ++ old) (xs.length + done.length) new = xs ++ done ++ new
  | [], [], done, _ => by simp [setAt]
  | [], _ :: _, _, h => by simp at h
  | _ :: _, [], _, h => by simp at h
  | a :: old, b :: new, done, h => by
    simp only [List.length_cons, Nat.add_right_cancel_iff] at h
    rw [setAt]
    have e : (xs ++ done ++ a :: old).set (xs.length + done.length) b = xs ++ (done ++ [b]) ++ old := by
      rw [← List.length_append, List.set_append_right _ _ (Nat.le_refl _)]
      simp
    rw [e, show xs.length + done.length + 1 = xs.length + (done ++ [b]).length by simp; omega, setAt_end xs old new (done ++ [b]) h]
    simp
section
variable {base e size n g cap : Nat}
theorem own_setCells : ∀ (vs : List Value) (o : Nat) (w : World) (xs : List Value), w.ownsRow base e size (.slice (some ⟨g, 0, none⟩) n cap) n xs →
    (w.setCells g o vs).ownsRow base e size (.slice (some ⟨g, 0, none⟩) n cap) n (setAt xs o vs) ∧ w.grownBy (w.setCells g o vs) (some g)
  | [], _, w, _, h => ⟨h, World.grownBy.refl _ _⟩
  | v :: r, o, w, xs, h => by
    obtain ⟨h1, h2⟩ := h.stored o v
    obtain ⟨h3, h4⟩ := own_setCells r (o + 1) _ _ h1
    exact ⟨h3, h2.trans h4⟩
theorem there_own {w : World} {xs : List Value} (h : w.ownsRow base e size (.slice (some ⟨g, 0, none⟩) n cap) n xs) (o m : Nat) (hm : o + m ≤ n * size) : w.there g o m := by
  intro j hj
  refine ⟨?_, h.frozenAt _⟩
  rw [h.cellAt _ (by omega)]
  have := h.1
  rw [List.getElem?_eq_getElem (by omega)]
  rfl
theorem store_last {w : World} {xs old new : List Value} (h : w.ownsRow base e size (.slice (some ⟨g, 0, none⟩) (n + 1) cap) (n + 1) (xs ++ old)) (hx : xs.length = n * size) (ho : old.length = new.length) (hn : new.length = size) (h1 : ∀ u ∈ new, u.oneCell' = true)
    (hi : (Tryz.prog.info? e).map (·.size) = some size) : ∃ w', (Instr.storeAt e (.pointer (some ⟨g, n * size, none⟩)) (.agg new.toArray)).run Tryz.prog w = .ok () w' ∧ w'.ownsRow base e size (.slice (some ⟨g, 0, none⟩) (n + 1) cap) (n + 1) (xs ++ new) ∧ w.grownBy w' (some g) := by
  have ht : w.there g (n * size) new.toArray.size := there_own h _ _ (by simp [hn, Nat.add_mul])
  refine ⟨_, run_storeAt_mid w g (n * size) e new.toArray ht (by simpa [hn] using hi) (all_oneCell_toArray h1), ?_⟩
  obtain ⟨h3, h4⟩ := own_setCells new (n * size) w _ h
  refine ⟨?_, h4⟩
  have := setAt_end xs old new [] (by simpa using ho)
  simp only [List.append_nil, List.length_nil, Nat.add_zero, hx] at this
  rw [this] at h3
  exact h3
end
end Go.Proofs.YtfajckkbinbpiaaGreatDoor
namespace Go.Proofs.YtfajckkbinbpiaaGreatDoor
open Go.RowKit
set_option linter.unusedVariables false
set_option linter.unusedSimpArgs false

def splice (old : Array Value) : Nat → List Value → Array Value
  | _, [] => old
  | o, v :: r => splice (old.setIfInBounds o v) (o + 1) r
theorem blk_setCells {g : Nat} {t : TypeId} : ∀ (vs : List Value) (o : Nat) (w : World) (old : Array Value), Blk w g t old → Blk (w.setCells g o vs) g t (splice old o vs) ∧ w.grownBy (w.setCells g o vs) (some g)
  | [], _, w, _, h => ⟨h, World.grownBy.refl _ _⟩
  | v :: r, o, w, old, h => by
    obtain ⟨h3, h4⟩ := blk_setCells r (o + 1) (w.setCell ⟨g, o, none⟩ v) _ (h.set_ o v rfl)
    have h5 : w.grownBy (w.setCell ⟨g, o, none⟩ v) (some g) := ⟨rfl, rfl, rfl, by simp, fun k _ hk => Below.heap_setCell w ⟨g, o, none⟩ v k (fun e => hk (by simp [e]))⟩
    exact ⟨h3, h5.trans h4⟩
theorem wpList_storeMid {ops : Array Oper} {rest : List Oper} {o : Oper} {a : Act} {w : World} {Q : Exit → Act → World → Prop} (hgd : o.guard = none) (ty : TypeId) (x y : Operand) (ho : o.op = .store ty x y)
    (hd : o.dst = none) (g off : Nat) (cells : Array Value) (hx : a.eval x = .pointer (some ⟨g, off, none⟩)) (hy : a.eval y = .agg cells)
    (t : TypeId) (old new : Array Value) (hg : Blk w g t old) (hnew : splice old off cells.toList = new) (hi : (Tryz.prog.info? ty).map (·.size) = some cells.size)
    (hsz : off + cells.size ≤ old.size) (h1 : cells.all (·.oneCell') = true)
    (h : ∀ w1, Blk w1 g t new → w.grownBy w1 (some g) → wpList Tryz.prog ops Q rest a w1) : wpList Tryz.prog ops Q (o :: rest) a w := by
  refine wpList_store_mid hgd ty x y ho g off cells hx hy (fun j hj => ⟨?_, hg.frozen _⟩) hi h1 ?_
  · rw [hg.cell, Array.getElem?_eq_getElem (by omega)]; rfl
  · rw [hd]
    obtain ⟨h3, h4⟩ := blk_setCells cells.toList off w old hg
    rw [hnew] at h3
    exact h _ h3 h4
end Go.Proofs.YtfajckkbinbpiaaGreatDoor
namespace Go.Proofs.YtfajckkbinbpiaaGreatDoor
open Go.RowKit
set_option linter.unusedVariables false
set_option linter.unusedSimpArgs false

set_option maxRecDepth 100000 in
set_option maxHeartbeats 4000000 in
theorem circle_c (w : World) : Calls Tryz.prog 202 #[.int .i64 2500000] w fun e w' => e = .returned (.agg #[.int .i64 1, .int .i64 0, .int .i64 0, .int .i64 0, .int .i64 0, .int .i64 0, .int .i64 0, .int .i64 2500000, .slice none 0 0, .slice none 0 0]) ∧ Below w.heap.size w w' := by
  go_enter Tryz.func202, Tryz.ntmps202
  go_wp2_with fail
  refine bodyPost_ret (v := .agg #[.int .i64 1, .int .i64 0, .int .i64 0, .int .i64 0, .int .i64 0, .int .i64 0, .int .i64 0, .int .i64 2500000, .slice none 0 0, .slice none 0 0]) ?_ rfl ⟨rfl, by (repeat' (first | (with_reducible exact Below.refl _ _) | (with_reducible assumption) | (with_reducible refine below_drewN ?_ _) | (with_reducible refine Below.drew ?_) | (with_reducible refine Below.alloc ?_ ?_ _) | (with_reducible refine Below.setCell ?_ ?_ _) | omega | (simp; done) | (simp; omega)))⟩
  simp [results, Tryz.results202, asAddr, go_sem]
set_option maxRecDepth 100000 in
set_option maxHeartbeats 4000000 in
theorem make_C (g cap : Nat) (w : World) (hc : w.cell? ⟨g, 0, none⟩ = some (.int .i64 500000)) (hg : g < w.heap.size) : Calls Tryz.prog 158 #[.string { data := #[67] }, .slice (some ⟨g, 0, none⟩) 1 cap, .int .i64 1, .slice none 0 0] w fun e w' => e = .returned (.tuple #[.agg #[.int .i64 1, .int .i64 0, .int .i64 0, .int .i64 0, .int .i64 0, .int .i64 0, .int .i64 0, .int .i64 2500000, .slice none 0 0, .slice none 0 0, .int .i64 2500000], .int .i64 0]) ∧ Below w.heap.size w w' := by
  have h1 := fun w => grain_c 500000 w (by omega) (by omega)
  have h2 := fun w => circle_c w
  have H1 := Lib.hid h1
  have H2 := Lib.hid h2
  clear h1 h2
  go_enter Tryz.func158, Tryz.ntmps158
  go_wp2_with fail
  refine wp_loop_rounds 2 ?_
  rw [rounds_succ]
  go_wp2_with (go_at_call 166; ((with_reducible refine (H1.out _).mono ?_); rintro e w' ⟨rfl, rfl⟩))
  rw [rounds_succ]
  go_wp2_with fail
  refine (H2.out _).mono ?_
  rintro e w1 ⟨rfl, hb⟩
  have hB1 : Below w.heap.size w w1 := Below.trans (by (repeat' (first | (with_reducible exact Below.refl _ _) | (with_reducible assumption) | (with_reducible refine below_drewN ?_ _) | (with_reducible refine Below.drew ?_) | (with_reducible refine Below.alloc ?_ ?_ _) | (with_reducible refine Below.setCell ?_ ?_ _) | omega | (simp; done) | (simp; omega)))) (hb.mono (by first | omega | (simp; done) | (simp; omega)))
  have k1_0 : Blk w1 (w.heap.size) 276 #[.int .i64 0, .int .i64 0, .int .i64 0, .int .i64 0, .int .i64 0, .int .i64 0, .int .i64 0, .int .i64 0, .slice none 0 0, .slice none 0 0, .int .i64 0] := Blk.below (by (repeat' (first | (with_reducible assumption) | (with_reducible exact Blk.new _ _ _) | (exact Blk.newAt (by first | rfl | (simp; done) | omega)) | (with_reducible refine Blk.drewN ?_ _) | (with_reducible refine Blk.drew ?_) | (with_reducible refine Blk.alloc ?_ _) | (with_reducible apply Blk.set_) | (with_reducible refine Blk.far ?_ ?_ _) | rfl | omega | (simp; done) | (simp; omega)))) hb (by first | omega | (simp; done) | (simp; omega))
  have k1_1 : Blk w1 (w.heap.size + 1) 319 #[.int .i64 2500000, .int .i64 0, .int .i64 0] := Blk.below (by (repeat' (first | (with_reducible assumption) | (with_reducible exact Blk.new _ _ _) | (exact Blk.newAt (by first | rfl | (simp; done) | omega)) | (with_reducible refine Blk.drewN ?_ _) | (with_reducible refine Blk.drew ?_) | (with_reducible refine Blk.alloc ?_ _) | (with_reducible apply Blk.set_) | (with_reducible refine Blk.far ?_ ?_ _) | rfl | omega | (simp; done) | (simp; omega)))) hb (by first | omega | (simp; done) | (simp; omega))
  have k1_2 : Blk w1 (w.heap.size + 1 + 1) 276 #[.int .i64 0, .int .i64 0, .int .i64 0, .int .i64 0, .int .i64 0, .int .i64 0, .int .i64 0, .int .i64 0, .slice none 0 0, .slice none 0 0, .int .i64 0] := Blk.below (by (repeat' (first | (with_reducible assumption) | (with_reducible exact Blk.new _ _ _) | (exact Blk.newAt (by first | rfl | (simp; done) | omega)) | (with_reducible refine Blk.drewN ?_ _) | (with_reducible refine Blk.drew ?_) | (with_reducible refine Blk.alloc ?_ _) | (with_reducible apply Blk.set_) | (with_reducible refine Blk.far ?_ ?_ _) | rfl | omega | (simp; done) | (simp; omega)))) hb (by first | omega | (simp; done) | (simp; omega))
  have c1_0 := k1_0.cell
  have f1_0 := k1_0.frozen
  have l1_0 := k1_0.lt
  have c1_1 := k1_1.cell
  have f1_1 := k1_1.frozen
  have l1_1 := k1_1.lt
  have c1_2 := k1_2.cell
  have f1_2 := k1_2.frozen
  have l1_2 := k1_2.lt
  have l1 := hB1.size
  clear hb
  have HK := Lib.hid k1_2
  have HK0 := Lib.hid k1_0
  have HK1 := Lib.hid k1_1
  clear k1_0 k1_1 k1_2 c1_0 f1_0 c1_1 f1_1 c1_2 f1_2
  go_wp2_with (refine wpList_storeMid rfl 62 (.tmp 96) (.tmp 95) rfl rfl (w.heap.size + 1 + 1) 0 #[.int .i64 1, .int .i64 0, .int .i64 0, .int .i64 0, .int .i64 0, .int .i64 0, .int .i64 0, .int .i64 2500000, .slice none 0 0, .slice none 0 0] (by simp [Act.eval]) (by simp [Act.eval]) 276 #[.int .i64 0, .int .i64 0, .int .i64 0, .int .i64 0, .int .i64 0, .int .i64 0, .int .i64 0, .int .i64 0, .slice none 0 0, .slice none 0 0, .int .i64 0] #[.int .i64 1, .int .i64 0, .int .i64 0, .int .i64 0, .int .i64 0, .int .i64 0, .int .i64 0, .int .i64 2500000, .slice none 0 0, .slice none 0 0, .int .i64 0] HK.out (by kernel_rfl) (by kernel_rfl) (by decide) (by kernel_rfl) ?_)
  intro w2 k2 hgr
  have k2_0 := Blk.grown' HK0.out hgr (by intro e; injection e with e; omega)
  have k2_1 := Blk.grown' HK1.out hgr (by intro e; injection e with e; omega)
  have hB2 : Below w.heap.size w w2 := Below.grown hB1 hgr l1 (by intro q hq; injection hq with hq; omega)
  have l2 := hB2.size
  have c2 := k2.cell
  have f2 := k2.frozen
  have l2_2 := k2.lt
  have c2_1 := k2_1.cell
  have l2_1 := k2_1.lt
  have HK0 := Lib.hid k2_0
  have HK2 := Lib.hid k2
  clear hgr k2_0 k2_1 k2
  have HK00 := Lib.hid (HK0.out.far (p := ⟨w.heap.size + 1 + 1, 10, none⟩) (by simp; omega) (.int .i64 2500000))
  go_wp2_with (refine wpList_storeBlk rfl 276 (.tmp 8) (.tmp 129) rfl rfl w.heap.size #[.int .i64 1, .int .i64 0, .int .i64 0, .int .i64 0, .int .i64 0, .int .i64 0, .int .i64 0, .int .i64 2500000, .slice none 0 0, .slice none 0 0, .int .i64 2500000] (by simp [Act.eval]) (by simp [Act.eval]) 276 #[.int .i64 0, .int .i64 0, .int .i64 0, .int .i64 0, .int .i64 0, .int .i64 0, .int .i64 0, .int .i64 0, .slice none 0 0, .slice none 0 0, .int .i64 0] HK00.out (by kernel_rfl) (by kernel_rfl) (by kernel_rfl) ?_)
  intro w3 k3 hgr
  have hB3 : Below w.heap.size w w3 := Below.grown (Below.setCell hB2 (by simp; omega) _) hgr (by simpa using l2) (by intro q hq; injection hq with hq; omega)
  clear hgr
  go_wp2_with fail
  exact bodyPost_ret (results_row_tmp Tryz.results158 _ _ w.heap.size #[.int .i64 1, .int .i64 0, .int .i64 0, .int .i64 0, .int .i64 0, .int .i64 0, .int .i64 0, .int .i64 2500000, .slice none 0 0, .slice none 0 0, .int .i64 2500000] (by rfl) (run_loadVar_row _ _ 276 276 _ (0, 0) _ k3 Tryz.underlying276 rfl (by kernel_rfl))) rfl ⟨rfl, hB3⟩
end Go.Proofs.YtfajckkbinbpiaaGreatDoor
