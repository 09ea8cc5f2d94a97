/- Walks: words outside of groups. A map known whole: a look-up and a store at a number, as operations of a walk. Rows of one's own: small laws on where they lie and what keeps them. Walks: a reader's end of a word. -/
import Derived.Maps.Keyed
import Derived.Maps.OwnOps
import Derived.Maps.OwnSet
import Derived.Test.YtfajckkbinbpiaaGreatDoorJ03
import Derived.Test.YtfajckkbinbpiaaGreatDoorJ04
namespace Go.Proofs.YtfajckkbinbpiaaGreatDoor
set_option maxRecDepth 100000
set_option maxHeartbeats 32000000
set_option linter.unusedVariables false
set_option linter.unusedSimpArgs false
open Go.RowKit
def Cmds (w : World) (B : Nat) (v : Value) (l : List (List Value)) : Prop := (∀ c ∈ l, c.length = 12) ∧ w.ownsRow B 103 12 v l.length l.flatten
theorem one_c (c0 c1 c2 c3 c4 c5 c6 c7 c8 c9 c10 c11 : Value) (w : World) : Calls Tryz.prog 97 #[.agg #[c0, c1, c2, c3, c4, c5, c6, c7, c8, c9, c10, c11]] w fun e w' => ∃ v, e = .returned (.tuple #[v, .int .i64 0]) ∧ Cmds w' w.heap.size v [[c0, c1, c2, c3, c4, c5, c6, c7, c8, c9, c10, c11]] ∧ Below w.heap.size w w' := by
  go_enter Tryz.func97, Tryz.ntmps97
  go_wp2_with fail
  go_ret2
  refine ⟨_, rfl, ⟨by simp, ?_⟩, by exact blw⟩
  exact own_of_blk (g := w.heap.size + 1) (t := 103) (size := 12) (n := 1) (cs := #[c0, c1, c2, c3, c4, c5, c6, c7, c8, c9, c10, c11]) (by exact bkw) (by decide) rfl (by omega)
theorem plain_M02 (w : World) : Calls Tryz.prog 62 #[.string { data := #[77, 48, 50] }] w fun e w' => ∃ v, e = .returned (.tuple #[v, .int .i64 0]) ∧ Cmds w' w.heap.size v [[.int .i64 0, .int .i64 5, .int .i64 0, .int .i64 0, .bool false, .string { data := #[] }, .string { data := #[] }, .string { data := #[] }, .string { data := #[] }, .string { data := #[] }, .slice none 0 0, .slice none 0 0]] ∧ Below w.heap.size w w' := by
  go_enter Tryz.func62, Tryz.ntmps62
  go_wp2_with fail
  refine (one_c _ _ _ _ _ _ _ _ _ _ _ _ _).mono ?_
  rintro e w1 ⟨v, rfl, hn, hb⟩
  have hB : Below w.heap.size w w1 := Below.trans (by exact blw) (hb.mono (by first | omega | (simp; done) | (simp; omega)))
  have hq : Cmds w1 w.heap.size v [[.int .i64 0, .int .i64 5, .int .i64 0, .int .i64 0, .bool false, .string { data := #[] }, .string { data := #[] }, .string { data := #[] }, .string { data := #[] }, .string { data := #[] }, .slice none 0 0, .slice none 0 0]] := by
    refine ⟨hn.1, hn.2.1, ?_⟩
    rcases hn.2.2 with ⟨h0, h1⟩ | ⟨g', cap', cur, he, hb', hh, r1, r2, r3, r4⟩
    · exact absurd h1 (by simp)
    · exact .inr ⟨g', cap', cur, he, Nat.le_trans (by first | omega | (simp; done) | (simp; omega)) hb', hh, r1, r2, r3, r4⟩
  have HQ := Lib.hid hq
  clear hn hb hq
  go_wp2_with fail
  go_ret2
  exact ⟨_, rfl, HQ.out, hB⟩
theorem plain_D10 (w : World) : Calls Tryz.prog 62 #[.string { data := #[68, 49, 48] }] w fun e w' => ∃ v, e = .returned (.tuple #[v, .int .i64 0]) ∧ Cmds w' w.heap.size v [[.int .i64 0, .int .i64 6, .int .i64 10, .int .i64 0, .bool false, .string { data := #[] }, .string { data := #[] }, .string { data := #[] }, .string { data := #[] }, .string { data := #[] }, .slice none 0 0, .slice none 0 0]] ∧ Below w.heap.size w w' := by
  have h1 : ∀ w, Calls Tryz.prog 93 #[.string { data := #[68, 49, 48] }, .string { data := #[71, 48, 52] }] w fun e w' => e = .returned (.tuple #[.string { data := #[68, 49, 48] }, .bool false]) ∧ w = w' := fun w => cutP_no [68, 49, 48] [71, 48, 52] w (by decide) (by decide) (by decide)
  have h2 : ∀ w, Calls Tryz.prog 93 #[.string { data := #[68, 49, 48] }, .string { data := #[71, 48, 49] }] w fun e w' => e = .returned (.tuple #[.string { data := #[68, 49, 48] }, .bool false]) ∧ w = w' := fun w => cutP_no [68, 49, 48] [71, 48, 49] w (by decide) (by decide) (by decide)
  have h3 : ∀ w, Calls Tryz.prog 93 #[.string { data := #[68, 49, 48] }, .string { data := #[71, 48, 50] }] w fun e w' => e = .returned (.tuple #[.string { data := #[68, 49, 48] }, .bool false]) ∧ w = w' := fun w => cutP_no [68, 49, 48] [71, 48, 50] w (by decide) (by decide) (by decide)
  have h4 : ∀ w, Calls Tryz.prog 93 #[.string { data := #[68, 49, 48] }, .string { data := #[71, 48, 51] }] w fun e w' => e = .returned (.tuple #[.string { data := #[68, 49, 48] }, .bool false]) ∧ w = w' := fun w => cutP_no [68, 49, 48] [71, 48, 51] w (by decide) (by decide) (by decide)
  have h5 : ∀ w, Calls Tryz.prog 93 #[.string { data := #[68, 49, 48] }, .string { data := #[68] }] w fun e w' => e = .returned (.tuple #[.string { data := #[49, 48] }, .bool true]) ∧ w = w' := fun w => cutP_yes [68] [49, 48] w (by decide)
  have h6 : ∀ w, Calls Tryz.prog 98 #[.string { data := #[49, 48] }] w fun e w' => e = .returned (.tuple #[.int .i64 10, .bool true]) ∧ w = w' := fun w => code_c [49, 48] w (by decide) (by decide) (by intro c h; simp at h; rcases h with rfl | rfl <;> decide) (by decide)
  have H1 := Lib.hid h1
  have H2 := Lib.hid h2
  have H3 := Lib.hid h3
  have H4 := Lib.hid h4
  have H5 := Lib.hid h5
  have H6 := Lib.hid h6
  clear h1 h2 h3 h4 h5 h6
  go_enter Tryz.func62, Tryz.ntmps62
  go_wp2_with (go_at_call 93; ((with_reducible refine (H1.out _).mono ?_); rintro e w' ⟨rfl, rfl⟩))
  refine wp_loop_rounds 4 ?_
  rw [rounds_succ]
  go_wp2_with (go_at_call 93; ((with_reducible refine (H2.out _).mono ?_); rintro e w' ⟨rfl, rfl⟩))
  rw [rounds_succ]
  go_wp2_with (go_at_call 93; ((with_reducible refine (H3.out _).mono ?_); rintro e w' ⟨rfl, rfl⟩))
  rw [rounds_succ]
  go_wp2_with (go_at_call 93; ((with_reducible refine (H4.out _).mono ?_); rintro e w' ⟨rfl, rfl⟩))
  rw [rounds_succ]
  go_wp2_with (first | (go_at_call 93; ((with_reducible refine (H5.out _).mono ?_); rintro e w' ⟨rfl, rfl⟩)) | (go_at_call 98; ((with_reducible refine (H6.out _).mono ?_); rintro e w' ⟨rfl, rfl⟩)))
  refine (one_c _ _ _ _ _ _ _ _ _ _ _ _ _).mono ?_
  rintro e w1 ⟨v, rfl, hn, hb⟩
  have hB : Below w.heap.size w w1 := Below.trans (by exact blw) (hb.mono (by first | omega | (simp; done) | (simp; omega)))
  have hq : Cmds w1 w.heap.size v [[.int .i64 0, .int .i64 6, .int .i64 10, .int .i64 0, .bool false, .string { data := #[] }, .string { data := #[] }, .string { data := #[] }, .string { data := #[] }, .string { data := #[] }, .slice none 0 0, .slice none 0 0]] := by
    refine ⟨hn.1, hn.2.1, ?_⟩
    rcases hn.2.2 with ⟨h0, h1⟩ | ⟨g', cap', cur, he, hb', hh, r1, r2, r3, r4⟩
    · exact absurd h1 (by simp)
    · exact .inr ⟨g', cap', cur, he, Nat.le_trans (by first | omega | (simp; done) | (simp; omega)) hb', hh, r1, r2, r3, r4⟩
  have HQ := Lib.hid hq
  clear hn hb hq
  go_wp2_with fail
  go_ret2
  exact ⟨_, rfl, HQ.out, hB⟩
end Go.Proofs.YtfajckkbinbpiaaGreatDoor
namespace Go.Proofs.YtfajckkbinbpiaaGreatDoor
set_option maxRecDepth 100000
set_option maxHeartbeats 32000000
set_option linter.unusedVariables false
set_option linter.unusedSimpArgs false
open Go.RowKit
open Go.Maps Go.ChangeMaps Go.MapKept
def IsMap (w : World) (M : Nat) (es : Array MapEntry) (clk : Nat) : Prop := w.heap[M]? = some (.map es clk)
section
variable {w w' : World} {M : Nat} {es : Array MapEntry} {clk : Nat}
theorem IsMap.lt (h : IsMap w M es clk) : M < w.heap.size := by
  rcases Nat.lt_or_ge M w.heap.size with hlt | hge
  · exact hlt
  · unfold IsMap at h; rw [Array.getElem?_eq_none hge] at h; cases h
theorem IsMap.new (w : World) (es : Array MapEntry) (clk : Nat) : IsMap (w.alloc (.map es clk)) w.heap.size es clk := (MapKept.heap_alloc w _).1
theorem IsMap.drew (h : IsMap w M es clk) : IsMap w.drew M es clk := h
theorem IsMap.drewN (h : IsMap w M es clk) (n : Nat) : IsMap (w.drewN n) M es clk := h
theorem IsMap.alloc (h : IsMap w M es clk) (o : Obj) : IsMap (w.alloc o) M es clk := (Below.heap_alloc w o M h.lt).trans h
theorem IsMap.far (h : IsMap w M es clk) {p : Addr} (hp : M ≠ p.block) (u : Value) : IsMap (w.setCell p u) M es clk := (Below.heap_setCell w p u M hp).trans h
theorem IsMap.below {B : Nat} (h : IsMap w M es clk) (hb : Below B w w') (hM : M < B) : IsMap w' M es clk := (hb.block M hM).trans h
theorem IsMap.grown {row : Option Nat} (h : IsMap w M es clk) (hb : w.grownBy w' row) (hne : some M ≠ row) : IsMap w' M es clk := (hb.block M h.lt hne).trans h
theorem IsMap.blk_ne {g : Nat} {t : TypeId} {cs : Array Value} (h : IsMap w M es clk) (hb : Blk w g t cs) : M ≠ g := by
  rintro rfl; unfold IsMap at h; unfold Blk at hb; rw [h] at hb; cases hb
end
theorem check_int (w : World) (n : Nat) (c : Int) (b : Bool) : (Instr.checkKey b (n + 1) 3 (.int .i64 c)).run Tryz.prog w = .ok () w := by
  simp [Instr.checkKey, run_underlying Tryz.underlying3]
theorem look_run (w : World) {M : Nat} {es : Array MapEntry} {clk : Nat} (h : IsMap w M es clk) (c : Int) (v : Value × Bool)
    (hf : (Instr.findNow (.int .i64) (.int .i64 c) es.toList 0).map (fun r => r.map (·.2)) = some (if v.2 then some v.1 else none)) (hz : v.2 = false → (zeroValue 280).run Tryz.prog w = .ok v.1 w) :
    (Instr.lookup 151 (.map (some M)) (.int .i64 c) true).run Tryz.prog w = .ok (.tuple #[v.1, .bool v.2]) w := by
  unfold IsMap at h
  obtain ⟨v, b⟩ := v
  cases hq : Instr.findNow (.int .i64) (.int .i64 c) es.toList 0 with
  | none => rw [hq] at hf; cases hf
  | some r =>
    rw [hq] at hf
    cases r with
    | none =>
      cases b with
      | true => cases hf
      | false => simp [Instr.lookup, Instr.findKey, run_underlying Tryz.underlying151, run_underlying Tryz.underlying3, MapKept.run_getObj_map h, check_int, hq, hz rfl, Result.andThen]
    | some x =>
      cases b with
      | false => cases hf
      | true =>
        obtain ⟨i, x⟩ := x
        simp at hf
        subst hf
        simp [Instr.lookup, Instr.findKey, run_underlying Tryz.underlying151, run_underlying Tryz.underlying3, MapKept.run_getObj_map h, check_int, hq, Result.andThen]
theorem put_run (w : World) {M : Nat} {es : Array MapEntry} {clk : Nat} (h : IsMap w M es clk) (c : Int) (v : Value) (hf : Instr.findNow (.int .i64) (.int .i64 c) es.toList 0 = some none) :
    ∃ w', (Instr.mapUpdate 151 (.map (some M)) (.int .i64 c) v).run Tryz.prog w = .ok () w' ∧ IsMap w' M (es.push { key := .int .i64 c, val := v, born := clk }) (clk + 1) ∧ w.grownBy w' (some M) := by
  unfold IsMap at h
  refine ⟨setBlock w M (.map (es.push { key := .int .i64 c, val := v, born := clk }) (clk + 1)), ?_, heap_setBlock_same h _, ⟨rfl, rfl, rfl, by simp [setBlock], fun i _ hi => heap_setBlock_other h _ (fun e => hi (by rw [e]))⟩⟩
  simp [Instr.mapUpdate, Instr.findKey, run_underlying Tryz.underlying151, run_underlying Tryz.underlying3, MapKept.run_getObj_map h, check_int, hf, MapKept.run_setObj_map _ h, setBlock, Result.andThen]
theorem wpList_look (w : World) {ops : Array Oper} {rest : List Oper} {o : Oper} {a : Act} {Q : Exit → Act → World → Prop}
    (hg : o.guard = none) (m x : Operand) (hop : o.op = Op.lookup 151 m x true) {M : Nat} {es : Array MapEntry} {clk : Nat} (hm : a.eval m = .map (some M)) (h : IsMap w M es clk) (c : Int) (hx : a.eval x = .int .i64 c) (v : Value × Bool)
    (hf : (Instr.findNow (.int .i64) (.int .i64 c) es.toList 0).map (fun r => r.map (·.2)) = some (if v.2 then some v.1 else none)) (hz : v.2 = false → ∀ w, (zeroValue 280).run Tryz.prog w = .ok v.1 w)
    (hK : wpList Tryz.prog ops Q rest (a.put o.dst (.tuple #[v.1, .bool v.2])) w) : wpList Tryz.prog ops Q (o :: rest) a w := by
  refine wpList_plain hg fun K' hK' => ?_
  have hrun := look_run w h c v hf (fun e => hz e w)
  unfold Oper.wp
  simp [execOp, hop, hm, hx, hrun, Result.andThen]
  exact hK' _ _ hK
theorem wpList_put (w : World) {ops : Array Oper} {rest : List Oper} {o : Oper} {a : Act} {Q : Exit → Act → World → Prop}
    (hg : o.guard = none) (m x y : Operand) (hop : o.op = Op.mapUpdate 151 m x y) {M : Nat} {es : Array MapEntry} {clk : Nat} (hm : a.eval m = .map (some M)) (h : IsMap w M es clk) (c : Int) (hx : a.eval x = .int .i64 c) (v : Value) (hy : a.eval y = v)
    (hf : Instr.findNow (.int .i64) (.int .i64 c) es.toList 0 = some none)
    (hK : ∀ w', IsMap w' M (es.push { key := .int .i64 c, val := v, born := clk }) (clk + 1) → w.grownBy w' (some M) → wpList Tryz.prog ops Q rest (a.put o.dst undef) w') : wpList Tryz.prog ops Q (o :: rest) a w := by
  refine wpList_plain hg fun K' hK' => ?_
  obtain ⟨w', hrun, h1, h2⟩ := put_run w h c v hf
  unfold Oper.wp
  simp [execOp, hop, hm, hx, hy, hrun, Result.andThen]
  exact hK' _ _ (hK w' h1 h2)
end Go.Proofs.YtfajckkbinbpiaaGreatDoor
namespace Go.Proofs.YtfajckkbinbpiaaGreatDoor
set_option maxRecDepth 100000
set_option maxHeartbeats 32000000
set_option linter.unusedVariables false
set_option linter.unusedSimpArgs false
open Go.RowKit
section
variable {w w' : World} {base B : Nat} {e : TypeId} {size n : Nat} {v : Value} {xs : List Value}
theorem own_mono (h : w.ownsRow base e size v n xs) (hb : B ≤ base) : w.ownsRow B e size v n xs := by
  refine ⟨h.1, ?_⟩
  rcases h.2 with h | ⟨g, cap, cur, h1, h2, h3⟩
  · exact .inl h
  · exact .inr ⟨g, cap, cur, h1, Nat.le_trans hb h2, h3⟩
theorem own_form (h : w.ownsRow base e size v n xs) : ∃ p c, v = .slice p n c := by
  rcases h.2 with ⟨h1, h2⟩ | ⟨g, cap, cur, h1, _⟩
  · rw [h2]; exact ⟨_, _, h1⟩
  · exact ⟨_, _, h1⟩
theorem own_cap {p : Option Addr} {m c : Nat} (h : w.ownsRow base e size (.slice p m c) n xs) : m = n ∧ n ≤ c := by
  rcases h.2 with ⟨h1, h2⟩ | ⟨g, cap, cur, h1, _, _, h3, _⟩
  · cases h1; exact ⟨h2.symm, by omega⟩
  · cases h1; exact ⟨rfl, h3⟩
theorem own_same (h : w.ownsRow base e size v n xs) (hs : ∀ b, v.ownBlock = some b → w'.heap[b]? = w.heap[b]?) : w'.ownsRow base e size v n xs := by
  refine ⟨h.1, ?_⟩
  rcases h.2 with h | ⟨g, cap, cur, h1, h2, h3, h4⟩
  · exact .inl h
  · exact .inr ⟨g, cap, cur, h1, h2, (hs g (by rw [h1]; rfl)).trans h3, h4⟩
theorem own_lt (h : w.ownsRow base e size v n xs) {b : Nat} (hb : v.ownBlock = some b) : b < w.heap.size := (h.lt b hb).2
theorem own_ge (h : w.ownsRow base e size v n xs) {b : Nat} (hb : v.ownBlock = some b) : base ≤ b := (h.lt b hb).1
theorem own_map_ne (h : w.ownsRow base e size v n xs) {M : Nat} {es : Array MapEntry} {clk : Nat} (hM : IsMap w M es clk) : v.ownBlock ≠ some M := by
  intro hb
  rcases h.2 with ⟨h1, _⟩ | ⟨g, cap, cur, h1, h2, h3, _⟩
  · rw [h1] at hb; cases hb
  · rw [h1] at hb; simp [Value.ownBlock] at hb; subst hb; unfold IsMap at hM; rw [hM] at h3; cases h3
end
theorem nums_form {w : World} {B : Nat} {v : Value} {l : List Int} (h : Nums w B v l) : ∃ p n c, v = .slice p n c := by
  rcases h.2 with ⟨h, _⟩ | ⟨g, cap, cur, h, _⟩ <;> exact ⟨_, _, _, h⟩
theorem nums_mono {w : World} {B B' : Nat} {v : Value} {l : List Int} (h : Nums w B v l) (hb : B' ≤ B) : Nums w B' v l := own_mono h hb
theorem nums_alloc {w : World} {B : Nat} {v : Value} {l : List Int} (h : Nums w B v l) (o : Obj) : Nums (w.alloc o) B v l := World.ownsRow.alloc h o
theorem nums_below {w w' : World} {B B' : Nat} {v : Value} {l : List Int} (h : Nums w B v l) (hb : Below B' w w') (hB : w.heap.size ≤ B') : Nums w' B v l := own_below h hb hB
theorem cmds_mono {w : World} {B B' : Nat} {v : Value} {l : List (List Value)} (h : Cmds w B v l) (hb : B' ≤ B) : Cmds w B' v l := ⟨h.1, own_mono h.2 hb⟩
theorem own_zero {w : World} {base : Nat} {e : TypeId} {size n g cap : Nat} {xs : List Value} (h : w.ownsRow base e size (.slice (some ⟨g, 0, none⟩) n cap) n xs) : w.ownsRow base e size (.slice (some ⟨g, 0, none⟩) 0 cap) 0 [] := by
  refine ⟨by simp, .inr ?_⟩
  rcases h.2 with ⟨h0, _⟩ | ⟨g', cap', cur, he, hb, hh, _, hm, hs, _⟩
  · cases h0
  · obtain ⟨⟨rfl⟩, rfl⟩ : g = g' ∧ cap = cap' := by simpa using he
    exact ⟨g, cap, cur, rfl, hb, hh, by omega, hm, hs, by simp⟩
theorem own_kept0 {w w' : World} {base : Nat} {e : TypeId} {size n : Nat} {v : Value} {xs : List Value} (h : w.ownsRow base e size v n xs) (hg : w.grownBy w' none) : w'.ownsRow base e size v n xs :=
  h.kept hg (by cases v.ownBlock <;> simp)
theorem bool_cast (n : Nat) : (((n : Int) == 0) : Bool) = (n == 0) := by
  cases n <;> simp <;> omega
theorem end_post {B g g2 cap2 gt cap inn' at_ : Nat} {grp fst : Bool} {wds : List Wd} {txt : List UInt8} {wv : Value} {w w1 wa : World}
    (hws : wa.ownsRow B 146 4 wv wds.length (wcells wds)) (hts : wa.ownsRow B 5 1 (.slice (some ⟨gt, 0, none⟩) txt.length cap) txt.length (tcells txt)) (hk : Blk wa g 203 #[wv, .slice (some ⟨gt, 0, none⟩) txt.length cap, .int .i64 (at_ : Int), .bool grp, .int .i64 (inn' : Int)])
    (hle : B ≤ g) (hB : B ≤ wa.heap.size) (hb : Below B w wa)
    (hown : w1.ownsRow B 146 4 (.slice (some ⟨g2, 0, none⟩) (wds.length + 1) cap2) (wds.length + 1) (wcells wds ++ [.int .i64 (at_ : Int), .bool grp, .bool fst, .string (bs txt)])) (hgrow : wa.grownBy w1 wv.ownBlock) :
    Below B w ((w1.setCell ⟨g, 0, none⟩ (.slice (some ⟨g2, 0, none⟩) (wds.length + 1) cap2)).setCell ⟨g, 1, none⟩ (.slice (some ⟨gt, 0, none⟩) 0 cap)) ∧
    RdIs ((w1.setCell ⟨g, 0, none⟩ (.slice (some ⟨g2, 0, none⟩) (wds.length + 1) cap2)).setCell ⟨g, 1, none⟩ (.slice (some ⟨gt, 0, none⟩) 0 cap)) B g ⟨wds ++ [⟨at_, grp, fst, txt⟩], [], at_, grp, inn'⟩ := by
  have hne : wv.ownBlock ≠ some g := own_blk_ne hws hk (by decide)
  have hk1 : Blk w1 g 203 _ := hk.grown hgrow (fun e => hne e.symm)
  have hne2 : (Value.slice (some ⟨g2, 0, none⟩) (wds.length + 1) cap2).ownBlock ≠ some g := own_blk_ne hown hk1 (by decide)
  have hts1 := hts.kept hgrow (own_own_ne hts hws (by decide))
  have hne3 : (Value.slice (some ⟨gt, 0, none⟩) 0 cap).ownBlock ≠ some g := own_blk_ne (own_zero hts1) hk1 (by decide)
  have hb1 : Below B w w1 := Below.grown hb hgrow hB (fun k hk => (hws.lt k hk).1)
  refine ⟨?_, ?_⟩
  · exact Below.setCell (Below.setCell hb1 hle _) hle _
  · refine ⟨.slice (some ⟨g2, 0, none⟩) (wds.length + 1) cap2, .slice (some ⟨gt, 0, none⟩) 0 cap, ⟨?_, ?_, ?_, hle⟩⟩
    · exact (hk1.set_ 0 _ rfl).set_ 1 _ rfl
    · have := own_far (own_far hown (p := ⟨g, 0, none⟩) hne2 (.slice (some ⟨g2, 0, none⟩) (wds.length + 1) cap2)) (p := ⟨g, 1, none⟩) hne2 (.slice (some ⟨gt, 0, none⟩) 0 cap)
      simp only [List.length_append, List.length_cons, List.length_nil, wcells_append, wcells_one]
      exact this
    · exact own_far (own_far (own_zero hts1) (p := ⟨g, 0, none⟩) hne3 _) (p := ⟨g, 1, none⟩) hne3 _
theorem end_yes (B g : Nat) (r : Rd) (wv tv : Value) (w : World) (h : RdAt w B g wv tv r) (hne : r.text ≠ []) (hok : r.Ok) (hB : B ≤ w.heap.size) :
    Calls Tryz.prog 144 #[.pointer (some ⟨g, 0, none⟩)] w fun e w' => e = .returned (.int .i64 0) ∧ Below B w w' ∧ RdIs w' B g ⟨r.words ++ [⟨r.at_, r.group, r.inner == 0, r.text⟩], [], r.at_, r.group, if r.group then r.inner + 1 else r.inner⟩ := by
  have hlen : 0 < r.text.length := List.length_pos_iff.2 hne
  obtain ⟨gt, cap, rfl, hgt, hgt'⟩ := h.ts.form hlen
  obtain ⟨hk, hws, hts, hle⟩ := h
  obtain ⟨wds, txt, at_, grp, inn⟩ := r
  simp only at hk hws hts hne hlen hok ⊢
  obtain ⟨b1, b2, b3, b4, b5, b6⟩ := hok
  simp only at b1 b2 b3 b4 b5 b6
  have b7 := b2 hne
  have hcv := conv_text hts
  have hz : ((txt.length : Int) == 0) = false := by simp; omega
  have hl := hk.lt
  have c0 := hk.cell
  have f0 := hk.frozen
  obtain ⟨fst, efst⟩ : ∃ b, ((inn : Int) == 0) = b := ⟨_, rfl⟩
  have efst' : (inn == 0) = fst := by rw [← efst, bool_cast]
  rw [efst']
  have E1 := Lib.hid efst'
  clear efst' b2 b6 hne
  obtain ⟨i28, hi28, hz0, hz1, hz2⟩ := info_parts info28
  have HI := Lib.hid (And.intro hi28 (And.intro hz0 (And.intro hz1 hz2)))
  clear hi28 hz0 hz1 hz2
  go_enter Tryz.func144, Tryz.ntmps144
  go_upto_region 3 with (fail)
  go_cut [3] (fun p wx => ∃ q, p = .pointer (some ⟨q, 0, none⟩) ∧ g < q ∧ Blk wx q 146 #[.int .i64 (at_ : Int), .bool grp, .bool fst, .string (bs txt)] ∧ w.grownBy wx none)
  case first =>
    go_region_held3 (fun w' => (∀ i, w'.cell? ⟨g, i, none⟩ = (#[wv, .slice (some ⟨gt, 0, none⟩) txt.length cap, .int .i64 (at_ : Int), .bool grp, .int .i64 (inn : Int)] : Array Value)[i]?) ∧ (convert 35 9 (.slice (some ⟨gt, 0, none⟩) txt.length cap)).run Tryz.prog w' = .ok (.string (bs txt)) w')
      ((refine ⟨Blk.cell (t := 203) (by exact bkw), conv_text (own_below hts (B := w.heap.size) ?_ (Nat.le_refl _))⟩; exact blw))
      (fail)
    go_wp2_with fail
    go_meet
    exact ⟨w.heap.size, rfl, hl, Blk.new _ _ _, by have hh := World.grownBy_alloc w (.cells #[.int .i64 (at_ : Int), .bool grp, .bool fst, .string (bs txt)] 146) none; exact ⟨hh.os, hh.tape, hh.output, hh.size, hh.block⟩⟩
  case rest =>
  obtain ⟨q, rfl, hq, hbq, hgr⟩ := hcut
  have hk2 := hk.grown hgr (by simp)
  have hws2 := own_kept0 hws hgr
  have hts2 := own_kept0 hts hgr
  have hB2 : B ≤ wc.heap.size := by have := hgr.size; omega
  have hb2 : Below B w wc := Below.grown (Below.refl _ _) hgr hB (by simp)
  clear hk hws hts hcv c0 f0 hgr hl
  have c0 := hk2.cell
  have f0 := hk2.frozen
  have l0 := hk2.lt
  have cq := hbq.cell
  have b8 : wds.length + 1 ≤ maxLen := by unfold maxLen; omega
  have b9 : (wds.length + 1) * 32 ≤ 140737488355328 := by omega
  have hx : ¬ cap = 0 := by
    rcases hts2.2 with ⟨h0, _⟩ | ⟨g', cap', cur, he, _, _, hn, _⟩
    · cases h0
    · obtain ⟨_, rfl⟩ : gt = g' ∧ cap = cap' := by simpa using he
      omega
  rcases grp with _ | _
  · as_aux_lemma =>
      go_upto_region 6 with (fail)
      have ha : ∀ o, (((wc.alloc o).drew).ownsRow B 146 4 wv wds.length (wcells wds)) := fun o => World.ownsRow.drew (hws2.alloc o)
      have hka : ∀ o, Blk ((wc.alloc o).drew) g 203 #[wv, .slice (some ⟨gt, 0, none⟩) txt.length cap, .int .i64 (at_ : Int), .bool false, .int .i64 (inn : Int)] := fun o => (hk2.alloc o).drew
      have hta : ∀ o, (((wc.alloc o).drew).ownsRow B 5 1 (.slice (some ⟨gt, 0, none⟩) txt.length cap) txt.length (tcells txt)) := fun o => World.ownsRow.drew (hts2.alloc o)
      have HA := Lib.hid ha
      have HK := Lib.hid hka
      have HT := Lib.hid hta
      have HB : ∀ o, Below B w ((wc.alloc o).drew) := fun o => Below.drew (Below.alloc hb2 hB2 o)
      have HBB := Lib.hid HB
      have HS : ∀ o, B ≤ ((wc.alloc o).drew).heap.size := fun o => Nat.le_trans hB2 (by simp)
      have HSS := Lib.hid HS
      have hN : ∀ j u, [.int .i64 (at_ : Int), .bool false, .bool fst, .string (bs txt)][j]? = some u → ((wc.alloc (.cells #[.int .i64 (at_ : Int), .bool false, .bool fst, .string (bs txt)] 146)).drew).cell? ((⟨wc.heap.size, 0, none⟩ : Addr).add j) = some u :=
        World.news_of_block (cs := #[.int .i64 (at_ : Int), .bool false, .bool fst, .string (bs txt)]) (Blk.drew (Blk.newAt (w := wc) (by first | rfl | simp)))
      have hO : ∀ u ∈ ([.int .i64 (at_ : Int), .bool false, .bool fst, .string (bs txt)] : List Value), u.oneCell' = true := by
        intro u hu
        simp only [List.mem_cons, List.not_mem_nil, or_false] at hu
        rcases hu with rfl | rfl | rfl | rfl <;> rfl
      have hNE := Lib.hid (own_blk_ne hws2 hk2 (by decide))
      have hNN := Lib.hid hN
      have hOO := Lib.hid hO
      have hZ : Hid ((Value.agg #[.int .i64 0, .bool false, .bool false, .string ByteArray.empty]).cells.size = 4) := Lib.hid (by kernel_rfl)
      clear ha hka hta HB HS hN hO
      go_region_law (refine step_append_lies _ rfl (.tmp 44) (.tmp 46) 142 rfl B 146 i28 _ 4 32 Tryz.underlying142 HI.out.1 HI.out.2.1 HI.out.2.2.1 HI.out.2.2.2 hZ.out (by decide) wv wds.length (wcells wds) (by simp [Act.eval]) (HA.out _) ⟨wc.heap.size, 0, none⟩ 1 1 [.int .i64 (at_ : Int), .bool false, .bool fst, .string (bs txt)] (by simp [Act.eval]) rfl hNN.out hOO.out (by decide) b8 b9 (HSS.out _) _ rfl ?_; intro g2 cap2 w1 hown hgrow hat hlt; have hk1 := (HK.out _).grown hgrow (fun e => hNE.out e.symm); have c1 := hk1.cell; have f1 := hk1.frozen; have l1 := hk1.lt; have hP := end_post (HA.out _) (HT.out _) (HK.out _) hle (HSS.out _) (HBB.out _) hown hgrow; clear hown hgrow hat)
      all_goals
        go_wp2_with fail
        go_ret
        exact ⟨rfl, hP⟩
  · have hws3 := own_far hws2 (p := ⟨g, 4, none⟩) (own_blk_ne hws2 hk2 (by decide)) (.int .i64 ((inn + 1 : Nat) : Int))
    have hts3 := own_far hts2 (p := ⟨g, 4, none⟩) (own_blk_ne hts2 hk2 (by decide)) (.int .i64 ((inn + 1 : Nat) : Int))
    have hk3 := hk2.set_ 4 (.int .i64 ((inn + 1 : Nat) : Int)) rfl
    have hb3 : Below B w (wc.setCell ⟨g, 4, none⟩ (.int .i64 ((inn + 1 : Nat) : Int))) := Below.setCell hb2 hle _
    have hB3 : B ≤ (wc.setCell ⟨g, 4, none⟩ (.int .i64 ((inn + 1 : Nat) : Int))).heap.size := by simpa using hB2
    have e1 : (((inn + 1 : Nat) : Int)) = (inn : Int) + 1 := by omega
    rw [e1] at hws3 hts3 hk3 hb3 hB3
    as_aux_lemma =>
      go_upto_region 6 with (fail)
      have ha : ∀ o, ((((wc.setCell ⟨g, 4, none⟩ (.int .i64 ((inn : Int) + 1))).alloc o).drew).ownsRow B 146 4 wv wds.length (wcells wds)) := fun o => World.ownsRow.drew (hws3.alloc o)
      have hka : ∀ o, Blk (((wc.setCell ⟨g, 4, none⟩ (.int .i64 ((inn : Int) + 1))).alloc o).drew) g 203 #[wv, .slice (some ⟨gt, 0, none⟩) txt.length cap, .int .i64 (at_ : Int), .bool true, .int .i64 ((inn + 1 : Nat) : Int)] := fun o => (hk3.alloc o).drew
      have hta : ∀ o, ((((wc.setCell ⟨g, 4, none⟩ (.int .i64 ((inn : Int) + 1))).alloc o).drew).ownsRow B 5 1 (.slice (some ⟨gt, 0, none⟩) txt.length cap) txt.length (tcells txt)) := fun o => World.ownsRow.drew (hts3.alloc o)
      have HA := Lib.hid ha
      have HK := Lib.hid hka
      have HT := Lib.hid hta
      have HB : ∀ o, Below B w (((wc.setCell ⟨g, 4, none⟩ (.int .i64 ((inn : Int) + 1))).alloc o).drew) := fun o => Below.drew (Below.alloc hb3 hB3 o)
      have HBB := Lib.hid HB
      have HS : ∀ o, B ≤ (((wc.setCell ⟨g, 4, none⟩ (.int .i64 ((inn : Int) + 1))).alloc o).drew).heap.size := fun o => Nat.le_trans hB3 (by simp)
      have HSS := Lib.hid HS
      have hN : ∀ j u, [.int .i64 (at_ : Int), .bool true, .bool fst, .string (bs txt)][j]? = some u → (((wc.setCell ⟨g, 4, none⟩ (.int .i64 ((inn : Int) + 1))).alloc (.cells #[.int .i64 (at_ : Int), .bool true, .bool fst, .string (bs txt)] 146)).drew).cell? ((⟨(wc.setCell ⟨g, 4, none⟩ (.int .i64 ((inn : Int) + 1))).heap.size, 0, none⟩ : Addr).add j) = some u :=
        World.news_of_block (cs := #[.int .i64 (at_ : Int), .bool true, .bool fst, .string (bs txt)]) (Blk.drew (Blk.newAt (w := (wc.setCell ⟨g, 4, none⟩ (.int .i64 ((inn : Int) + 1)))) (by first | rfl | simp)))
      have hO : ∀ u ∈ ([.int .i64 (at_ : Int), .bool true, .bool fst, .string (bs txt)] : List Value), u.oneCell' = true := by
        intro u hu
        simp only [List.mem_cons, List.not_mem_nil, or_false] at hu
        rcases hu with rfl | rfl | rfl | rfl <;> rfl
      have hNE := Lib.hid (own_blk_ne hws3 hk3 (by decide))
      have hNN := Lib.hid hN
      have hOO := Lib.hid hO
      have hZ : Hid ((Value.agg #[.int .i64 0, .bool false, .bool false, .string ByteArray.empty]).cells.size = 4) := Lib.hid (by kernel_rfl)
      clear ha hka hta HB HS hN hO
      go_region_law (refine step_append_lies _ rfl (.tmp 44) (.tmp 46) 142 rfl B 146 i28 _ 4 32 Tryz.underlying142 HI.out.1 HI.out.2.1 HI.out.2.2.1 HI.out.2.2.2 hZ.out (by decide) wv wds.length (wcells wds) (by simp [Act.eval]) (HA.out _) ⟨(wc.setCell ⟨g, 4, none⟩ (.int .i64 ((inn : Int) + 1))).heap.size, 0, none⟩ 1 1 [.int .i64 (at_ : Int), .bool true, .bool fst, .string (bs txt)] (by simp [Act.eval]) rfl hNN.out hOO.out (by decide) b8 b9 (HSS.out _) _ rfl ?_; intro g2 cap2 w1 hown hgrow hat hlt; have hk1 := (HK.out _).grown hgrow (fun e => hNE.out e.symm); have c1 := hk1.cell; have f1 := hk1.frozen; have l1 := hk1.lt; have hP := end_post (HA.out _) (HT.out _) (HK.out _) hle (HSS.out _) (HBB.out _) hown hgrow; clear hown hgrow hat)
      all_goals
        go_wp2_with fail
        go_ret
        exact ⟨rfl, hP⟩
end Go.Proofs.YtfajckkbinbpiaaGreatDoor
