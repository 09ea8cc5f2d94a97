/- Objects added one behind the other. Walks: package plot: a block is flashed. -/
import Derived.Test.YtfajckkbinbpiaaGreatDoorM26
import Derived.Test.YtfajckkbinbpiaaGreatDoorM12
import Derived.LoopTactic
namespace Go.Proofs.YtfajckkbinbpiaaGreatDoor
open Go.RowKit
set_option linter.unusedVariables false
set_option linter.unusedSimpArgs false

/-- k objects, whose cells are zs, have been added since w. -/
def Adds (P gL off B n : Nat) (pc : Int → Array Value) (lcs : Array Value) (ov : Value) (xs : List Value) (mk : Int) (w : World) (k : Nat) (zs : List Value) (wr : World) : Prop :=
  ∃ ov' lcs', Blk wr P 159 (pc (mk + (k : Int))) ∧ Blk wr gL 162 lcs' ∧ lcs'[off]? = some ov' ∧ (k = 0 ∧ lcs' = lcs ∧ ov' = ov ∨ lcs' = lcs.setIfInBounds off ov' ∧ 0 < k) ∧ wr.ownsRow B 65 11 ov' (n + k) (xs ++ zs) ∧ Only (P :: gL :: ov.ownBlock.toList) w wr ∧
    (ov'.ownBlock = ov.ownBlock ∨ ∃ g, ov'.ownBlock = some g ∧ w.heap.size ≤ g)
section
variable {P gL off B n : Nat} {pc : Int → Array Value} {lcs : Array Value} {ov : Value} {xs : List Value} {mk : Int} {w : World}
theorem Adds.start (hP : Blk w P 159 (pc mk)) (hL : Blk w gL 162 lcs) (ho : lcs[off]? = some ov) (hov : w.ownsRow B 65 11 ov n xs) : Adds P gL off B n pc lcs ov xs mk w 0 [] w :=
  ⟨ov, lcs, by simpa using hP, hL, ho, .inl ⟨rfl, rfl, rfl⟩, by simpa using hov, Only.refl _ _, .inl rfl⟩
/-- Another world in which nothing of this has turned. -/
theorem Adds.only {wr wr' : World} {k : Nat} {zs : List Value} (h : Adds P gL off B n pc lcs ov xs mk w k zs wr) (hw : Only [] wr wr') : Adds P gL off B n pc lcs ov xs mk w k zs wr' := by
  obtain ⟨ov', lcs', h1, h2, h3, h4, h5, h6, h7⟩ := h
  exact ⟨ov', lcs', hw.blk h1 (by simp), hw.blk h2 (by simp), h3, h4, hw.own h5 (by simp), h6.trans (hw.mono (by simp)), h7⟩
theorem Adds.step {wr w' : World} {k : Nat} {zs ys : List Value} {ov' : Value} {lcs' : Array Value} {g cap : Nat} (hpc : pc (mk + (k : Int) + 1) = pc (mk + ((k + 1 : Nat) : Int))) (h3 : lcs'[off]? = some ov') (h4 : k = 0 ∧ lcs' = lcs ∧ ov' = ov ∨ lcs' = lcs.setIfInBounds off ov' ∧ 0 < k) (h6 : Only (P :: gL :: ov.ownBlock.toList) w wr)
    (h7 : ov'.ownBlock = ov.ownBlock ∨ ∃ g, ov'.ownBlock = some g ∧ w.heap.size ≤ g) (hA : Added P gL off B (n + k) (pc (mk + (k : Int) + 1)) lcs' ov' ((xs ++ zs) ++ ys) g cap wr w') :
    Adds P gL off B n pc lcs ov xs mk w (k + 1) (zs ++ ys) w' := by
  obtain ⟨a1, a2, a3, a4, a5⟩ := hA
  refine ⟨.slice (some ⟨g, 0, none⟩) (n + k + 1) cap, lcs'.setIfInBounds off (.slice (some ⟨g, 0, none⟩) (n + k + 1) cap), by rw [← hpc]; exact a1, a2, ?_, ?_, ?_, ?_, ?_⟩
  · obtain ⟨h, _⟩ := Array.getElem?_eq_some_iff.1 h3
    simp [h]
  · right
    refine ⟨?_, by omega⟩
    rcases h4 with ⟨_, rfl, _⟩ | ⟨h4, _⟩
    · rfl
    · rw [h4]; simp
  · rw [← List.append_assoc, ← Nat.add_assoc]; exact a3
  · refine h6.then_ a4 ?_
    intro b hb
    simp only [List.mem_cons, Option.mem_toList] at hb ⊢
    rcases hb with rfl | rfl | hb
    · simp
    · simp
    · rcases h7 with h7 | ⟨g', h7, h8⟩
      · left; right; right; rw [← h7]; exact hb
      · right; rw [h7] at hb; cases hb; exact h8
  · rcases a5 with a5 | a5
    · rcases h7 with h7 | ⟨g', h7, h8⟩
      · left; rw [← h7, a5]; rfl
      · right; exact ⟨g', by rw [← h7, a5]; rfl, h8⟩
    · right; exact ⟨g, rfl, Nat.le_trans h6.size a5⟩
theorem Adds.from_ {u wr : World} {k : Nat} {zs : List Value} (h : Adds P gL off B n pc lcs ov xs mk u k zs wr) (hu : Only [] w u) : Adds P gL off B n pc lcs ov xs mk w k zs wr := by
  obtain ⟨ov', lcs', h1, h2, h3, h4, h5, h6, h7⟩ := h
  exact ⟨ov', lcs', h1, h2, h3, h4, h5, (hu.mono (by simp)).trans h6, h7.imp id (fun ⟨g, h8, h9⟩ => ⟨g, h8, Nat.le_trans hu.size h9⟩)⟩
/-- The plotter's own cells turn. -/
theorem Adds.turnP {wr w' : World} {k : Nat} {zs : List Value} {pc' : Int → Array Value} (h : Adds P gL off B n pc lcs ov xs mk w k zs wr) (hP' : Blk w' P 159 (pc' (mk + (k : Int)))) (hw : Only [P] wr w') : Adds P gL off B n pc' lcs ov xs mk w k zs w' := by
  obtain ⟨ov', lcs', h1, h2, h3, h4, h5, h6, h7⟩ := h
  have hne := h1.ne_ h2 (by decide)
  have hno := own_blk_ne h5 h1 (by decide)
  exact ⟨ov', lcs', hP', hw.blk h2 (by simpa using Ne.symm hne), h3, h4, hw.own h5 (fun b hb hm => by simp at hm; subst hm; exact hno hb), h6.trans (hw.mono (by simp)), h7⟩
theorem Adds.one {w' : World} {ys : List Value} {g cap : Nat} (hP : Blk w P 159 (pc mk)) (hL : Blk w gL 162 lcs) (ho : lcs[off]? = some ov) (hov : w.ownsRow B 65 11 ov n xs) (hA : Added P gL off B n (pc (mk + 1)) lcs ov (xs ++ ys) g cap w w') : Adds P gL off B n pc lcs ov xs mk w 1 ys w' := by
  have := Adds.step (k := 0) (zs := []) (pc := pc) (mk := mk) (w := w) (wr := w) (w' := w') (ys := ys) (g := g) (cap := cap) (n := n) (lcs := lcs) (ov := ov) (xs := xs) (lcs' := lcs) (ov' := ov) (by simp) ho (.inl ⟨rfl, rfl, rfl⟩) (Only.refl _ _) (.inl rfl) (by simpa using hA)
  simpa using this
/-- A row that lies apart lies there still. -/
theorem Adds.apart {wr : World} {k : Nat} {zs : List Value} (h : Adds P gL off B n pc lcs ov xs mk w k zs wr) {sv : Value} {ns : Nat} {ys : List Value} (hP : Blk w P 159 (pc mk)) (hL : Blk w gL 162 lcs) (hs : w.ownsRow B 65 11 sv ns ys) (hd : ∀ b, sv.ownBlock = some b → ov.ownBlock ≠ some b) : wr.ownsRow B 65 11 sv ns ys := by
  obtain ⟨ov', lcs', h1, h2, h3, h4, h5, h6, h7⟩ := h
  refine h6.own hs fun b hb hm => ?_
  simp only [List.mem_cons, Option.mem_toList] at hm
  rcases hm with rfl | rfl | hm
  · exact own_blk_ne hs hP (by decide) hb
  · exact own_blk_ne hs hL (by decide) hb
  · exact hd b hb hm
end
end Go.Proofs.YtfajckkbinbpiaaGreatDoor
namespace Go.Proofs.YtfajckkbinbpiaaGreatDoor
open Go.RowKit
set_option linter.unusedVariables false
set_option linter.unusedSimpArgs false

/-- Objects of a block, flashed: each of them moved, its darkness told by the plotter's. -/
def flashed (dk : Bool) (a b : Int) (l : List Ob) : List Ob := l.map fun o => ⟨o.dark == dk, o.x + a, o.y + b⟩
def idxOf : Value → Nat
  | .int _ i => i.toNat
  | _ => 0
set_option maxRecDepth 100000 in
set_option maxHeartbeats 4000000 in
theorem flash_blk (P M gL capL B n : Nat) (mk bud a b code : Int) (dk : Bool) {v0 v1 v2 v3 v4 v5 v8 v9 v10 v11 v12 v20 v24 : Value} {ov : Value} {lcs : Array Value} {xs : List Value} (po : Option Addr) (no co : Nat) (L : List Ob) (es : Array MapEntry) (clk : Nat) (w : World)
    (hP : Blk w P 159 #[v0, v1, v2, v3, v4, v5, .map (some M), .int .i64 code, v8, v9, v10, v11, v12, .bool dk, .bool false, .bool false, .int .i64 0, .int .i64 0, .int .i64 0, .bool false, v20, .slice (some ⟨gL, 0, none⟩) 1 capL, .int .i64 mk, .int .i64 bud, v24]) (hM : IsMap w M es clk) (hf : (Instr.findNow (.int .i64) (.int .i64 code) es.toList 0).map (fun r => r.map (·.2)) = some (some (.agg #[.int .i64 0, .int .i64 0, .int .i64 0, .int .i64 0, .int .i64 0, .int .i64 0, .int .i64 0, .int .i64 0, .slice none 0 0, .slice none 0 0, .int .i64 0, .bool false, .bool true, .slice po no co]))) (hL : Blk w gL 162 lcs) (ho : lcs[6]? = some ov) (hov : w.ownsRow B 65 11 ov n xs)
    (hs : w.ownsRow B 65 11 (.slice po no co) L.length (ocells L)) (hd : ∀ q, (Value.slice po no co).ownBlock = some q → ov.ownBlock ≠ some q) (hm0 : 0 ≤ mk) (hm1 : mk + (L.length : Int) ≤ bud) (hm2 : bud ≤ 100000) (hn : n + L.length ≤ 100000) (hB : B ≤ w.heap.size) (a0 : 0 ≤ a) (a1 : a ≤ 240000000) (b0 : 0 ≤ b) (b1 : b ≤ 240000000)
    (hb : ∀ o ∈ L, (0 ≤ o.x ∧ o.x ≤ 4095000) ∧ (0 ≤ o.y ∧ o.y ≤ 4095000)) :
    Calls Tryz.prog 165 #[.pointer (some ⟨P, 0, none⟩), .agg #[.int .i64 a, .int .i64 b]] w fun e w' => e = .returned (.int .i64 0) ∧ Adds P gL 6 B n (fun m => #[v0, v1, v2, v3, v4, v5, .map (some M), .int .i64 code, v8, v9, v10, v11, v12, .bool dk, .bool false, .bool false, .int .i64 0, .int .i64 0, .int .i64 0, .bool false, v20, .slice (some ⟨gL, 0, none⟩) 1 capL, .int .i64 m, .int .i64 bud, v24]) lcs ov xs mk w L.length (ocells (flashed dk a b L)) w' := by
  have l := hP.lt
  have lM := hM.lt
  have lL := hL.lt
  have c := hP.cell
  have f := hP.frozen
  have hl : ∀ w', w'.heap[M]? = some (.map es clk) → (Instr.lookup 151 (.map (some M)) (.int .i64 code) true).run Tryz.prog w' = .ok (.tuple #[.agg #[.int .i64 0, .int .i64 0, .int .i64 0, .int .i64 0, .int .i64 0, .int .i64 0, .int .i64 0, .int .i64 0, .slice none 0 0, .slice none 0 0, .int .i64 0, .bool false, .bool true, .slice po no co], .bool true]) w' := fun w' hm => look_run w' hm code (.agg #[.int .i64 0, .int .i64 0, .int .i64 0, .int .i64 0, .int .i64 0, .int .i64 0, .int .i64 0, .int .i64 0, .slice none 0 0, .slice none 0 0, .int .i64 0, .bool false, .bool true, .slice po no co], true) hf (fun h => by cases h)
  have hst := Adds.start (P := P) (gL := gL) (off := 6) (B := B) (n := n) (pc := (fun m => #[v0, v1, v2, v3, v4, v5, .map (some M), .int .i64 code, v8, v9, v10, v11, v12, .bool dk, .bool false, .bool false, .int .i64 0, .int .i64 0, .int .i64 0, .bool false, v20, .slice (some ⟨gL, 0, none⟩) 1 capL, .int .i64 m, .int .i64 bud, v24])) (lcs := lcs) (ov := ov) (xs := xs) (mk := mk) hP hL ho hov
  have hno : no = L.length := (own_cap hs).1
  have HP := Lib.hid hP
  have HL := Lib.hid hL
  have HST := Lib.hid hst
  have HS := Lib.hid hs
  have HD := Lib.hid hd
  have HB := Lib.hid hB
  have HBD := Lib.hid hb
  rw [← hno] at hm1 hn ⊢
  have HNO := Lib.hid hno
  clear hP hL ho hov hB hf hst hs hd hb hno
  go_enter Tryz.func165, Tryz.ntmps165
  go_wp2_with fail
  have hl1 := hl _ ((hM.alloc (.cells #[.int .i64 a, .int .i64 b] 58)).drew)
  have hl2 := hl _ (((hM.alloc (.cells #[.int .i64 a, .int .i64 b] 58)).alloc (.cells #[.int .i64 0, .int .i64 0, .int .i64 0, .int .i64 0, .int .i64 0, .int .i64 0, .int .i64 0, .int .i64 0, .slice none 0 0, .slice none 0 0, .int .i64 0, .bool false, .bool false, .slice none 0 0] 280)).drew)
  clear hl
  go_region
  all_goals
    go_wp2_with fail
    obtain ⟨u, eu⟩ : ∃ u, (((w.alloc (.cells #[.int .i64 a, .int .i64 b] 58)).alloc (.cells #[.int .i64 0, .int .i64 0, .int .i64 0, .int .i64 0, .int .i64 0, .int .i64 0, .int .i64 0, .int .i64 0, .slice none 0 0, .slice none 0 0, .int .i64 0, .bool false, .bool true, .slice po no co] 280)).alloc (.cells #[.bool false, .bool false, .int .i64 0, .int .i64 a, .int .i64 b] 157)).drew = u := ⟨_, rfl⟩
    have u5 : Blk u (w.heap.size + 1 + 1) 157 #[.bool false, .bool false, .int .i64 0, .int .i64 a, .int .i64 b] := by rw [← eu]; exact (Blk.newAt (by simp)).drew
    have u6 : Only [] w u := by rw [← eu]; exact ((((Only.refl _ _).alloc _).alloc _).alloc _).drew
    have HA0 := Lib.hid (HST.out.only u6)
    have HU5 := Lib.hid u5
    have HU6 := Lib.hid u6
    rw [eu]
    clear hl1 hl2 eu u5 u6 c f
    go_loopw [52] (fun i wr => ∃ k : Nat, i = .int .i64 (k : Int) ∧ k ≤ no ∧ Adds P gL 6 B n (fun m => #[v0, v1, v2, v3, v4, v5, .map (some M), .int .i64 code, v8, v9, v10, v11, v12, .bool dk, .bool false, .bool false, .int .i64 0, .int .i64 0, .int .i64 0, .bool false, v20, .slice (some ⟨gL, 0, none⟩) 1 capL, .int .i64 m, .int .i64 bud, v24]) lcs ov xs mk w k (ocells (flashed dk a b (L.take k))) wr ∧ Blk wr (w.heap.size + 1 + 1) 157 #[.bool false, .bool false, .int .i64 0, .int .i64 a, .int .i64 b]) (fun i wr => no - idxOf i)
    case atStart => exact ⟨0, rfl, Nat.zero_le _, by simpa [flashed, ocells] using HA0.out, HU5.out⟩
    case round =>
    obtain ⟨k, rfl, hk, hA, hT⟩ := hrel
    have HA := Lib.hid hA
    have HT := Lib.hid hT
    clear hA hT HA0 HU5 HU6
    by_cases hlt : k < no
    · obtain ⟨o, eo⟩ : ∃ o, L[k]'(by have := HNO.out; omega) = o := ⟨_, rfl⟩
      have hsr := HA.out.apart HP.out HL.out HS.out HD.out
      have ho := HBD.out o (by rw [← eo]; exact List.getElem_mem _)
      have hkL : k < L.length := by have := HNO.out; omega
      obtain ⟨gs, cap0, he, _, hgs⟩ := hsr.form (by omega)
      simp only [Value.slice.injEq] at he
      obtain ⟨hpo, hno', hco⟩ := he
      subst hpo hco
      clear hno'
      have hq : ∀ j v, j < 11 → o.cells[j]? = some v → wr.cell? ⟨gs, k * 11 + j, none⟩ = some v := fun j v hj hv => by
        have h1 := hsr
        rw [← HNO.out] at h1
        rw [h1.cellAt (k * 11 + j) (by omega), ocells_at L k hkL j hj, eo, hv]
      have q0 := hq 0 (.bool o.dark) (by omega) rfl
      have q1 := hq 1 (.int .i64 1) (by omega) rfl
      have q2 := hq 2 (.int .i64 o.x) (by omega) rfl
      have q3 := hq 3 (.int .i64 o.y) (by omega) rfl
      have q4 := hq 4 (.int .i64 0) (by omega) rfl
      have q5 := hq 5 (.int .i64 0) (by omega) rfl
      have q6 := hq 6 (.int .i64 0) (by omega) rfl
      have q7 := hq 7 (.int .i64 0) (by omega) rfl
      have q8 := hq 8 (.int .i64 2500000) (by omega) rfl
      have q9 := hq 9 (.slice none 0 0) (by omega) rfl
      have q10 := hq 10 (.slice none 0 0) (by omega) rfl
      simp only [Nat.add_zero] at q0
      obtain ⟨ov', lcs', h1, h2, h3, h4, h5, h6, h7⟩ := HA.out
      obtain ⟨u, eu⟩ : ∃ u, wr.alloc (.cells #[.bool o.dark, .int .i64 1, .int .i64 o.x, .int .i64 o.y, .int .i64 0, .int .i64 0, .int .i64 0, .int .i64 0, .int .i64 2500000, .slice none 0 0, .slice none 0 0] 65) = u := ⟨_, rfl⟩
      have hT := addT_1 P gL capL B (n + k) (mk + (k : Int)) bud o.x o.y a b (o.dark == dk) u.drew (eu ▸ (h1.alloc _).drew) (eu ▸ (h2.alloc _).drew) h3 (eu ▸ (h5.alloc _).drew) (by omega) (by omega) hm2 (by omega) (by have h1 := HB.out; have h2 := h6.size; rw [← eu]; simp; omega) (by omega) (by omega) (by omega) (by omega) a0 (by omega) b0 (by omega)
      have HTT := Lib.hid hT
      have c := h1.cell
      have f := h1.frozen
      have lP := h1.lt
      have cT := HT.out.cell
      have lT := HT.out.lt
      have H3 := Lib.hid h3
      have H4 := Lib.hid h4
      have H6 := Lib.hid h6
      have H7 := Lib.hid h7
      have htake : L.take (k + 1) = L.take k ++ [o] := by rw [List.take_succ_eq_append_getElem hkL, eo]
      have HTK := Lib.hid htake
      have hP4 := h1.ne_ HT.out (by decide)
      have hL4 := h2.ne_ HT.out (by decide)
      have hov4 := own_blk_ne h5 HT.out (by decide)
      have HN4 := Lib.hid hov4
      have n1 : Blk u P 159 #[v0, v1, v2, v3, v4, v5, .map (some M), .int .i64 code, v8, v9, v10, v11, v12, .bool dk, .bool false, .bool false, .int .i64 0, .int .i64 0, .int .i64 0, .bool false, v20, .slice (some ⟨gL, 0, none⟩) 1 capL, .int .i64 (mk + (k : Int)), .int .i64 bud, v24] := by rw [← eu]; exact h1.alloc _
      have n2 : Blk u wr.heap.size 65 #[.bool o.dark, .int .i64 1, .int .i64 o.x, .int .i64 o.y, .int .i64 0, .int .i64 0, .int .i64 0, .int .i64 0, .int .i64 2500000, .slice none 0 0, .slice none 0 0] := by rw [← eu]; exact Blk.new _ _ _
      have n3 : Blk u (w.heap.size + 1 + 1) 157 #[.bool false, .bool false, .int .i64 0, .int .i64 a, .int .i64 b] := by rw [← eu]; exact HT.out.alloc _
      have hU : Only [] wr u := by rw [← eu]; exact (Only.refl _ _).alloc _
      have HU := Lib.hid hU
      have HEU := Lib.hid eu
      clear hsr hq hT h1 h2 h3 h4 h5 h6 h7 htake eo ho hov4 hU eu
      go_wp2_with fail
      rw [HEU.out]
      have c := n1.cell
      have f := n1.frozen
      have lP := n1.lt
      have cT := n3.cell
      have lT := n3.lt
      have c2 := n2.cell
      have l2 := n2.lt
      clear n1 n2 n3
      go_still_tail 11, (by kernel_rfl)
      change wpList _ _ _ _ _ u.drew
      go_wp2_with (go_at_call 168; refine (HTT.out).mono ?_; rintro e w3 ⟨g, cap, rfl, hAd⟩)
      have hAd2 := hAd.from (HU.out.drew)
      have hT3 : Blk w3 (w.heap.size + 1 + 1) 157 #[.bool false, .bool false, .int .i64 0, .int .i64 a, .int .i64 b] := hAd2.2.2.2.1.blk HT.out (by
        intro hm
        simp only [List.mem_cons, Option.mem_toList] at hm
        rcases hm with h | h | h
        · exact hP4 h.symm
        · exact hL4 h.symm
        · exact HN4.out h)
      have hst := Adds.step (pc := (fun m => #[v0, v1, v2, v3, v4, v5, .map (some M), .int .i64 code, v8, v9, v10, v11, v12, .bool dk, .bool false, .bool false, .int .i64 0, .int .i64 0, .int .i64 0, .bool false, v20, .slice (some ⟨gL, 0, none⟩) 1 capL, .int .i64 m, .int .i64 bud, v24])) (by simp only [show mk + (k : Int) + 1 = mk + ((k + 1 : Nat) : Int) by omega]) H3.out H4.out H6.out H7.out hAd2
      have HT3 := Lib.hid hT3
      have HST2 := Lib.hid hst
      clear hAd hAd2 hT3 hst
      go_wp2_with fail
      go_roundw
      case rel =>
        have hr2 : ∃ k' : Nat, Value.int .i64 ((k : Int) + 1) = .int .i64 (k' : Int) ∧ k' ≤ no ∧ Adds P gL 6 B n (fun m => #[v0, v1, v2, v3, v4, v5, .map (some M), .int .i64 code, v8, v9, v10, v11, v12, .bool dk, .bool false, .bool false, .int .i64 0, .int .i64 0, .int .i64 0, .bool false, v20, .slice (some ⟨gL, 0, none⟩) 1 capL, .int .i64 m, .int .i64 bud, v24]) lcs ov xs mk w k' (ocells (flashed dk a b (L.take k'))) w3 ∧ Blk w3 (w.heap.size + 1 + 1) 157 #[.bool false, .bool false, .int .i64 0, .int .i64 a, .int .i64 b] := by
          refine ⟨k + 1, by go_num, by omega, ?_, HT3.out⟩
          have h8 := HST2.out
          rw [HTK.out]
          simpa [flashed, ocells_append, ocells_one, Ob.cells] using h8
        first | exact hr2 | ((repeat apply Exists.intro); exact ⟨hr2, rfl⟩)
      case measure => simp [idxOf]; omega
    · have hkn : k = no := by omega
      subst hkn
      go_wp2_with fail
      go_ret
      have h1 := HA.out
      rw [List.take_of_length_le (by have := HNO.out; omega)] at h1
      exact ⟨rfl, h1⟩
end Go.Proofs.YtfajckkbinbpiaaGreatDoor
