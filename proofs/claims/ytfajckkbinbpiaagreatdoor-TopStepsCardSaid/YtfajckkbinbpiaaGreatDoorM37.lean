/- A plotter's state behind a command. -/
import Derived.Test.YtfajckkbinbpiaaGreatDoorM33
import Derived.Test.YtfajckkbinbpiaaGreatDoorM35
import Derived.Test.YtfajckkbinbpiaaGreatDoorM36
namespace Go.Proofs.YtfajckkbinbpiaaGreatDoor
open Go.RowKit
set_option linter.unusedVariables false
set_option linter.unusedSimpArgs false

set_option maxRecDepth 100000 in
set_option maxHeartbeats 4000000 in
theorem inv_fs (B P M : Nat) (s : St) (w : World) (B' : Nat) (A : Int) (nv : Value) (hI : Inv B P M 1000 s w) (hm : s.may (Gr.fs)) (hn : Numz w B' nv (Gr.fs).nums) :
    Calls Tryz.prog 63 #[.pointer (some ⟨P, 0, none⟩), .agg ((Gr.fs).cells A nv).toArray] w fun e w' => e = .returned (.int .i64 0) ∧ (Inv B P M 1000 (s.act (Gr.fs)) w' ∧ Below B w w') := by
  obtain ⟨gL, capL, lcs, v0, h⟩ := hI
  have hnv := hn.2 rfl
  subst hnv
  subst hm
  have hb0 := h.blk
  unfold pcellsOf at hb0
  simp only [St.start, fmtI, nLev, Option.isSome, if_true, if_false, Bool.false_eq_true, Int.natCast_zero] at hb0
  refine do_8 P A 2 4 false (bs []) (bs []) (bs []) (bs []) none 0 0 w _ hb0 ?_
  have hb := (h.alloc (.cells #[.int .i64 A, .int .i64 8, .int .i64 2, .int .i64 4, .bool false, .string { data := #[] }, .string { data := #[] }, .string { data := #[] }, .string { data := #[] }, .string { data := #[] }, .slice none 0 0, .slice none 0 0] 103)).blk
  unfold pcellsOf at hb
  simp only [St.start, fmtI, nLev, Option.isSome, if_true, if_false, Bool.false_eq_true, Int.natCast_zero] at hb
  refine (define_fs P A _ _ _ _ _ hb).mono ?_
  rintro e w' ⟨rfl, k, o⟩
  exact ⟨rfl, ⟨gL, capL, lcs, v0, (h.alloc _).turnP k o rfl rfl rfl rfl rfl⟩, (((Only.refl [P] w).alloc _).trans o).toBelow h.BW (by simpa using h.PB)⟩
set_option maxRecDepth 100000 in
set_option maxHeartbeats 4000000 in
theorem inv_mo (B P M : Nat) (s : St) (w : World) (B' : Nat) (A : Int) (nv : Value) (hI : Inv B P M 1000 s w) (hm : s.may (Gr.mo)) (hn : Numz w B' nv (Gr.mo).nums) :
    Calls Tryz.prog 63 #[.pointer (some ⟨P, 0, none⟩), .agg ((Gr.mo).cells A nv).toArray] w fun e w' => e = .returned (.int .i64 0) ∧ (Inv B P M 1000 (s.act (Gr.mo)) w' ∧ Below B w w') := by
  obtain ⟨gL, capL, lcs, v0, h⟩ := hI
  have hnv := hn.2 rfl
  subst hnv
  subst hm
  have hb0 := h.blk
  unfold pcellsOf at hb0
  simp only [St.start, fmtI, nLev, Option.isSome, if_true, if_false, Bool.false_eq_true, Int.natCast_zero] at hb0
  refine do_9 P A 1 0 false (bs []) (bs []) (bs []) (bs []) none 0 0 w _ hb0 ?_
  have hb := (h.alloc (.cells #[.int .i64 A, .int .i64 9, .int .i64 1, .int .i64 0, .bool false, .string { data := #[] }, .string { data := #[] }, .string { data := #[] }, .string { data := #[] }, .string { data := #[] }, .slice none 0 0, .slice none 0 0] 103)).blk
  unfold pcellsOf at hb
  simp only [St.start, fmtI, nLev, Option.isSome, if_true, if_false, Bool.false_eq_true, Int.natCast_zero] at hb
  refine (define_mo P A _ hb).mono ?_
  rintro e w' ⟨rfl, k, o⟩
  exact ⟨rfl, ⟨gL, capL, lcs, v0, (h.alloc _).turnP k o rfl rfl rfl rfl rfl⟩, (((Only.refl [P] w).alloc _).trans o).toBelow h.BW (by simpa using h.PB)⟩
set_option maxRecDepth 100000 in
set_option maxHeartbeats 4000000 in
theorem inv_lpc (B P M : Nat) (s : St) (w : World) (B' : Nat) (A : Int) (nv : Value) (hI : Inv B P M 1000 s w) (hm : s.may (Gr.lpc)) (hn : Numz w B' nv (Gr.lpc).nums) :
    Calls Tryz.prog 63 #[.pointer (some ⟨P, 0, none⟩), .agg ((Gr.lpc).cells A nv).toArray] w fun e w' => e = .returned (.int .i64 0) ∧ (Inv B P M 1000 (s.act (Gr.lpc)) w' ∧ Below B w w') := by
  obtain ⟨gL, capL, lcs, v0, h⟩ := hI
  have hnv := hn.2 rfl
  subst hnv
  obtain ⟨u, fm, a1, pick, x, y, dk, bk, lv, base, md, en⟩ := s
  simp only [St.may] at hm
  obtain ⟨⟨rfl, rfl, rfl, rfl⟩, hm⟩ := hm
  have hb0 := h.blk
  unfold pcellsOf at hb0
  simp only [St.start, fmtI, nLev, Option.isSome, if_true, if_false, Bool.false_eq_true, Int.natCast_zero] at hb0
  refine do_15 P A 0 0 false (bs []) (bs []) (bs []) (bs []) none 0 0 w _ hb0 ?_
  have hb := (h.alloc (.cells #[.int .i64 A, .int .i64 15, .int .i64 0, .int .i64 0, .bool false, .string { data := #[] }, .string { data := #[] }, .string { data := #[] }, .string { data := #[] }, .string { data := #[] }, .slice none 0 0, .slice none 0 0] 103)).blk
  unfold pcellsOf at hb
  simp only [St.start, fmtI, nLev, Option.isSome, if_true, if_false, Bool.false_eq_true, Int.natCast_zero] at hb
  refine (set_pol P A false _ _ hb).mono ?_
  rintro e w' ⟨rfl, k, o⟩
  exact ⟨rfl, ⟨gL, capL, lcs, v0, (h.alloc _).turnP k o rfl rfl rfl rfl rfl⟩, (((Only.refl [P] w).alloc _).trans o).toBelow h.BW (by simpa using h.PB)⟩
set_option maxRecDepth 100000 in
set_option maxHeartbeats 4000000 in
theorem inv_lpd (B P M : Nat) (s : St) (w : World) (B' : Nat) (A : Int) (nv : Value) (hI : Inv B P M 1000 s w) (hm : s.may (Gr.lpd)) (hn : Numz w B' nv (Gr.lpd).nums) :
    Calls Tryz.prog 63 #[.pointer (some ⟨P, 0, none⟩), .agg ((Gr.lpd).cells A nv).toArray] w fun e w' => e = .returned (.int .i64 0) ∧ (Inv B P M 1000 (s.act (Gr.lpd)) w' ∧ Below B w w') := by
  obtain ⟨gL, capL, lcs, v0, h⟩ := hI
  have hnv := hn.2 rfl
  subst hnv
  obtain ⟨u, fm, a1, pick, x, y, dk, bk, lv, base, md, en⟩ := s
  simp only [St.may] at hm
  obtain ⟨⟨rfl, rfl, rfl, rfl⟩, hm⟩ := hm
  have hb0 := h.blk
  unfold pcellsOf at hb0
  simp only [St.start, fmtI, nLev, Option.isSome, if_true, if_false, Bool.false_eq_true, Int.natCast_zero] at hb0
  refine do_15 P A 0 0 true (bs []) (bs []) (bs []) (bs []) none 0 0 w _ hb0 ?_
  have hb := (h.alloc (.cells #[.int .i64 A, .int .i64 15, .int .i64 0, .int .i64 0, .bool true, .string { data := #[] }, .string { data := #[] }, .string { data := #[] }, .string { data := #[] }, .string { data := #[] }, .slice none 0 0, .slice none 0 0] 103)).blk
  unfold pcellsOf at hb
  simp only [St.start, fmtI, nLev, Option.isSome, if_true, if_false, Bool.false_eq_true, Int.natCast_zero] at hb
  refine (set_pol P A true _ _ hb).mono ?_
  rintro e w' ⟨rfl, k, o⟩
  exact ⟨rfl, ⟨gL, capL, lcs, v0, (h.alloc _).turnP k o rfl rfl rfl rfl rfl⟩, (((Only.refl [P] w).alloc _).trans o).toBelow h.BW (by simpa using h.PB)⟩
set_option maxRecDepth 100000 in
set_option maxHeartbeats 4000000 in
theorem inv_d10 (B P M : Nat) (s : St) (w : World) (B' : Nat) (A : Int) (nv : Value) (hI : Inv B P M 1000 s w) (hm : s.may (Gr.d10)) (hn : Numz w B' nv (Gr.d10).nums) :
    Calls Tryz.prog 63 #[.pointer (some ⟨P, 0, none⟩), .agg ((Gr.d10).cells A nv).toArray] w fun e w' => e = .returned (.int .i64 0) ∧ (Inv B P M 1000 (s.act (Gr.d10)) w' ∧ Below B w w') := by
  obtain ⟨gL, capL, lcs, v0, h⟩ := hI
  have hnv := hn.2 rfl
  subst hnv
  subst hm
  have hmp : IsMap w M #[entry10] 1 := h.map
  have hb0 := h.blk
  unfold pcellsOf at hb0
  simp only [St.start, fmtI, nLev, Option.isSome, if_true, if_false, Bool.false_eq_true, Int.natCast_zero] at hb0
  refine do_6 P A 10 0 false (bs []) (bs []) (bs []) (bs []) none 0 0 w _ hb0 ?_
  have hb := (h.alloc (.cells #[.int .i64 A, .int .i64 6, .int .i64 10, .int .i64 0, .bool false, .string { data := #[] }, .string { data := #[] }, .string { data := #[] }, .string { data := #[] }, .string { data := #[] }, .slice none 0 0, .slice none 0 0] 103)).blk
  unfold pcellsOf at hb
  simp only [St.start, fmtI, nLev, Option.isSome, if_true, if_false, Bool.false_eq_true, Int.natCast_zero] at hb
  refine (set_pick P M A 10 _ 1 2500000 2500000 true false none none 0 0 0 0 #[entry10] 1 _ hb (hmp.alloc _) rfl).mono ?_
  rintro e w' ⟨rfl, k, o⟩
  exact ⟨rfl, ⟨gL, capL, lcs, v0, (h.alloc _).turnP k o rfl rfl rfl rfl rfl⟩, (((Only.refl [P] w).alloc _).trans o).toBelow h.BW (by simpa using h.PB)⟩
set_option maxRecDepth 100000 in
set_option maxHeartbeats 4000000 in
theorem inv_d20 (B P M : Nat) (s : St) (w : World) (B' : Nat) (A : Int) (nv : Value) (hI : Inv B P M 1000 s w) (hm : s.may (Gr.d20)) (hn : Numz w B' nv (Gr.d20).nums) :
    Calls Tryz.prog 63 #[.pointer (some ⟨P, 0, none⟩), .agg ((Gr.d20).cells A nv).toArray] w fun e w' => e = .returned (.int .i64 0) ∧ (Inv B P M 1000 (s.act (Gr.d20)) w' ∧ Below B w w') := by
  obtain ⟨gL, capL, lcs, v0, h⟩ := hI
  have hnv := hn.2 rfl
  subst hnv
  obtain ⟨u, fm, a1, pick, x, y, dk, bk, lv, base, md, en⟩ := s
  simp only [St.may] at hm
  obtain ⟨⟨rfl, rfl, rfl, rfl⟩, hm⟩ := hm
  cases bk with
  | none => cases hm
  | some l =>
  obtain ⟨_, v, hmp, hvo, hvd⟩ := h.map
  obtain ⟨vp, vc, rfl⟩ := own_form hvo
  obtain ⟨vn, evn⟩ : ∃ x, l.length = x := ⟨_, rfl⟩
  have hmp : IsMap w M #[entry10, entry20 (.slice vp l.length vc)] 2 := hmp
  rw [evn] at hmp
  have hb0 := h.blk
  unfold pcellsOf at hb0
  simp only [St.start, fmtI, nLev, Option.isSome, if_true, if_false, Bool.false_eq_true, Int.natCast_zero] at hb0
  refine do_6 P A 20 0 false (bs []) (bs []) (bs []) (bs []) none 0 0 w _ hb0 ?_
  have hb := (h.alloc (.cells #[.int .i64 A, .int .i64 6, .int .i64 20, .int .i64 0, .bool false, .string { data := #[] }, .string { data := #[] }, .string { data := #[] }, .string { data := #[] }, .string { data := #[] }, .slice none 0 0, .slice none 0 0] 103)).blk
  unfold pcellsOf at hb
  simp only [St.start, fmtI, nLev, Option.isSome, if_true, if_false, Bool.false_eq_true, Int.natCast_zero] at hb
  refine (set_pick P M A 20 _ 0 0 0 false true none vp 0 0 vn vc #[entry10, entry20 (.slice vp vn vc)] 2 _ hb (hmp.alloc _) rfl).mono ?_
  rintro e w' ⟨rfl, k, o⟩
  exact ⟨rfl, ⟨gL, capL, lcs, v0, (h.alloc _).turnP k o rfl rfl rfl rfl rfl⟩, (((Only.refl [P] w).alloc _).trans o).toBelow h.BW (by simpa using h.PB)⟩
set_option maxRecDepth 100000 in
set_option maxHeartbeats 4000000 in
theorem inv_op2 (B P M : Nat) (s : St) (w : World) (B' : Nat) (A : Int) (nv : Value) (a b : List UInt8) (hI : Inv B P M 1000 s w) (hm : s.may (Gr.op2 a b)) (ho : (Gr.op2 a b).Ok) (hn : Numz w B' nv (Gr.op2 a b).nums) :
    Calls Tryz.prog 63 #[.pointer (some ⟨P, 0, none⟩), .agg ((Gr.op2 a b).cells A nv).toArray] w fun e w' => e = .returned (.int .i64 0) ∧ (Inv B P M 1000 (s.act (Gr.op2 a b)) w' ∧ Below B w w') := by
  obtain ⟨gL, capL, lcs, v0, h⟩ := hI
  have hnv := hn.2 rfl
  subst hnv
  obtain ⟨u, fm, a1, pick, x, y, dk, bk, lv, base, md, en⟩ := s
  simp only [St.may] at hm
  obtain ⟨⟨rfl, rfl, rfl, rfl⟩, hm⟩ := hm
  have hb0 := h.blk
  unfold pcellsOf at hb0
  simp only [St.start, fmtI, nLev, Option.isSome, if_true, if_false, Bool.false_eq_true, Int.natCast_zero] at hb0
  refine do_7 P A 2 0 false (bs []) (bs a) (bs b) (bs []) none 0 0 w _ hb0 ?_
  have hb := (h.alloc (.cells #[.int .i64 A, .int .i64 7, .int .i64 2, .int .i64 0, .bool false, .string { data := #[] }, .string (bs a), .string (bs b), .string { data := #[] }, .string { data := #[] }, .slice none 0 0, .slice none 0 0] 103)).blk
  unfold pcellsOf at hb
  simp only [St.start, fmtI, nLev, Option.isSome, if_true, if_false, Bool.false_eq_true, Int.natCast_zero] at hb
  refine (operate_2 P A x y a b _ hb ho.1.1 ho.1.2.1 ho.1.2.2.1 ho.1.2.2.2 ho.2.1 ho.2.2.1 ho.2.2.2.1 ho.2.2.2.2).mono ?_
  rintro e w' ⟨rfl, k, o⟩
  exact ⟨rfl, ⟨gL, capL, lcs, v0, (h.alloc _).turnP k o rfl rfl rfl rfl rfl⟩, (((Only.refl [P] w).alloc _).trans o).toBelow h.BW (by simpa using h.PB)⟩
set_option maxRecDepth 100000 in
set_option maxHeartbeats 4000000 in
theorem inv_m02 (B P M : Nat) (s : St) (w : World) (B' : Nat) (A : Int) (nv : Value) (hI : Inv B P M 1000 s w) (hm : s.may (Gr.m02)) (hn : Numz w B' nv (Gr.m02).nums) :
    Calls Tryz.prog 63 #[.pointer (some ⟨P, 0, none⟩), .agg ((Gr.m02).cells A nv).toArray] w fun e w' => e = .returned (.int .i64 0) ∧ (Inv B P M 1000 (s.act (Gr.m02)) w' ∧ Below B w w') := by
  obtain ⟨gL, capL, lcs, v0, h⟩ := hI
  have hnv := hn.2 rfl
  subst hnv
  obtain ⟨u, fm, a1, pick, x, y, dk, bk, lv, base, md, en⟩ := s
  simp only [St.may] at hm
  obtain ⟨⟨rfl, rfl, rfl, rfl⟩, hm⟩ := hm
  subst hm
  have hb0 := h.blk
  unfold pcellsOf at hb0
  simp only [St.start, fmtI, nLev, Option.isSome, if_true, if_false, Bool.false_eq_true, Int.natCast_zero] at hb0
  refine (do_5 P A 0 0 false (bs []) (bs []) (bs []) (bs []) none 0 0 gL capL w hb0).mono ?_
  rintro e w' ⟨rfl, k, o⟩
  exact ⟨rfl, ⟨gL, capL, lcs, v0, h.turnP k o rfl rfl rfl rfl rfl⟩, o.toBelow h.BW (by simpa using h.PB)⟩
set_option maxRecDepth 100000 in
set_option maxHeartbeats 4000000 in
theorem inv_adc (B P M : Nat) (s : St) (w : World) (B' : Nat) (A : Int) (nv : Value) (hI : Inv B P M 1000 s w) (hm : s.may (Gr.adc)) (hn : Numz w B' nv (Gr.adc).nums) :
    Calls Tryz.prog 63 #[.pointer (some ⟨P, 0, none⟩), .agg ((Gr.adc).cells A nv).toArray] w fun e w' => e = .returned (.int .i64 0) ∧ (Inv B P M 1000 (s.act (Gr.adc)) w' ∧ Below B w w') := by
  obtain ⟨gL, capL, lcs, v0, h⟩ := hI
  subst hm
  obtain ⟨gn, cn, rfl, _, hgn⟩ := World.ownsRow.form hn.1 (by decide)
  have hc : w.cell? ⟨gn, 0, none⟩ = some (.int .i64 500000) := by
    have := hn.1.cellAt 0 (by decide)
    simpa [Gr.nums] using this
  have hmp : IsMap w M #[] 0 := h.map
  have hb0 := h.blk
  unfold pcellsOf at hb0
  simp only [St.start, fmtI, nLev, Option.isSome, if_true, if_false, Bool.false_eq_true, Int.natCast_zero] at hb0
  have hPM := hmp.blk_ne hb0
  have hLM := hmp.blk_ne h.lv
  refine do_10 P A 10 0 false (bs [67]) (bs []) (bs []) (bs []) (some ⟨gn, 0, none⟩) 1 cn w _ hb0 ?_
  have hb := (h.alloc (.cells #[.int .i64 A, .int .i64 10, .int .i64 10, .int .i64 0, .bool false, .string (bs [67]), .string { data := #[] }, .string { data := #[] }, .string { data := #[] }, .string { data := #[] }, .slice (some ⟨gn, 0, none⟩) 1 cn, .slice none 0 0] 103)).blk
  unfold pcellsOf at hb
  simp only [St.start, fmtI, nLev, Option.isSome, if_true, if_false, Bool.false_eq_true, Int.natCast_zero] at hb
  refine (define_adc P M gL capL gn cn A _ hb (hmp.alloc _) h.cap ?_ ?_).mono ?_
  · rw [World.cell?_alloc_lt _ _ _ hgn]; exact hc
  · simp; omega
  rintro e w' ⟨rfl, m, o⟩
  have o2 : Only [M] w w' := ((Only.refl [M] w).alloc _).trans o
  refine ⟨rfl, ⟨gL, capL, lcs, v0, ?_⟩, o2.toBelow h.BW (by simpa using h.MB)⟩
  exact ⟨o2.blk h.blk (by simpa using Ne.symm hPM), o2.blk h.lv (by simpa using Ne.symm hLM), h.sz, h.cap, h.mx, h.gB, h.h7, o2.own h.own (fun b hbq hq => own_map_ne h.own hmp (by simp at hq; rw [← hq]; exact hbq)), h.nil, trivial, m, h.PB, h.MB, Nat.le_trans h.BW o2.size⟩

theorem take_set6 {lcs : Array Value} {l : List Value} {v v' : Value} (h : lcs.toList.take 7 = l ++ [v]) (hl : l.length = 6) : (lcs.setIfInBounds 6 v').toList.take 7 = l ++ [v'] := by
  rw [Array.toList_setIfInBounds, List.take_set, h, ← hl, List.set_append_right _ _ (Nat.le_refl _)]
  simp
theorem inv_adds6 {B P M : Nat} {bud : Int} {s s' : St} {w w' : World} {gL capL k : Nat} {lcs : Array Value} {v0 : Value} {pc : Int → Array Value} {zs : List Ob} (h : InvAt B P M bud s w gL capL lcs v0)
    (hA : Adds P gL 6 B s.base.length pc lcs v0 (ocells s.base) (s.made : Int) w k (ocells zs) w') (hk : k = zs.length) (hpc : pc ((s.made : Int) + (k : Int)) = pcellsOf s' M (.slice (some ⟨gL, 0, none⟩) 1 capL) bud)
    (e1 : s'.lev = none) (e2 : s'.base = s.base ++ zs) (e3 : s'.a10 = s.a10) (e4 : s'.blk = s.blk) (e5 : s'.made = s.made + k) : Inv B P M bud s' w' ∧ Below B w w' := by
  obtain ⟨ov', lcs', a1, a2, a3, a4, a5, a6, a7⟩ := hA
  obtain ⟨es, clk, hm⟩ := h.isMap
  have hMP := hm.blk_ne h.blk
  have hML := hm.blk_ne h.lv
  have hMo := own_map_ne h.own hm
  have hnotM : M ∉ P :: gL :: v0.ownBlock.toList := by
    simp only [List.mem_cons, Option.mem_toList, not_or]
    exact ⟨hMP, hML, hMo⟩
  have hB : Below B w w' := a6.toBelow h.BW (by
    intro b hb
    simp only [List.mem_cons, Option.mem_toList] at hb
    rcases hb with rfl | rfl | hb
    · exact h.PB
    · exact h.gB
    · exact own_ge h.own hb)
  refine ⟨⟨gL, capL, lcs', ov', ?_⟩, hB⟩
  have hc1 : 1 ≤ capL := by have := h.cap; unfold nLev at this; split at this <;> omega
  have hn1' : nLev s'.lev = 1 := by rw [e1]; rfl
  have h7 : lcs'.toList.take 7 = [.bool false, .int .i64 0, .int .i64 0, .int .i64 0, .int .i64 0, .int .i64 0, ov'] := by
    rcases a4 with ⟨_, rfl, rfl⟩ | ⟨rfl, _⟩
    · exact h.h7
    · exact take_set6 (l := [.bool false, .int .i64 0, .int .i64 0, .int .i64 0, .int .i64 0, .int .i64 0]) h.h7 rfl
  refine ⟨by rw [hn1', ← hpc]; exact a1, a2, ?_, by rw [hn1']; exact hc1, h.mx, h.gB, h7, ?_, ?_, by rw [e1]; trivial, ?_, h.PB, h.MB, Nat.le_trans h.BW a6.size⟩
  · rcases a4 with ⟨_, rfl, _⟩ | ⟨rfl, _⟩
    · exact h.sz
    · simpa using h.sz
  · rw [e2, ocells_append, List.length_append, ← hk]; exact a5
  · rw [e1, e5]
    rintro (h1 | h1)
    · rcases a4 with ⟨_, _, rfl⟩ | ⟨_, a4⟩
      · exact h.nil (.inl (by omega))
      · omega
    · cases h1
  · rw [e3, e4]
    have hmap := h.map
    cases hb : s.blk with
    | none =>
      rw [hb] at hmap
      cases ha : s.a10 <;> rw [ha] at hmap <;> exact a6.map hmap hnotM
    | some l =>
      rw [hb] at hmap
      obtain ⟨h0, v, h1, h2, h3⟩ := hmap
      refine ⟨h0, v, a6.map h1 hnotM, a6.own h2 ?_, ?_⟩
      · intro b hbq hq
        simp only [List.mem_cons, Option.mem_toList] at hq
        rcases hq with rfl | rfl | hq
        · exact own_blk_ne h2 h.blk (by decide) hbq
        · exact own_blk_ne h2 h.lv (by decide) hbq
        · exact h3 b hbq hq
      · intro q hq
        rcases a7 with a7 | ⟨g, a7, a8⟩
        · rw [a7]; exact h3 q hq
        · rw [a7]
          intro e
          injection e with e
          have := own_lt h2 hq
          omega

theorem take_set13 {lcs : Array Value} (v' : Value) : (lcs.setIfInBounds 13 v').toList.take 7 = lcs.toList.take 7 := by
  rw [Array.toList_setIfInBounds, List.take_set, List.set_eq_of_length_le]
  rw [List.length_take]; omega
theorem inv_adds13 {B P M : Nat} {bud : Int} {s s' : St} {w w' : World} {gL capL k : Nat} {lcs : Array Value} {v0 v1 : Value} {pc : Int → Array Value} {zs : List Ob} {v : Lev} (h : InvAt B P M bud s w gL capL lcs v0) (hlev : s.lev = some v)
    (h1 : ∀ j u, ([.bool v.step, .int .i64 v.code, .int .i64 v.n, .int .i64 v.m, .int .i64 v.bx, .int .i64 v.by_, v1] : List Value)[j]? = some u → lcs[7 + j]? = some u) (hv1 : w.ownsRow B 65 11 v1 v.objs.length (ocells v.objs))
    (hA : Adds P gL 13 B v.objs.length pc lcs v1 (ocells v.objs) (s.made : Int) w k (ocells zs) w') (hk : k = zs.length) (hpc : pc ((s.made : Int) + (k : Int)) = pcellsOf s' M (.slice (some ⟨gL, 0, none⟩) 2 capL) bud)
    (e1 : s'.lev = some { v with objs := v.objs ++ zs }) (e2 : s'.base = s.base) (e3 : s'.a10 = s.a10) (e4 : s'.blk = s.blk) (hbk : s.blk = none) (hbase : s.base = []) : Inv B P M bud s' w' ∧ Below B w w' := by
  obtain ⟨ov', lcs', a1, a2, a3, a4, a5, a6, a7⟩ := hA
  obtain ⟨es, clk, hm⟩ := h.isMap
  have hMP := hm.blk_ne h.blk
  have hML := hm.blk_ne h.lv
  have hMo := own_map_ne hv1 hm
  have hnotM : M ∉ P :: gL :: v1.ownBlock.toList := by
    simp only [List.mem_cons, Option.mem_toList, not_or]
    exact ⟨hMP, hML, hMo⟩
  have hB : Below B w w' := a6.toBelow h.BW (by
    intro b hb
    simp only [List.mem_cons, Option.mem_toList] at hb
    rcases hb with rfl | rfl | hb
    · exact h.PB
    · exact h.gB
    · exact own_ge hv1 hb)
  have hnil := h.nil (.inr (by rw [hlev]; rfl))
  refine ⟨⟨gL, capL, lcs', v0, ?_⟩, hB⟩
  have hn1 : nLev s.lev = 2 := by rw [hlev]; rfl
  have hn1' : nLev s'.lev = 2 := by rw [e1]; rfl
  have hcap := h.cap
  rw [hn1] at hcap
  have h7 : lcs'.toList.take 7 = lcs.toList.take 7 := by
    rcases a4 with ⟨_, rfl, rfl⟩ | ⟨rfl, _⟩
    · rfl
    · exact take_set13 _
  have hsz : lcs'.size = lcs.size := by
    rcases a4 with ⟨_, rfl, _⟩ | ⟨rfl, _⟩
    · rfl
    · simp
  refine ⟨by rw [hn1', ← hpc]; exact a1, a2, hsz.trans h.sz, by rw [hn1']; exact hcap, h.mx, h.gB, h7.trans h.h7, ?_, fun _ => hnil, ?_, ?_, h.PB, h.MB, Nat.le_trans h.BW a6.size⟩
  · rw [e2, hbase, hnil]; exact World.ownsRow_nil _ _ _ _
  · rw [e1]
    refine ⟨ov', ?_, by simpa [ocells_append, hk] using a5⟩
    intro j u hj
    rcases a4 with ⟨_, rfl, rfl⟩ | ⟨rfl, _⟩
    · exact h1 j u hj
    · by_cases hj6 : j = 6
      · subst hj6
        have hu : ov' = u := by simpa using hj
        rw [Array.getElem?_setIfInBounds_self_of_lt (by rw [h.sz]; omega), hu]
      · have hj7 : j < 7 := by
          have := (List.getElem?_eq_some_iff.1 hj).1
          simpa using this
        rw [Array.getElem?_setIfInBounds_ne (by omega)]
        refine h1 j u ?_
        rcases j with _ | _ | _ | _ | _ | _ | j <;> first | exact hj | omega
  · rw [e3, e4]
    have hmap := h.map
    rw [hbk] at hmap ⊢
    cases ha : s.a10 <;> rw [ha] at hmap <;> exact a6.map hmap hnotM

theorem InvAt.map10 {B P M : Nat} {bud : Int} {s : St} {w : World} {gL capL : Nat} {lcs : Array Value} {v0 : Value} (h : InvAt B P M bud s w gL capL lcs v0) (ha : s.a10 = true) : ∃ es clk, IsMap w M es clk ∧ (Instr.findNow (.int .i64) (.int .i64 10) es.toList 0).map (fun r => r.map (·.2)) = some (some (.agg #[.int .i64 1, .int .i64 0, .int .i64 0, .int .i64 0, .int .i64 0, .int .i64 0, .int .i64 0, .int .i64 2500000, .slice none 0 0, .slice none 0 0, .int .i64 2500000, .bool true, .bool false, .slice none 0 0])) := by
  have hm := h.map
  rw [ha] at hm
  cases hb : s.blk with
  | none => rw [hb] at hm; exact ⟨_, _, hm, rfl⟩
  | some l => rw [hb] at hm; obtain ⟨_, v, h1, _⟩ := hm; exact ⟨_, _, h1, rfl⟩
set_option maxRecDepth 100000 in
set_option maxHeartbeats 4000000 in
theorem inv_op3 (B P M : Nat) (s : St) (w : World) (B' : Nat) (A : Int) (nv : Value) (a b : List UInt8) (hI : Inv B P M 1000 s w) (hm : s.may (Gr.op3 a b)) (ho : (Gr.op3 a b).Ok) (hn : Numz w B' nv (Gr.op3 a b).nums) :
    Calls Tryz.prog 63 #[.pointer (some ⟨P, 0, none⟩), .agg ((Gr.op3 a b).cells A nv).toArray] w fun e w' => e = .returned (.int .i64 0) ∧ (Inv B P M 1000 (s.act (Gr.op3 a b)) w' ∧ Below B w w') := by
  obtain ⟨gL, capL, lcs, v0, h⟩ := hI
  have hnv := hn.2 rfl
  subst hnv
  obtain ⟨u, fm, a1, pick, x, y, dk, bk, lv, base, md, en⟩ := s
  simp only [St.may] at hm
  obtain ⟨⟨rfl, rfl, rfl, rfl⟩, hm⟩ := hm
  obtain ⟨⟨na, nb⟩, ⟨hbl, hvl⟩, hlb, hm⟩ := hm
  have hb0 := h.blk
  unfold pcellsOf at hb0
  simp only [fmtI, if_true, Int.natCast_zero] at hb0
  refine do_7 P A 3 0 false (bs []) (bs a) (bs b) (bs []) none 0 0 w _ hb0 ?_
  have h' := h.alloc (.cells #[.int .i64 A, .int .i64 7, .int .i64 3, .int .i64 0, .bool false, .string { data := #[] }, .string (bs a), .string (bs b), .string { data := #[] }, .string { data := #[] }, .slice none 0 0, .slice none 0 0] 103)
  have hb := h'.blk
  have h6 := lev_cells h.h7 6 (by omega)
  have hBW : Below B w (w.alloc (.cells #[.int .i64 A, .int .i64 7, .int .i64 3, .int .i64 0, .bool false, .string { data := #[] }, .string (bs a), .string (bs b), .string { data := #[] }, .string { data := #[] }, .slice none 0 0, .slice none 0 0] 103)) := (Below.refl _ _).alloc h.BW _
  unfold pcellsOf at hb
  rcases hm with ⟨rfl, hmd⟩ | ⟨rfl, rfl, l, rfl, hmd, hl⟩
  · obtain ⟨es, clk, hmp, hf⟩ := h'.map10 rfl
    cases lv with
    | none =>
      simp only [fmtI, nLev, Option.isSome, if_true, if_false, Bool.false_eq_true, Int.natCast_zero] at hb
      refine (operate_d1 P M gL capL B base.length md 1000 10 A x y dk es clk a b _ hb hmp hf h'.lv h6 h'.own (by omega) (by omega) (by omega) (by omega) h'.BW ho.1.1 ho.1.2.1 ho.1.2.2.1 na ho.2.1 ho.2.2.1 ho.2.2.2.1 nb).mono ?_
      rintro e w' ⟨rfl, hA⟩
      obtain ⟨r1, r2⟩ := inv_adds6 (s' := St.act ⟨1, true, true, 10, x, y, dk, bk, none, base, md, false⟩ (Gr.op3 a b)) (zs := [⟨dk, coordOf a, coordOf b⟩]) h' (by simpa [ocells, Ob.cells] using hA) rfl (by simp [St.act, St.puts, pcellsOf, fmtI]) rfl rfl rfl rfl rfl
      exact ⟨rfl, r1, hBW.trans r2⟩
    | some v =>
      obtain ⟨rfl, rfl⟩ := hlb rfl
      obtain ⟨v1, c1, c2⟩ := h'.lev
      simp only [fmtI, nLev, Option.isSome, if_true, if_false, Bool.false_eq_true, Int.natCast_zero] at hb
      refine (operate_d2 P M gL capL B v.objs.length md 1000 10 A x y dk es clk a b _ hb hmp hf h'.lv (c1 6 v1 rfl) c2 (by omega) (by omega) (by omega) (by have := hvl v rfl; omega) h'.BW ho.1.1 ho.1.2.1 ho.1.2.2.1 na ho.2.1 ho.2.2.1 ho.2.2.2.1 nb).mono ?_
      rintro e w' ⟨rfl, hA⟩
      obtain ⟨r1, r2⟩ := inv_adds13 (s' := St.act ⟨1, true, true, 10, x, y, dk, none, some v, [], md, false⟩ (Gr.op3 a b)) (zs := [⟨dk, coordOf a, coordOf b⟩]) h' rfl c1 c2 (by simpa [ocells, Ob.cells] using hA) rfl (by simp [St.act, St.puts, pcellsOf, fmtI]) rfl rfl rfl rfl rfl rfl
      exact ⟨rfl, r1, hBW.trans r2⟩
  · obtain ⟨_, v, hmp, hvo, hvd⟩ := h'.map
    obtain ⟨vp, vc, rfl⟩ := own_form hvo
    simp only [fmtI, nLev, Option.isSome, if_true, if_false, Bool.false_eq_true, Int.natCast_zero] at hb
    refine (operate_b P M gL capL B base.length md 1000 20 A x y dk vp l.length vc l _ _ a b _ hb hmp rfl h'.lv h6 h'.own hvo hvd hl (by omega) (by omega) (by omega) (by omega) h'.BW ho.1.1 ho.1.2.1 ho.1.2.2.1 na ho.2.1 ho.2.2.1 ho.2.2.2.1 nb).mono ?_
    rintro e w' ⟨rfl, hA⟩
    obtain ⟨r1, r2⟩ := inv_adds6 (s' := St.act ⟨1, true, true, 20, x, y, dk, some l, none, base, md, false⟩ (Gr.op3 a b)) (zs := flashed dk (coordOf a) (coordOf b) l) h' hA (by simp [flashed]) (by simp [St.act, St.puts, pcellsOf, fmtI]) rfl (by simp [St.act, St.puts, flashed]) rfl rfl (by simp [St.act, St.puts])
    exact ⟨rfl, r1, hBW.trans r2⟩

theorem step_eq (c : UInt8) : (((c.toNat - 48) * 1000000 : Nat) : Int) * 10 = stepOf c := by unfold stepOf; omega
theorem inv_opened {B P M : Nat} {bud : Int} {s s' : St} {w w' : World} {gL capL : Nat} {lcs : Array Value} {v0 : Value} {pc : Value → Array Value} {v : Lev} (h : InvAt B P M bud s w gL capL lcs v0) (hmd : s.made = 0)
    (hO : Opened P B gL pc lcs [.bool v.step, .int .i64 v.code, .int .i64 v.n, .int .i64 v.m, .int .i64 v.bx, .int .i64 v.by_, .slice none 0 0] w w') (hpc : ∀ lv, pc lv = pcellsOf s' M lv bud) (hob : v.objs = [])
    (e1 : s'.lev = some v) (e2 : s'.base = s.base) (e3 : s'.a10 = s.a10) (e4 : s'.blk = s.blk) : Inv B P M bud s' w' ∧ Below B w w' := by
  obtain ⟨g, cap, lcs', a1, a2, a3, a4, a5, a6, a7, a8, a9⟩ := hO
  obtain ⟨es, clk, hm⟩ := h.isMap
  have hMP := hm.blk_ne h.blk
  have hML := hm.blk_ne h.lv
  have hnil := h.nil (.inl hmd)
  have hB : Below B w w' := a8.toBelow h.BW (by intro b hb; simp at hb; rcases hb with rfl | rfl; exact h.PB; exact h.gB)
  have hn' : nLev s'.lev = 2 := by rw [e1]; rfl
  have hl7 : (lcs.toList.take 7).length = 7 := by rw [h.h7]; rfl
  have hk : ∀ v n xs, w.ownsRow B 65 11 v n xs → w'.ownsRow B 65 11 v n xs := fun v n xs hv => a8.own hv (fun b hb hq => by
    simp at hq
    rcases hq with hq | hq
    · rw [hq] at hb; exact own_blk_ne hv h.blk (by decide) hb
    · rw [hq] at hb; exact own_blk_ne hv h.lv (by decide) hb)
  refine ⟨⟨g, cap, lcs', v0, ?_⟩, hB⟩
  refine ⟨by rw [hn', ← hpc]; exact a1, a2, a3, by rw [hn']; exact a4, a5, a6, ?_, by rw [e2]; exact hk _ _ _ h.own, fun _ => hnil, ?_, by rw [e3, e4]; exact h.map.only (fun es clk hm' => a8.map hm' (by simp; exact ⟨hMP, hML⟩)) hk, h.PB, h.MB, Nat.le_trans h.BW a8.size⟩
  · have h1 : lcs'.toList.take 7 = (lcs'.toList.take 14).take 7 := by rw [List.take_take]; rfl
    rw [h1, a7, List.take_append_of_le_length (by omega), List.take_of_length_le (by omega)]
    exact h.h7
  · rw [e1]
    refine ⟨.slice none 0 0, ?_, by rw [hob]; exact World.ownsRow_nil _ _ _ _⟩
    intro j u hj
    have hj7 : j < 7 := by
      have := (List.getElem?_eq_some_iff.1 hj).1
      simpa using this
    rw [← Array.getElem?_toList]
    have h1 : lcs'.toList[7 + j]? = (lcs'.toList.take 14)[7 + j]? := by rw [List.getElem?_take_of_lt (by omega)]
    rw [h1, a7, List.getElem?_append_right (by omega), hl7, Nat.add_sub_cancel_left]
    exact hj
set_option maxRecDepth 100000 in
set_option maxHeartbeats 4000000 in
theorem inv_ab (B P M : Nat) (s : St) (w : World) (B' : Nat) (A : Int) (nv : Value) (hI : Inv B P M 1000 s w) (hm : s.may (Gr.ab)) (hn : Numz w B' nv (Gr.ab).nums) :
    Calls Tryz.prog 63 #[.pointer (some ⟨P, 0, none⟩), .agg ((Gr.ab).cells A nv).toArray] w fun e w' => e = .returned (.int .i64 0) ∧ (Inv B P M 1000 (s.act (Gr.ab)) w' ∧ Below B w w') := by
  obtain ⟨gL, capL, lcs, v0, h⟩ := hI
  have hnv := hn.2 rfl
  subst hnv
  obtain ⟨u, fm, a1, pick, x, y, dk, bk, lv, base, md, en⟩ := s
  simp only [St.may] at hm
  obtain ⟨⟨rfl, rfl, rfl, rfl⟩, hm⟩ := hm
  obtain ⟨rfl, rfl, rfl, rfl⟩ := hm
  have hb0 := h.blk
  unfold pcellsOf at hb0
  simp only [fmtI, if_true, Int.natCast_zero] at hb0
  refine do_11 P A 20 0 false (bs []) (bs []) (bs []) (bs []) none 0 0 w _ hb0 ?_
  have h' := h.alloc (.cells #[.int .i64 A, .int .i64 11, .int .i64 20, .int .i64 0, .bool false, .string { data := #[] }, .string { data := #[] }, .string { data := #[] }, .string { data := #[] }, .string { data := #[] }, .slice none 0 0, .slice none 0 0] 103)
  have hb := h'.blk
  have hBW : Below B w (w.alloc (.cells #[.int .i64 A, .int .i64 11, .int .i64 20, .int .i64 0, .bool false, .string { data := #[] }, .string { data := #[] }, .string { data := #[] }, .string { data := #[] }, .string { data := #[] }, .slice none 0 0, .slice none 0 0] 103)) := (Below.refl _ _).alloc h.BW _
  unfold pcellsOf at hb
  simp only [fmtI, nLev, Option.isSome, if_true, if_false, Bool.false_eq_true, Int.natCast_zero] at hb
  have hmp : IsMap (w.alloc (.cells #[.int .i64 A, .int .i64 11, .int .i64 20, .int .i64 0, .bool false, .string { data := #[] }, .string { data := #[] }, .string { data := #[] }, .string { data := #[] }, .string { data := #[] }, .slice none 0 0, .slice none 0 0] 103)) M #[entry10] 1 := h'.map
  refine (beginBlock_c P M gL capL B A #[entry10] 1 _ hb hmp rfl h'.lv h'.sz h'.cap h'.mx h'.gB).mono ?_
  rintro e w' ⟨rfl, hO⟩
  obtain ⟨r1, r2⟩ := inv_opened (s' := St.act ⟨1, true, true, pick, x, y, dk, none, none, [], 0, false⟩ Gr.ab) h' rfl hO (fun _ => rfl) rfl rfl rfl rfl rfl
  exact ⟨rfl, r1, hBW.trans r2⟩
set_option maxRecDepth 100000 in
set_option maxHeartbeats 4000000 in
theorem inv_abe (B P M : Nat) (s : St) (w : World) (B' : Nat) (A : Int) (nv : Value) (hI : Inv B P M 1000 s w) (hm : s.may (Gr.abe)) (hn : Numz w B' nv (Gr.abe).nums) :
    Calls Tryz.prog 63 #[.pointer (some ⟨P, 0, none⟩), .agg ((Gr.abe).cells A nv).toArray] w fun e w' => e = .returned (.int .i64 0) ∧ (Inv B P M 1000 (s.act (Gr.abe)) w' ∧ Below B w w') := by
  obtain ⟨gL, capL, lcs, v0, h⟩ := hI
  have hnv := hn.2 rfl
  subst hnv
  obtain ⟨u, fm, a1, pick, x, y, dk, bk, lv, base, md, en⟩ := s
  simp only [St.may] at hm
  obtain ⟨⟨rfl, rfl, rfl, rfl⟩, hm⟩ := hm
  obtain ⟨rfl, rfl, ⟨st, cd, ln, lm, lx, ly, L⟩, rfl, hst, hcd⟩ := hm
  simp only at hst hcd
  subst hst hcd
  have hb0 := h.blk
  unfold pcellsOf at hb0
  simp only [fmtI, if_true, Int.natCast_zero] at hb0
  refine do_12 P A 0 0 false (bs []) (bs []) (bs []) (bs []) none 0 0 w _ hb0 ?_
  have h' := h.alloc (.cells #[.int .i64 A, .int .i64 12, .int .i64 0, .int .i64 0, .bool false, .string { data := #[] }, .string { data := #[] }, .string { data := #[] }, .string { data := #[] }, .string { data := #[] }, .slice none 0 0, .slice none 0 0] 103)
  have hb := h'.blk
  have hBW : Below B w (w.alloc (.cells #[.int .i64 A, .int .i64 12, .int .i64 0, .int .i64 0, .bool false, .string { data := #[] }, .string { data := #[] }, .string { data := #[] }, .string { data := #[] }, .string { data := #[] }, .slice none 0 0, .slice none 0 0] 103)) := (Below.refl _ _).alloc h.BW _
  unfold pcellsOf at hb
  simp only [fmtI, nLev, Option.isSome, if_true, if_false, Bool.false_eq_true, Int.natCast_zero] at hb
  have hmp : IsMap (w.alloc (.cells #[.int .i64 A, .int .i64 12, .int .i64 0, .int .i64 0, .bool false, .string { data := #[] }, .string { data := #[] }, .string { data := #[] }, .string { data := #[] }, .string { data := #[] }, .slice none 0 0, .slice none 0 0] 103)) M #[entry10] 1 := h'.map
  have hMP := hmp.blk_ne h'.blk
  have hML := hmp.blk_ne h'.lv
  have hPL := h'.blk.ne_ h'.lv (by decide)
  have hnil := h'.nil (.inr rfl)
  obtain ⟨v1, c1, c2⟩ := h'.lev
  obtain ⟨vp, vc, rfl⟩ := own_form c2
  refine (endBlock_c P M gL capL 20 ln lm lx ly vp L.length vc #[entry10] 1 _ hb hmp rfl h'.lv c1 h'.cap).mono ?_
  rintro e w' ⟨rfl, k, m, o⟩
  simp only [List.push_toArray, List.cons_append, List.nil_append] at m
  refine ⟨rfl, ⟨gL, capL, lcs, v0, ?_⟩, hBW.trans (o.toBelow h'.BW (by intro b hb; simp at hb; rcases hb with rfl | rfl; exact h.PB; exact h.MB))⟩
  have hc := h'.cap
  refine ⟨k, o.blk h'.lv (by simp; exact ⟨Ne.symm hPL, Ne.symm hML⟩), h'.sz, ?_, h'.mx, h'.gB, h'.h7, ?_, fun _ => hnil, trivial, ⟨rfl, .slice vp L.length vc, m, ?_, ?_⟩, h.PB, h.MB, Nat.le_trans h'.BW o.size⟩
  · have : 2 ≤ capL := hc
    show 1 ≤ capL
    omega
  · rw [hnil]; exact World.ownsRow_nil _ _ _ _
  · refine o.own c2 (fun b hbq hq => ?_)
    simp at hq
    rcases hq with hq | hq
    · rw [hq] at hbq; exact own_blk_ne c2 h'.blk (by decide) hbq
    · rw [hq] at hbq; exact own_map_ne c2 hmp hbq
  · intro q _; rw [hnil]; simp [Value.ownBlock]
set_option maxRecDepth 100000 in
set_option maxHeartbeats 4000000 in
theorem inv_sr (B P M : Nat) (s : St) (w : World) (B' : Nat) (A : Int) (nv : Value) (n m p q : UInt8) (hI : Inv B P M 1000 s w) (hm : s.may (Gr.sr n m p q)) (ho : (Gr.sr n m p q).Ok) (hn : Numz w B' nv (Gr.sr n m p q).nums) :
    Calls Tryz.prog 63 #[.pointer (some ⟨P, 0, none⟩), .agg ((Gr.sr n m p q).cells A nv).toArray] w fun e w' => e = .returned (.int .i64 0) ∧ (Inv B P M 1000 (s.act (Gr.sr n m p q)) w' ∧ Below B w w') := by
  obtain ⟨gL, capL, lcs, v0, h⟩ := hI
  obtain ⟨u, fm, a1, pick, x, y, dk, bk, lv, base, md, en⟩ := s
  simp only [St.may] at hm
  obtain ⟨⟨rfl, rfl, rfl, rfl⟩, hm⟩ := hm
  obtain ⟨⟨rfl, rfl, rfl⟩, ⟨n1, n4⟩, ⟨m1, m4⟩, p7, q7⟩ := hm
  obtain ⟨gn, cn, rfl, _, hgn⟩ := World.ownsRow.form hn.1 (by simp [Gr.nums])
  have hx : w.cell? ⟨gn, 0, none⟩ = some (.int .i64 (((p.toNat - 48) * 1000000 : Nat) : Int)) := by
    have := hn.1.cellAt 0 (by simp [Gr.nums])
    simpa [Gr.nums] using this
  have hy : w.cell? ⟨gn, 1, none⟩ = some (.int .i64 (((q.toNat - 48) * 1000000 : Nat) : Int)) := by
    have := hn.1.cellAt 1 (by simp [Gr.nums])
    simpa [Gr.nums] using this
  have hb0 := h.blk
  unfold pcellsOf at hb0
  simp only [fmtI, if_true, Int.natCast_zero] at hb0
  refine do_13 P A ((n.toNat - 48 : Nat) : Int) ((m.toNat - 48 : Nat) : Int) false (bs []) (bs []) (bs []) (bs []) (some ⟨gn, 0, none⟩) 2 cn w _ hb0 ?_
  have h' := h.alloc (.cells #[.int .i64 A, .int .i64 13, .int .i64 ((n.toNat - 48 : Nat) : Int), .int .i64 ((m.toNat - 48 : Nat) : Int), .bool false, .string { data := #[] }, .string { data := #[] }, .string { data := #[] }, .string { data := #[] }, .string { data := #[] }, .slice (some ⟨gn, 0, none⟩) 2 cn, .slice none 0 0] 103)
  have hb := h'.blk
  have hBW : Below B w (w.alloc (.cells #[.int .i64 A, .int .i64 13, .int .i64 ((n.toNat - 48 : Nat) : Int), .int .i64 ((m.toNat - 48 : Nat) : Int), .bool false, .string { data := #[] }, .string { data := #[] }, .string { data := #[] }, .string { data := #[] }, .string { data := #[] }, .slice (some ⟨gn, 0, none⟩) 2 cn, .slice none 0 0] 103)) := (Below.refl _ _).alloc h.BW _
  unfold pcellsOf at hb
  simp only [fmtI, nLev, Option.isSome, if_true, if_false, Bool.false_eq_true, Int.natCast_zero] at hb
  have hnil := h'.nil (.inl rfl)
  subst hnil
  refine (beginStep_c P gL capL B gn cn A _ _ _ _ none 0 0 _ hb h'.lv h'.h7 h'.sz h'.cap h'.mx h'.gB ((World.cell?_alloc_lt _ _ _ hgn).trans hx) ((World.cell?_alloc_lt _ _ _ hgn).trans hy) (by simp; omega) (by omega) (by omega) (by omega) (by omega) (by omega) (by omega) (by omega) (by omega)).mono ?_
  rintro e w' ⟨rfl, hO⟩
  rw [step_eq p, step_eq q] at hO
  obtain ⟨r1, r2⟩ := inv_opened (s' := St.act ⟨1, true, true, pick, x, y, dk, bk, none, [], 0, false⟩ (Gr.sr n m p q)) (v := ⟨true, 0, ((n.toNat - 48 : Nat) : Int), ((m.toNat - 48 : Nat) : Int), stepOf p, stepOf q, []⟩) h' rfl hO (fun _ => rfl) rfl rfl rfl rfl rfl
  exact ⟨rfl, r1, hBW.trans r2⟩
set_option maxRecDepth 100000 in
set_option maxHeartbeats 4000000 in
theorem inv_sre (B P M : Nat) (s : St) (w : World) (B' : Nat) (A : Int) (nv : Value) (hI : Inv B P M 1000 s w) (hm : s.may (Gr.sre)) (hn : Numz w B' nv (Gr.sre).nums) :
    Calls Tryz.prog 63 #[.pointer (some ⟨P, 0, none⟩), .agg ((Gr.sre).cells A nv).toArray] w fun e w' => e = .returned (.int .i64 0) ∧ (Inv B P M 1000 (s.act (Gr.sre)) w' ∧ Below B w w') := by
  obtain ⟨gL, capL, lcs, v0, h⟩ := hI
  have hnv := hn.2 rfl
  subst hnv
  obtain ⟨u, fm, a1, pick, x, y, dk, bk, lv, base, md, en⟩ := s
  simp only [St.may] at hm
  obtain ⟨⟨rfl, rfl, rfl, rfl⟩, hm⟩ := hm
  obtain ⟨rfl, ⟨st, cd, ln, lm, lx, ly, L⟩, rfl, hst, hcd, ⟨n1, n4⟩, ⟨m1, m4⟩, ⟨x0, x1⟩, ⟨y0, y1⟩, hLl, hmd, hl⟩ := hm
  simp only at hst hcd n1 n4 m1 m4 x0 x1 y0 y1 hLl hmd hl
  subst hst hcd
  have hb0 := h.blk
  unfold pcellsOf at hb0
  simp only [fmtI, if_true, Int.natCast_zero] at hb0
  refine do_14 P A 0 0 false (bs []) (bs []) (bs []) (bs []) none 0 0 w _ hb0 ?_
  have h' := h.alloc (.cells #[.int .i64 A, .int .i64 14, .int .i64 0, .int .i64 0, .bool false, .string { data := #[] }, .string { data := #[] }, .string { data := #[] }, .string { data := #[] }, .string { data := #[] }, .slice none 0 0, .slice none 0 0] 103)
  have hb := h'.blk
  have hBW : Below B w (w.alloc (.cells #[.int .i64 A, .int .i64 14, .int .i64 0, .int .i64 0, .bool false, .string { data := #[] }, .string { data := #[] }, .string { data := #[] }, .string { data := #[] }, .string { data := #[] }, .slice none 0 0, .slice none 0 0] 103)) := (Below.refl _ _).alloc h.BW _
  unfold pcellsOf at hb
  simp only [fmtI, nLev, Option.isSome, if_true, if_false, Bool.false_eq_true, Int.natCast_zero] at hb
  have hnil := h'.nil (.inr rfl)
  obtain ⟨v1, c1, c2⟩ := h'.lev
  obtain ⟨vp, vc, rfl⟩ := own_form c2
  refine (endStep_c P gL capL B 0 md 1000 ln lm lx ly vp L.length vc L _ hb h'.lv c1 h'.cap (lev_cells h'.h7 6 (by omega)) h'.own c2 (fun q _ => by rw [hnil]; simp [Value.ownBlock]) (by omega) (by omega) (by omega) (by omega) h'.BW hLl n1 n4 m1 m4 x0 x1 y0 y1 hl).mono ?_
  rintro e w' ⟨rfl, hA⟩
  obtain ⟨r1, r2⟩ := inv_adds6 (s' := St.act ⟨1, true, true, pick, x, y, dk, bk, some ⟨true, 0, ln, lm, lx, ly, L⟩, [], md, false⟩ Gr.sre) (zs := copies L lx ly lm.toNat ln.toNat) h' hA rfl (by simp [St.act, St.puts, pcellsOf, fmtI]) rfl rfl rfl rfl rfl
  exact ⟨rfl, r1, hBW.trans r2⟩
end Go.Proofs.YtfajckkbinbpiaaGreatDoor
