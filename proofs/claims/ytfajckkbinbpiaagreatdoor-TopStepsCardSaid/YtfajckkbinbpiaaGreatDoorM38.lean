/- Walks: package plot: commands are plotted. -/
import Derived.Test.YtfajckkbinbpiaaGreatDoorM37
import Derived.Carry
import Derived.LoopTactic
namespace Go.Proofs.YtfajckkbinbpiaaGreatDoor
open Go.RowKit
set_option linter.unusedVariables false
set_option linter.unusedSimpArgs false

/-- A command of ours, executed where it may stand. -/
theorem do_c (B P M : Nat) (s : St) (w : World) (B' : Nat) (A : Int) (nv : Value) (g : Gr) (hI : Inv B P M 1000 s w) (hm : s.may g) (ho : g.Ok) (hn : Numz w B' nv g.nums) :
    Calls Tryz.prog 63 #[.pointer (some ⟨P, 0, none⟩), .agg (g.cells A nv).toArray] w fun e w' => e = .returned (.int .i64 0) ∧ (Inv B P M 1000 (s.act g) w' ∧ Below B w w') := by
  cases g
  case fs => exact inv_fs B P M s w B' A nv hI hm hn
  case mo => exact inv_mo B P M s w B' A nv hI hm hn
  case adc => exact inv_adc B P M s w B' A nv hI hm hn
  case adr => exact hm.elim
  case d10 => exact inv_d10 B P M s w B' A nv hI hm hn
  case d20 => exact inv_d20 B P M s w B' A nv hI hm hn
  case m02 => exact inv_m02 B P M s w B' A nv hI hm hn
  case lpc => exact inv_lpc B P M s w B' A nv hI hm hn
  case lpd => exact inv_lpd B P M s w B' A nv hI hm hn
  case sre => exact inv_sre B P M s w B' A nv hI hm hn
  case ab => exact inv_ab B P M s w B' A nv hI hm hn
  case abe => exact inv_abe B P M s w B' A nv hI hm hn
  case sr n m p q => exact inv_sr B P M s w B' A nv n m p q hI hm ho hn
  case op2 a b => exact inv_op2 B P M s w B' A nv a b hI hm ho hn
  case op3 a b => exact inv_op3 B P M s w B' A nv a b hI hm ho hn
theorem flat_at : ∀ (l : List (List Value)) (k : Nat) (hk : k < l.length) (j : Nat), (∀ c ∈ l, c.length = 12) → j < 12 → l.flatten[k * 12 + j]? = (l[k])[j]?
  | [], k, hk, _, _, _ => by simp at hk
  | c :: l, 0, _, j, h, hj => by
    have h1 := h c (by simp)
    rw [List.flatten_cons, List.getElem?_append_left (by omega)]
    simp
  | c :: l, k + 1, hk, j, h, hj => by
    have h1 := h c (by simp)
    have := flat_at l k (by simpa using hk) j (fun d hd => h d (by simp [hd])) hj
    rw [List.flatten_cons, List.getElem?_append_right (by omega), h1, show (k + 1) * 12 + j - 12 = k * 12 + j by omega, this]
    simp
theorem CmdsOf.mem {w : World} {B : Nat} {gs : List Gr} {cs : List (List Value)} (h : CmdsOf w B gs cs) (k : Nat) (hk : k < gs.length) : ∃ hc : k < cs.length, ∃ at_ nv, cs[k] = (gs[k]).cells at_ nv ∧ Numz w B nv (gs[k]).nums := by
  have hc : k < cs.length := by rw [h.length]; exact hk
  exact ⟨hc, h.at k hk hc⟩
set_option maxRecDepth 100000 in
set_option maxHeartbeats 8000000 in
theorem plot_c (gs : List Gr) (t : St) (ho : ∀ g ∈ gs, g.Ok) (hr : St.start.Runs gs t) (hte : t.ended = true) (hlen : gs.length ≤ 20000) (cs : List (List Value)) (v : Value) (B' : Nat) (w : World) (hC : Cmds w B' v cs) (hG : CmdsOf w B' gs cs) (hne : gs ≠ []) :
    Calls Tryz.prog 35 #[v, .int .i64 1000] w fun e w' => ∃ v0, e = .returned (.tuple #[v0, .int .i64 0, .int .i64 0]) ∧ w'.ownsRow w.heap.size 65 11 v0 t.base.length (ocells t.base) ∧ Below w.heap.size w w' := by
  have hcl := hG.length
  obtain ⟨gc, cap, rfl, _, hgc⟩ := World.ownsRow.form hC.2 (by rw [hcl]; exact List.length_pos_iff.2 hne)
  rw [hcl]
  obtain ⟨N, eN⟩ : ∃ N, gs.length = N := ⟨_, rfl⟩
  rw [eN] at hlen ⊢
  have hmm := @run_makeMap Tryz.prog
  have hmk : ∀ w, (Instr.makeSlice 152 (.int .i64 1) (.int .i64 1)).run Tryz.prog w = .ok (.slice (some ⟨w.heap.size, 0, none⟩) 1 1) (w.alloc (.cells #[.bool false, .int .i64 0, .int .i64 0, .int .i64 0, .int .i64 0, .int .i64 0, .slice none 0 0] 162)) := fun _ => by kernel_rfl
  have HO := Lib.hid ho
  have HR := Lib.hid hr
  have HTE := Lib.hid hte
  have HC := Lib.hid hC
  have HG := Lib.hid hG
  have HN := Lib.hid eN
  have HCL := Lib.hid hcl
  clear ho hr hte hC hG eN hne hcl
  go_enter Tryz.func35, Tryz.ntmps35
  go_wp2_with fail
  obtain ⟨u, eu⟩ : ∃ u, ((w.alloc (.map #[] 0)).alloc (.cells #[.bool false, .int .i64 0, .int .i64 0, .int .i64 0, .int .i64 0, .int .i64 0, .slice none 0 0] 162)).alloc (.cells #[.int .i64 0, .int .i64 0, .int .i64 0, .int .i64 0, .bool false, .bool false, .map (some w.heap.size), .int .i64 0, .slice none 0 0, .int .i64 0, .int .i64 0, .int .i64 1, .bool false, .bool true, .bool false, .bool false, .int .i64 0, .int .i64 0, .int .i64 0, .bool false, .slice none 0 0, .slice (some ⟨w.heap.size + 1, 0, none⟩) 1 1, .int .i64 0, .int .i64 1000, .bool false] 159) = u := ⟨_, rfl⟩
  have iI : Inv w.heap.size (w.heap.size + 1 + 1) w.heap.size 1000 St.start u := by
    rw [← eu]
    refine ⟨w.heap.size + 1, 1, #[.bool false, .int .i64 0, .int .i64 0, .int .i64 0, .int .i64 0, .int .i64 0, .slice none 0 0], .slice none 0 0, ?_⟩
    refine ⟨Blk.newAt (by simp), (Blk.newAt (by simp)).alloc _, rfl, Nat.le_refl _, by decide, by omega, rfl, World.ownsRow_nil _ _ _ _, fun _ => rfl, trivial, ?_, by omega, Nat.le_refl _, by simp; omega⟩
    exact ((IsMap.new w #[] 0).alloc _).alloc _
  have bB : Below w.heap.size w u := by rw [← eu]; (repeat' (first | (with_reducible exact Below.refl _ _) | (with_reducible assumption) | (with_reducible refine below_drewN ?_ _) | (with_reducible refine Below.drew ?_) | (with_reducible refine Below.alloc ?_ ?_ _) | (with_reducible refine Below.setCell ?_ ?_ _) | omega | (simp; done) | (simp; omega)))
  have II := Lib.hid iI
  have BB := Lib.hid bB
  rw [show min (max (1000 : Int) 0) 100000 = 1000 from by decide, eu]
  clear iI bB eu hmm hmk
  go_loopw [20] (fun i wr => ∃ (k : Nat) (s : St), i = .int .i64 (k : Int) ∧ k ≤ N ∧ Inv w.heap.size (w.heap.size + 1 + 1) w.heap.size 1000 s wr ∧ s.Runs (gs.drop k) t ∧ Below w.heap.size w wr) (fun i wr => N - (intOf i).toNat)
  case atStart => exact ⟨0, St.start, rfl, Nat.zero_le _, II.out, by simpa using HR.out, BB.out⟩
  case round =>
  obtain ⟨k, s, rfl, hk, hI, hR, hB⟩ := hrel
  have HI := Lib.hid hI
  have HRn := Lib.hid hR
  have HBw := Lib.hid hB
  have lw := hB.size
  clear hI hR hB II BB
  by_cases hlt : k < N
  · obtain ⟨g, eg⟩ : ∃ g, gs[k]'(by have := HN.out; omega) = g := ⟨_, rfl⟩
    obtain ⟨hkc, A, nv, e1, e2⟩ := HG.out.mem k (by have := HN.out; omega)
    rw [eg] at e1 e2
    obtain ⟨np, nn, nc, rfl⟩ := numz_form e2
    have hq : ∀ j v, j < 12 → (g.cells A (.slice np nn nc))[j]? = some v → wr.cell? ⟨gc, k * 12 + j, none⟩ = some v := fun j v hj hv => by
      have h1 := HC.out.2
      rw [HBw.out.cell (p := ⟨gc, k * 12 + j, none⟩) hgc]
      have h2 := h1.cellAt (k * 12 + j) (by omega)
      rw [h2, flat_at cs k hkc j HC.out.1 hj, e1, hv]
    have q0 := hq 0 (.int .i64 A) (by omega) rfl
    have q1 := hq 1 (.int .i64 g.kind) (by omega) rfl
    have q2 := hq 2 (.int .i64 g.n) (by omega) rfl
    have q3 := hq 3 (.int .i64 g.m) (by omega) rfl
    have q4 := hq 4 (.bool g.on) (by omega) rfl
    have q5 := hq 5 (.string (bs g.name)) (by omega) rfl
    have q6 := hq 6 (.string (bs g.x)) (by omega) rfl
    have q7 := hq 7 (.string (bs g.y)) (by omega) rfl
    have q8 := hq 8 (.string (bs [])) (by omega) rfl
    have q9 := hq 9 (.string (bs [])) (by omega) rfl
    have q10 := hq 10 (.slice np nn nc) (by omega) rfl
    have q11 := hq 11 (.slice none 0 0) (by omega) rfl
    simp only [Nat.add_zero] at q0
    have hdrop : gs.drop k = g :: gs.drop (k + 1) := by rw [← eg]; exact List.drop_eq_getElem_cons _
    have hRk := HRn.out
    rw [hdrop] at hRk
    have hgo : g.Ok := by rw [← eg]; exact HO.out _ (List.getElem_mem _)
    obtain ⟨hmay, hrest⟩ : s.may g ∧ (s.act g).Runs (gs.drop (k + 1)) t := by cases hRk with | cons h1 h2 => exact ⟨h1, h2⟩
    have hgl : gc < wr.heap.size := by omega
    have hlw : w.heap.size ≤ wr.heap.size := lw
    have hI2 : Inv w.heap.size (w.heap.size + 1 + 1) w.heap.size 1000 s (wr.alloc (.cells #[.int .i64 A, .int .i64 g.kind, .int .i64 g.n, .int .i64 g.m, .bool g.on, .string (bs g.name), .string (bs g.x), .string (bs g.y), .string (bs []), .string (bs []), .slice np nn nc, .slice none 0 0] 103)) := by
      obtain ⟨a, b, c, d, h⟩ := HI.out
      exact ⟨a, b, c, d, h.alloc _⟩
    have hn2 : Numz (wr.alloc (.cells #[.int .i64 A, .int .i64 g.kind, .int .i64 g.n, .int .i64 g.m, .bool g.on, .string (bs g.name), .string (bs g.x), .string (bs g.y), .string (bs []), .string (bs []), .slice np nn nc, .slice none 0 0] 103)) B' (.slice np nn nc) g.nums := numz_alloc (numz_below e2 HBw.out (Nat.le_refl _)) _
    have hD := do_c w.heap.size (w.heap.size + 1 + 1) w.heap.size s (wr.alloc (.cells #[.int .i64 A, .int .i64 g.kind, .int .i64 g.n, .int .i64 g.m, .bool g.on, .string (bs g.name), .string (bs g.x), .string (bs g.y), .string (bs []), .string (bs []), .slice np nn nc, .slice none 0 0] 103)) B' A (.slice np nn nc) g hI2 hmay hgo hn2
    have HD := Lib.hid hD
    have HREST := Lib.hid hrest
    clear hq eg e1 e2 hdrop hRk hgo hmay hrest hI2 hn2 hD
    go_wp2_with fail
    refine (HD.out).mono ?_
    rintro e w3 ⟨rfl, i3, b3⟩
    have I3 := Lib.hid i3
    have B3 := Lib.hid (HBw.out.trans (((Below.refl _ _).alloc lw _).trans b3))
    clear i3 b3
    go_wp2_with fail
    go_roundw
    case rel =>
      have hr2 : ∃ (k' : Nat) (s' : St), Value.int .i64 ((k : Int) + 1) = .int .i64 (k' : Int) ∧ k' ≤ N ∧ Inv w.heap.size (w.heap.size + 1 + 1) w.heap.size 1000 s' w3 ∧ s'.Runs (gs.drop k') t ∧ Below w.heap.size w w3 := ⟨k + 1, s.act g, by go_num, by omega, I3.out, HREST.out, B3.out⟩
      first | exact hr2 | ((repeat apply Exists.intro); exact ⟨hr2, rfl⟩)
    case measure => simp [intOf]; omega
  · have e : k = N := by omega
    have hRk := HRn.out
    rw [List.drop_of_length_le (by have := HN.out; omega)] at hRk
    have hst : s = t := by cases hRk; rfl
    have HST := Lib.hid hst
    obtain ⟨gL, capL, lcs, v0, h⟩ := HI.out
    have hte : s.ended = true := by rw [hst]; exact HTE.out
    have hb := h.blk
    unfold pcellsOf at hb
    rw [hte] at hb
    have p24 : wr.cell? ⟨w.heap.size + 1 + 1, 24, none⟩ = some (.bool true) := hb.cell 24
    have p21 : wr.cell? ⟨w.heap.size + 1 + 1, 21, none⟩ = some (.slice (some ⟨gL, 0, none⟩) (nLev s.lev) capL) := hb.cell 21
    have r6 : wr.cell? ⟨gL, 6, none⟩ = some v0 := (h.lv.cell 6).trans (lev_cells h.h7 6 (by omega))
    have hnl : 0 < nLev s.lev := by unfold nLev; split <;> omega
    have hfin : wr.ownsRow w.heap.size 65 11 v0 t.base.length (ocells t.base) := by rw [← hst]; exact h.own
    have HF := Lib.hid hfin
    obtain ⟨nl, enl⟩ : ∃ n, nLev s.lev = n := ⟨_, rfl⟩
    rw [enl] at p21 hnl
    clear hb h hfin hte hRk enl hst
    go_wp2_with fail
    go_ret3
    exact ⟨v0, rfl, HF.out, HBw.out⟩
end Go.Proofs.YtfajckkbinbpiaaGreatDoor
