/- Walks: package plot: a drawing in inches or millimetres is plotted. -/
import Derived.Carry
import Derived.LoopTactic
import Derived.Test.YtfajckkbinbpiaaGreatDoorJ22
import Derived.Test.YtfajckkbinbpiaaGreatDoorJ24
namespace Go.Proofs.YtfajckkbinbpiaaGreatDoor
set_option maxRecDepth 100000
set_option maxHeartbeats 32000000
set_option linter.unusedVariables false
set_option linter.unusedSimpArgs false
open Go.RowKit
theorem icells_24 (m : Md) (st : Nat) (x y made : Int) (M : Nat) (lv : Value) : (icells m st x y made true M lv)[24]? = some (.bool true) := by unfold icells; split <;> rfl
theorem icells_21 (m : Md) (st : Nat) (x y made : Int) (en : Bool) (M : Nat) (lv : Value) : (icells m st x y made en M lv)[21]? = some lv := by unfold icells; split <;> rfl
theorem iflat_at : ∀ (l : List (List Value)) (k : Nat) (hk : k < l.length) (j : Nat), (∀ c ∈ l, c.length = 12) → j < 12 → l.flatten[k * 12 + j]? = (l[k])[j]?
  | [], k, hk, _, _, _ => by simp at hk
  | c :: l, 0, _, j, h, hj => by
    have h1 := h c (by simp)
    rw [List.flatten_cons, List.getElem?_append_left (by omega)]
    simp
  | c :: l, k + 1, hk, j, h, hj => by
    have h1 := h c (by simp)
    have := iflat_at l k (by simpa using hk) j (fun d hd => h d (by simp [hd])) hj
    rw [List.flatten_cons, List.getElem?_append_right (by omega), h1, show (k + 1) * 12 + j - 12 = k * 12 + j by omega, this]
    simp
theorem CmdsOf.imem {w : World} {B : Nat} {gs : List Gr} {cs : List (List Value)} (h : CmdsOf w B gs cs) (k : Nat) (hk : k < gs.length) : ∃ hc : k < cs.length, ∃ at_ nv, cs[k] = (gs[k]).cells at_ nv ∧ Numz w B nv (gs[k]).nums := by
  have hc : k < cs.length := by rw [h.length]; exact hk
  exact ⟨hc, h.at k hk hc⟩
theorem plot_i (m : Md) (gs : List Gr) (t : ISt) (hr : ISt.start.Runs m gs t) (hte : t.ended = true) (hlen : gs.length ≤ 20000) (cs : List (List Value)) (v : Value) (B' : Nat) (w : World) (hC : Cmds w B' v cs) (hG : CmdsOf w B' gs cs) (hne : gs ≠ []) :
    Calls Tryz.prog 35 #[v, .int .i64 300] w fun e w' => ∃ v0, e = .returned (.tuple #[v0, .int .i64 0, .int .i64 0]) ∧ w'.ownsRow w.heap.size 65 11 v0 t.objs.length (iocells t.objs) ∧ Below w.heap.size w w' := by
  have hcl := hG.length
  obtain ⟨gc, cap, rfl, _, hgc⟩ := World.ownsRow.form hC.2 (by rw [hcl]; exact List.length_pos_iff.2 hne)
  rw [hcl]
  obtain ⟨N, eN⟩ : ∃ N, gs.length = N := ⟨_, rfl⟩
  rw [eN] at hlen ⊢
  have hmm := @run_makeMap Tryz.prog
  have hmk : ∀ w, (Instr.makeSlice 152 (.int .i64 1) (.int .i64 1)).run Tryz.prog w = .ok (.slice (some ⟨w.heap.size, 0, none⟩) 1 1) (w.alloc (.cells #[.bool false, .int .i64 0, .int .i64 0, .int .i64 0, .int .i64 0, .int .i64 0, .slice none 0 0] 162)) := fun _ => by kernel_rfl
  have HR := Lib.hid hr
  have HTE := Lib.hid hte
  have HC := Lib.hid hC
  have HG := Lib.hid hG
  have HN := Lib.hid eN
  have HCL := Lib.hid hcl
  clear hr hte hC hG eN hne hcl
  go_enter Tryz.func35, Tryz.ntmps35
  go_wp2_with fail
  obtain ⟨u, eu⟩ : ∃ u, ((w.alloc (.map #[] 0)).alloc (.cells #[.bool false, .int .i64 0, .int .i64 0, .int .i64 0, .int .i64 0, .int .i64 0, .slice none 0 0] 162)).alloc (.cells #[.int .i64 0, .int .i64 0, .int .i64 0, .int .i64 0, .bool false, .bool false, .map (some w.heap.size), .int .i64 0, .slice none 0 0, .int .i64 0, .int .i64 0, .int .i64 1, .bool false, .bool true, .bool false, .bool false, .int .i64 0, .int .i64 0, .int .i64 0, .bool false, .slice none 0 0, .slice (some ⟨w.heap.size + 1, 0, none⟩) 1 1, .int .i64 0, .int .i64 300, .bool false] 159) = u := ⟨_, rfl⟩
  have iI : IInv w.heap.size (w.heap.size + 1 + 1) w.heap.size m ISt.start u := by
    rw [← eu]
    refine ⟨w.heap.size + 1, 1, #[.bool false, .int .i64 0, .int .i64 0, .int .i64 0, .int .i64 0, .int .i64 0, .slice none 0 0], .slice none 0 0, ?_⟩
    refine ⟨Blk.newAt (by simp), (Blk.newAt (by simp)).alloc _, rfl, by decide, by decide, by omega, rfl, World.ownsRow_nil _ _ _ _, ?_, by omega, Nat.le_refl _, by simp; omega⟩
    exact ((IsMap.new w #[] 0).alloc _).alloc _
  have bB : Below w.heap.size w u := by rw [← eu]; exact blw
  have II := Lib.hid iI
  have BB := Lib.hid bB
  rw [show min (max (300 : Int) 0) 100000 = 300 from by decide, eu]
  clear iI bB eu hmm hmk
  go_loopw [20] (fun i wr => ∃ (k : Nat) (s : ISt), i = .int .i64 (k : Int) ∧ k ≤ N ∧ IInv w.heap.size (w.heap.size + 1 + 1) w.heap.size m s wr ∧ s.Runs m (gs.drop k) t ∧ Below w.heap.size w wr) (fun i wr => N - (intOf i).toNat)
  case atStart => exact ⟨0, ISt.start, rfl, Nat.zero_le _, II.out, by simpa using HR.out, BB.out⟩
  case round =>
  obtain ⟨k, s, rfl, hk, hI, hR, hB⟩ := hrel
  have HI := Lib.hid hI
  have HRn := Lib.hid hR
  have HBw := Lib.hid hB
  have lw := hB.size
  clear hI hR hB II BB
  by_cases hlt : k < N
  · obtain ⟨g, eg⟩ : ∃ g, gs[k]'(by have := HN.out; omega) = g := ⟨_, rfl⟩
    obtain ⟨hkc, A, nv, e1, e2⟩ := HG.out.imem k (by have := HN.out; omega)
    rw [eg] at e1 e2
    obtain ⟨np, nn, nc, rfl⟩ := numz_form e2
    have hq : ∀ j v, j < 12 → (g.cells A (.slice np nn nc))[j]? = some v → wr.cell? ⟨gc, k * 12 + j, none⟩ = some v := fun j v hj hv => by
      have h1 := HC.out.2
      rw [HBw.out.cell (p := ⟨gc, k * 12 + j, none⟩) hgc]
      have h2 := h1.cellAt (k * 12 + j) (by omega)
      rw [h2, iflat_at cs k hkc j HC.out.1 hj, e1, hv]
    have q0 := hq 0 (.int .i64 A) (by omega) rfl
    have q1 := hq 1 (.int .i64 g.kind) (by omega) rfl
    have q2 := hq 2 (.int .i64 g.n) (by omega) rfl
    have q3 := hq 3 (.int .i64 g.m) (by omega) rfl
    have q4 := hq 4 (.bool g.on) (by omega) rfl
    have q5 := hq 5 (.string (bs g.name)) (by omega) rfl
    have q6 := hq 6 (.string (bs g.x)) (by omega) rfl
    have q7 := hq 7 (.string (bs g.y)) (by omega) rfl
    have q8 := hq 8 (.string (bs [])) (by omega) rfl
    have q9 := hq 9 (.string (bs [])) (by omega) rfl
    have q10 := hq 10 (.slice np nn nc) (by omega) rfl
    have q11 := hq 11 (.slice none 0 0) (by omega) rfl
    simp only [Nat.add_zero] at q0
    have hdrop : gs.drop k = g :: gs.drop (k + 1) := by rw [← eg]; exact List.drop_eq_getElem_cons _
    have hRk := HRn.out
    rw [hdrop] at hRk
    obtain ⟨hmay, hrest⟩ : s.may m g ∧ (s.act m g).Runs m (gs.drop (k + 1)) t := by cases hRk with | cons h1 h2 => exact ⟨h1, h2⟩
    have hgl : gc < wr.heap.size := by omega
    have hlw : w.heap.size ≤ wr.heap.size := lw
    have hI2 : IInv w.heap.size (w.heap.size + 1 + 1) w.heap.size m s (wr.alloc (.cells #[.int .i64 A, .int .i64 g.kind, .int .i64 g.n, .int .i64 g.m, .bool g.on, .string (bs g.name), .string (bs g.x), .string (bs g.y), .string (bs []), .string (bs []), .slice np nn nc, .slice none 0 0] 103)) := by
      obtain ⟨a, b, c, d, h⟩ := HI.out
      exact ⟨a, b, c, d, h.alloc _⟩
    have hn2 : Numz (wr.alloc (.cells #[.int .i64 A, .int .i64 g.kind, .int .i64 g.n, .int .i64 g.m, .bool g.on, .string (bs g.name), .string (bs g.x), .string (bs g.y), .string (bs []), .string (bs []), .slice np nn nc, .slice none 0 0] 103)) B' (.slice np nn nc) g.nums := numz_alloc (numz_below e2 HBw.out (Nat.le_refl _)) _
    have hD := ido_c w.heap.size (w.heap.size + 1 + 1) w.heap.size m s (wr.alloc (.cells #[.int .i64 A, .int .i64 g.kind, .int .i64 g.n, .int .i64 g.m, .bool g.on, .string (bs g.name), .string (bs g.x), .string (bs g.y), .string (bs []), .string (bs []), .slice np nn nc, .slice none 0 0] 103)) B' A (.slice np nn nc) g hI2 hmay hn2
    have HD := Lib.hid hD
    have HREST := Lib.hid hrest
    clear hq eg e1 e2 hdrop hRk hmay hrest hI2 hn2 hD
    go_wp2_with fail
    refine (HD.out).mono ?_
    rintro e w3 ⟨rfl, i3, b3⟩
    have I3 := Lib.hid i3
    have B3 := Lib.hid (HBw.out.trans (((Below.refl _ _).alloc lw _).trans b3))
    clear i3 b3
    go_wp2_with fail
    go_roundw
    case rel =>
      have hr2 : ∃ (k' : Nat) (s' : ISt), Value.int .i64 ((k : Int) + 1) = .int .i64 (k' : Int) ∧ k' ≤ N ∧ IInv w.heap.size (w.heap.size + 1 + 1) w.heap.size m s' w3 ∧ s'.Runs m (gs.drop k') t ∧ Below w.heap.size w w3 := ⟨k + 1, s.act m g, by go_num, by omega, I3.out, HREST.out, B3.out⟩
      first | exact hr2 | ((repeat apply Exists.intro); exact ⟨hr2, rfl⟩)
    case measure => simp [intOf]; omega
  · have e : k = N := by omega
    have hRk := HRn.out
    rw [List.drop_of_length_le (by have := HN.out; omega)] at hRk
    have hst : s = t := by cases hRk; rfl
    have HST := Lib.hid hst
    obtain ⟨gL, capL, lcs, v0, h⟩ := HI.out
    have hte : s.ended = true := by rw [hst]; exact HTE.out
    have hb := h.blk
    rw [hte] at hb
    have p24 : wr.cell? ⟨w.heap.size + 1 + 1, 24, none⟩ = some (.bool true) := (hb.cell 24).trans (icells_24 _ _ _ _ _ _ _)
    have p21 : wr.cell? ⟨w.heap.size + 1 + 1, 21, none⟩ = some (.slice (some ⟨gL, 0, none⟩) 1 capL) := (hb.cell 21).trans (icells_21 _ _ _ _ _ _ _ _)
    have r6 : wr.cell? ⟨gL, 6, none⟩ = some v0 := (h.lv.cell 6).trans (ilev_cells h.h7)
    have hfin : wr.ownsRow w.heap.size 65 11 v0 t.objs.length (iocells t.objs) := by rw [← hst]; exact h.own
    have HF := Lib.hid hfin
    clear hb h hfin hte hRk hst
    go_wp2_with fail
    go_ret3
    exact ⟨v0, rfl, HF.out, HBw.out⟩
theorem file_i (m : Md) (gs : List Gr) (t : ISt) (ho : ∀ g ∈ gs, g.Ok) (hr : ISt.start.Runs m gs t) (hte : t.ended = true) (hlen : gs.length ≤ 20000) (hne : gs ≠ []) (w : World) :
    Calls Tryz.prog 13 #[.string (bs (texts gs)), .int .i64 300] w fun e w' => ∃ v0, e = .returned (.tuple #[v0, .int .i64 0, .int .i64 0]) ∧ w'.ownsRow w.heap.size 65 11 v0 t.objs.length (iocells t.objs) ∧ Below w.heap.size w w' := by
  have htl := texts_len gs ho
  have h1 := parse_c gs hne ho hlen (by omega) w
  have h2 := fun cs v w' hC hG => plot_i m gs t hr hte hlen cs v w.heap.size w' hC hG hne
  obtain ⟨T, eT⟩ : ∃ T, bs (texts gs) = T := ⟨_, rfl⟩
  rw [eT] at h1 ⊢
  have H1 := Lib.hid h1
  have H2 := Lib.hid h2
  clear h1 h2 ho hr hte hlen hne htl eT
  go_enter Tryz.func13, Tryz.ntmps13
  go_wp2_with fail
  refine (H1.out).mono ?_
  rintro e w1 ⟨v, cs, rfl, hC, hG, hb⟩
  have H3 := Lib.hid (H2.out cs v w1 hC hG)
  have HB := Lib.hid hb
  clear hC hG hb
  go_wp2_with fail
  refine (H3.out).mono ?_
  rintro e w2 ⟨v0, rfl, hv, hb⟩
  have HV := Lib.hid (own_mono hv HB.out.size)
  have HB2 := Lib.hid (HB.out.trans (hb.mono HB.out.size))
  clear hv hb
  go_wp2_with fail
  go_ret3
  exact ⟨v0, rfl, HV.out, HB2.out⟩
end Go.Proofs.YtfajckkbinbpiaaGreatDoor
