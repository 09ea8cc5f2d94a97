/- Walk: a group of one word. A walk: word.Words returns what the plain law says. -/
import Derived.Test.YtfajckkbinbpiaaGreatDoorM33
import Derived.Test.YtfajckkbinbpiaaGreatDoorM10
import Derived.Test.YtfajckkbinbpiaaGreatDoorM11
import Derived.Test.YtfajckkbinbpiaaGreatDoorM01
namespace Go.Proofs.YtfajckkbinbpiaaGreatDoor
open Go.RowKit
set_option linter.unusedVariables false
set_option linter.unusedSimpArgs false

theorem Gr.noAM (g : Gr) : g.word.take 2 ≠ [65, 77] := by cases g <;> simp [Gr.word]
set_option maxRecDepth 100000 in
set_option maxHeartbeats 2000000 in
theorem group_c (g : Gr) (he : g.ext = true) (ho : g.Ok) (w : World) (b o cap : Nat) (at_ : Int) (h0 : w.cell? ⟨b, o, none⟩ = some (.int .i64 at_)) (h1 : w.cell? ⟨b, o + 1, none⟩ = some (.bool true)) (h2 : w.cell? ⟨b, o + 2, none⟩ = some (.bool true)) (h3 : w.cell? ⟨b, o + 3, none⟩ = some (.string (bs g.word))) (hlt : b < w.heap.size) :
    Calls Tryz.prog 61 #[.slice (some ⟨b, o, none⟩) 1 cap] w fun e w' => ∃ v nv, e = .returned (.tuple #[v, .int .i64 0, .int .i64 0]) ∧ Numz w' w.heap.size nv g.nums ∧ Cmds w' w.heap.size v [g.cells 0 nv] ∧ Below w.heap.size w w' := by
  have hx : ∀ w, Calls Tryz.prog 93 #[.string (bs g.word), .string { data := #[65, 77] }] w fun e w' => e = .returned (.tuple #[.string (bs g.word), .bool false]) ∧ w = w' := fun w => cutP_no g.word [65, 77] w (by have := g.word_len ho; omega) (by decide) g.noAM
  have hy : ∀ w, Calls Tryz.prog 94 #[.string (bs g.word)] w fun e w' => ∃ nv, e = .returned (.tuple #[.agg #[.int .i64 0, .int .i64 g.kind, .int .i64 g.n, .int .i64 g.m, .bool g.on, .string (bs g.name), .string (bs g.x), .string (bs g.y), .string (bs []), .string (bs []), nv, .slice none 0 0], .int .i64 0]) ∧ Numz w' w.heap.size nv g.nums ∧ Below w.heap.size w w' := fun w => extended_c g he ho w
  obtain ⟨T, eT⟩ : ∃ T, bs g.word = T := ⟨_, rfl⟩
  rw [eT] at hx hy h3
  show Calls Tryz.prog 61 #[.slice (some ⟨b, o, none⟩) 1 cap] w fun e w' => ∃ v nv, e = .returned (.tuple #[v, .int .i64 0, .int .i64 0]) ∧ Numz w' w.heap.size nv g.nums ∧ Cmds w' w.heap.size v [[.int .i64 0, .int .i64 g.kind, .int .i64 g.n, .int .i64 g.m, .bool g.on, .string (bs g.name), .string (bs g.x), .string (bs g.y), .string (bs []), .string (bs []), nv, .slice none 0 0]] ∧ Below w.heap.size w w'
  obtain ⟨K, eK⟩ : ∃ x, g.kind = x := ⟨_, rfl⟩
  obtain ⟨N, eN⟩ : ∃ x, g.n = x := ⟨_, rfl⟩
  obtain ⟨M, eM⟩ : ∃ x, g.m = x := ⟨_, rfl⟩
  obtain ⟨O, eO⟩ : ∃ x, g.on = x := ⟨_, rfl⟩
  obtain ⟨Q, eQ⟩ : ∃ x, bs g.name = x := ⟨_, rfl⟩
  obtain ⟨X, eX⟩ : ∃ x, bs g.x = x := ⟨_, rfl⟩
  obtain ⟨Y, eY⟩ : ∃ x, bs g.y = x := ⟨_, rfl⟩
  obtain ⟨E, eE⟩ : ∃ x, bs [] = x := ⟨_, rfl⟩
  rw [eK, eN, eM, eO, eQ, eX, eY, eE] at hy ⊢
  obtain ⟨L, eL⟩ : ∃ x, g.nums = x := ⟨_, rfl⟩
  rw [eL] at hy ⊢
  have H1 := Lib.hid hx
  have H2 := Lib.hid hy
  clear hx hy eT eL eK eN eM eO eQ eX eY eE he ho
  go_enter Tryz.func61, Tryz.ntmps61
  go_wp2_with (go_at_call 93; ((with_reducible refine (H1.out _).mono ?_); rintro e w' ⟨rfl, rfl⟩))
  refine (H2.out _).mono ?_
  rintro e w1 ⟨nv, rfl, hn, hb⟩
  have hB1 : Below w.heap.size w w1 := Below.trans (by (repeat' (first | (with_reducible exact Below.refl _ _) | (with_reducible assumption) | (with_reducible refine below_drewN ?_ _) | (with_reducible refine Below.drew ?_) | (with_reducible refine Below.alloc ?_ ?_ _) | (with_reducible refine Below.setCell ?_ ?_ _) | omega | (simp; done) | (simp; omega)))) (hb.mono (by first | omega | (simp; done) | (simp; omega)))
  have k1_0 : Blk w1 (w.heap.size) 146 #[.int .i64 at_, .bool true, .bool true, .string T] := Blk.below (by (repeat' (first | (with_reducible assumption) | (with_reducible exact Blk.new _ _ _) | (exact Blk.newAt (by first | rfl | (simp; done) | omega)) | (with_reducible refine Blk.drewN ?_ _) | (with_reducible refine Blk.drew ?_) | (with_reducible refine Blk.alloc ?_ _) | (with_reducible apply Blk.set_) | (with_reducible refine Blk.far ?_ ?_ _) | rfl | omega | (simp; done) | (simp; omega)))) hb (by first | omega | (simp; done) | (simp; omega))
  have c1_0 := k1_0.cell
  have f1_0 := k1_0.frozen
  have l1_0 := k1_0.lt
  have l1 := hB1.size
  obtain ⟨np, nn, nc, rfl⟩ := numz_form hn
  have HN := Lib.hid hn
  clear hb hn
  go_wp2_with fail
  go_ret3
  refine ⟨_, .slice np nn nc, rfl, ?_, ⟨by simp, ?_⟩, (hB1.alloc l1 _).alloc (Nat.le_trans l1 (by simp)) _⟩
  · exact numz_mono (numz_alloc (numz_alloc HN.out _) _) (by simp)
  · have hq := own_of_blk (B := w.heap.size) (size := 12) (n := 1) (Blk.newAt (w := w1.alloc (.cells #[.int .i64 0, .int .i64 K, .int .i64 N, .int .i64 M, .bool O, .string (Q), .string (X), .string (Y), .string (E), .string (E), .slice np nn nc, .slice none 0 0] 103)) (t := 103) (cs := #[.int .i64 0, .int .i64 K, .int .i64 N, .int .i64 M, .bool O, .string (Q), .string (X), .string (Y), .string (E), .string (E), .slice np nn nc, .slice none 0 0]) (g := w1.heap.size + 1) (by simp)) (by decide) rfl (by omega)
    exact hq
end Go.Proofs.YtfajckkbinbpiaaGreatDoor
namespace Go.Proofs.YtfajckkbinbpiaaGreatDoor
open Go.RowKit
set_option linter.unusedVariables false
set_option linter.unusedSimpArgs false

theorem take_err {r : Rd} {c : UInt8} {i x : Nat} (h : take r c i = .error x) : x = 2 ∨ x = 6 := by
  unfold take at h
  split at h
  · cases h
  split at h
  · injection h with h; omega
  split at h
  · split at h
    · injection h with h; omega
    · cases h
  split at h
  · split at h
    · injection h with h; omega
    · cases h
  split at h
  · injection h with h; omega
  split at h
  · injection h with h; omega
  · cases h
/-- What Words returns. -/
def WordsIs (s : List UInt8) (w : World) (e : Ending) (w' : World) : Prop :=
  ∃ v, e = .returned (.tuple #[v, .int .i64 ((words s).2.1 : Int), .int .i64 ((words s).2.2 : Int)]) ∧ w'.ownsRow w.heap.size 146 4 v (words s).1.length (wcells (words s).1) ∧ Below w.heap.size w w'
theorem wordsIs_none {s : List UInt8} {w w' : World} {a e : Nat} (h : words s = ([], a, e)) (hb : Below w.heap.size w w') : WordsIs s w (.returned (.tuple #[.slice none 0 0, .int .i64 (a : Int), .int .i64 (e : Int)])) w' := by
  unfold WordsIs; rw [h]; exact ⟨_, rfl, World.ownsRow_nil _ _ _ _, hb⟩
theorem drop_at {s : List UInt8} {k : Nat} (hk : k < s.length) : s.drop k = s[k] :: s.drop (k + 1) := List.drop_eq_getElem_cons hk

set_option maxRecDepth 100000 in
set_option maxHeartbeats 4000000 in
theorem words_c (s : List UInt8) (w : World) (hs : s.length ≤ 9223372036854775807) : Calls Tryz.prog 60 #[.string (bs s)] w (WordsIs s w) := by
  obtain ⟨N, eN⟩ : ∃ N, s.length = N := ⟨_, rfl⟩
  have hsz : (bs s).size = N := by rw [bs_size, eN]
  rw [eN] at hs
  by_cases hlong : 1000000 < N
  · have hW := words_long (s := s) (by omega)
    have fin : ∀ w', Below w.heap.size w w' → WordsIs s w (.returned (.tuple #[.slice none 0 0, .int .i64 0, .int .i64 6])) w' := fun w' hb => wordsIs_none hW hb
    have FIN := Lib.hid fin
    clear fin hW
    obtain ⟨b, eb⟩ : ∃ b, bs s = b := ⟨_, rfl⟩
    rw [eb] at hsz ⊢
    have d0 : decide (1000000 < (N : Int)) = true := by simp; omega
    go_enter Tryz.func60, Tryz.ntmps60
    go_wp2_with fail
    refine bodyPost_ret (results_tmp3 rfl _ _ _) rfl ?_
    first | exact FIN.out _ (by go_grown) | (simp; exact FIN.out _ (by go_grown))
  have d0 : decide (1000000 < (N : Int)) = false := by simp; omega
  have hshort : ¬ 1000000 < s.length := by rw [eN]; exact hlong
  have fStop : ∀ (i x : Nat) w', run s 0 Rd.start = .error (i, x) → Below w.heap.size w w' → WordsIs s w (.returned (.tuple #[.slice none 0 0, .int .i64 (i : Int), .int .i64 (x : Int)])) w' := fun i x w' hr hb => wordsIs_none (words_stop hshort hr) hb
  have fOpen : ∀ (r : Rd) w', run s 0 Rd.start = .ok r → (r.text ≠ [] ∨ r.group = true) → Below w.heap.size w w' → WordsIs s w (.returned (.tuple #[.slice none 0 0, .int .i64 (N : Int), .int .i64 2])) w' := fun r w' hr ho hb => wordsIs_none (by rw [words_open hshort hr ho, eN]) hb
  have fDone : ∀ (r : Rd) v w', run s 0 Rd.start = .ok r → ¬ (r.text ≠ [] ∨ r.group = true) → w'.ownsRow w.heap.size 146 4 v r.words.length (wcells r.words) → Below w.heap.size w w' → WordsIs s w (.returned (.tuple #[v, .int .i64 0, .int .i64 0])) w' := by
    intro r v w' hr ho hv hb; unfold WordsIs; rw [words_done hshort hr ho]; exact ⟨v, rfl, hv, hb⟩
  have hAt := fun k c h w => bs_at s k c h w
  have FStop := Lib.hid fStop
  have FOpen := Lib.hid fOpen
  have FDone := Lib.hid fDone
  have HAt := Lib.hid hAt
  have HS := Lib.hid eN
  clear fStop fOpen fDone hAt hshort eN
  obtain ⟨b, eb⟩ : ∃ b, bs s = b := ⟨_, rfl⟩
  rw [eb] at hsz ⊢
  rw [eb] at HAt
  clear eb
  go_enter Tryz.func60, Tryz.ntmps60
  go_wp2_with fail
  go_loopw [6] (fun i wr => ∃ (k : Nat) (r : Rd), i = .int .i64 (k : Int) ∧ k ≤ N ∧ RdIs wr w.heap.size w.heap.size r ∧ r.Ok ∧ run (s.drop k) k r = run s 0 Rd.start ∧ Below w.heap.size w wr) (fun i _ => N - (intOf i).toNat)
  case atStart =>
    refine ⟨0, Rd.start, rfl, by omega, ⟨.slice none 0 0, .slice none 0 0, ?_, World.ownsRow_nil _ _ _ _, World.ownsRow_nil _ _ _ _, Nat.le_refl _⟩, Rd.start_ok, rfl, ?_⟩
    · (repeat' (first | (with_reducible assumption) | (with_reducible exact Blk.new _ _ _) | (exact Blk.newAt (by first | rfl | (simp; done) | omega)) | (with_reducible refine Blk.drewN ?_ _) | (with_reducible refine Blk.drew ?_) | (with_reducible refine Blk.alloc ?_ _) | (with_reducible apply Blk.set_) | (with_reducible refine Blk.far ?_ ?_ _) | rfl | omega | (simp; done) | (simp; omega)))
    · (repeat' (first | (with_reducible exact Below.refl _ _) | (with_reducible assumption) | (with_reducible refine below_drewN ?_ _) | (with_reducible refine Below.drew ?_) | (with_reducible refine Below.alloc ?_ ?_ _) | (with_reducible refine Below.setCell ?_ ?_ _) | omega | (simp; done) | (simp; omega)))
  case round =>
  obtain ⟨k, r, rfl, hk, hr, hok, hrun, hB⟩ := hrel
  have hRun := Lib.hid hrun
  have hR := Lib.hid hr
  have hOk := Lib.hid hok
  have lB := hB.size
  clear hrun hok
  by_cases hkN : k < N
  · have hkS : k < s.length := by have := HS.out; omega
    have hx := HAt.out k (s[k]) (List.getElem?_eq_getElem hkS)
    have d1 : decide ((k : Int) < (N : Int)) = true := by simp; omega
    obtain ⟨c, ec⟩ : ∃ c, s[k] = c := ⟨_, rfl⟩
    have hd := drop_at hkS
    rw [ec] at hx hd
    have hD := Lib.hid hd
    clear hd ec HAt hr
    as_aux_lemma =>
    go_wp2_with fail
    refine (take_c w.heap.size w.heap.size r c k wr hR.out hOk.out lB (by omega)).mono ?_
    rintro e w1 ⟨hcase, hb, hB1⟩
    have hb1 : Below w.heap.size w w1 := hB.trans hb
    rcases hcase with ⟨r', ht, rfl, hr'⟩ | ⟨x, ht, rfl⟩
    · have hR' := Lib.hid hr'
      have hT := Lib.hid ht
      clear hr' ht hb hB
      go_wp2_with fail
      go_roundw
      case rel =>
        refine ⟨k + 1, r', by simp, by omega, hR'.out, take_ok hOk.out (by omega) hT.out, ?_, hb1⟩
        have := hRun.out
        rw [hD.out, run_cons hT.out] at this
        exact this
      case measure => simp [intOf]; omega
    · have hxx := take_err ht
      have d2 : ((x : Int) == 0) = false := by simp; omega
      have hE : run s 0 Rd.start = .error (k, x) := by rw [← hRun.out, hD.out, run_stop ht]
      have HE := Lib.hid hE
      clear hE ht hb hB
      go_wp2_with fail
      refine bodyPost_ret (results_tmp3 rfl _ _ _) rfl ?_
      first | exact FStop.out _ _ _ HE.out hb1 | (simp; exact FStop.out _ _ _ HE.out hb1)
  · obtain rfl : N = k := by omega
    have d1 : decide ((N : Int) < (N : Int)) = false := by simp
    have hE : run s 0 Rd.start = .ok r := by rw [← hRun.out, List.drop_eq_nil_of_le (by have := HS.out; omega)]; rfl
    have HE := Lib.hid hE
    clear hE hRun HAt hr
    obtain ⟨wv, tv, hk, hws, hts, hle⟩ := hR.out
    have c0 := hk.cell
    obtain ⟨A, cap, rfl⟩ : ∃ A cap, tv = .slice A r.text.length cap := by
      rcases hts.2 with ⟨rfl, h0⟩ | ⟨g', cap, cur, rfl, _⟩
      · exact ⟨none, 0, by rw [h0]⟩
      · exact ⟨_, cap, rfl⟩
    have HW := Lib.hid hws
    clear hk hws hts
    by_cases h1 : r.text = []
    · have e1 : r.text.length = 0 := by rw [h1]; rfl
      rw [e1] at c0
      obtain ⟨gr, eg⟩ : ∃ b, r.group = b := ⟨_, rfl⟩
      rw [eg] at c0
      rcases gr with _ | _
      · have F := FDone.out r wv
        have F' := Lib.hid F
        have hn : ¬ (r.text ≠ [] ∨ r.group = true) := by rintro (h2 | h2); exact h2 h1; rw [eg] at h2; cases h2
        have HN := Lib.hid hn
        clear F hn h1 e1 eg
        as_aux_lemma =>
        go_wp2_with fail
        refine bodyPost_ret (results_tmp3 rfl _ _ _) rfl ?_
        first | exact F'.out _ HE.out HN.out HW.out hB | (simp; exact F'.out _ HE.out HN.out HW.out hB)
      · have F := FOpen.out r
        have F' := Lib.hid F
        have hn : (r.text ≠ [] ∨ r.group = true) := .inr eg
        have HN := Lib.hid hn
        clear F hn h1 e1 eg
        as_aux_lemma =>
        go_wp2_with fail
        refine bodyPost_ret (results_tmp3 rfl _ _ _) rfl ?_
        first | exact F'.out _ HE.out HN.out hB | (simp; exact F'.out _ HE.out HN.out hB)
    · have d2 : decide (0 < (r.text.length : Int)) = true := by have := List.length_pos_iff.2 h1; simp; omega
      have d3 : 0 < r.text.length := List.length_pos_iff.2 h1
      have F := FOpen.out r
      have F' := Lib.hid F
      have hn : (r.text ≠ [] ∨ r.group = true) := .inl h1
      have HN := Lib.hid hn
      clear F hn h1
      as_aux_lemma =>
      go_wp2_with fail
      refine bodyPost_ret (results_tmp3 rfl _ _ _) rfl ?_
      first | exact F'.out _ HE.out HN.out hB | (simp; exact F'.out _ HE.out HN.out hB)
end Go.Proofs.YtfajckkbinbpiaaGreatDoor
