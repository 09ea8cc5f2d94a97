/- A walk: word.Words returns what the plain law says. -/
import Derived.Test.YtfajckkbinbpiaaGreatDoorJ01
import Derived.Test.YtfajckkbinbpiaaGreatDoorJ06
namespace Go.Proofs.YtfajckkbinbpiaaGreatDoor
set_option maxRecDepth 100000
set_option maxHeartbeats 32000000
set_option linter.unusedVariables false
set_option linter.unusedSimpArgs false
open Go.RowKit
theorem take_err {r : Rd} {c : UInt8} {i x : Nat} (h : take r c i = .error x) : x = 2 ∨ x = 6 := by
  unfold take at h
  split at h
  · cases h
  split at h
  · injection h with h; omega
  split at h
  · split at h
    · injection h with h; omega
    · cases h
  split at h
  · split at h
    · injection h with h; omega
    · cases h
  split at h
  · injection h with h; omega
  split at h
  · injection h with h; omega
  · cases h
def WordsIs (s : List UInt8) (w : World) (e : Ending) (w' : World) : Prop :=
  ∃ v, e = .returned (.tuple #[v, .int .i64 ((words s).2.1 : Int), .int .i64 ((words s).2.2 : Int)]) ∧ w'.ownsRow w.heap.size 146 4 v (words s).1.length (wcells (words s).1) ∧ Below w.heap.size w w'
theorem wordsIs_none {s : List UInt8} {w w' : World} {a e : Nat} (h : words s = ([], a, e)) (hb : Below w.heap.size w w') : WordsIs s w (.returned (.tuple #[.slice none 0 0, .int .i64 (a : Int), .int .i64 (e : Int)])) w' := by
  unfold WordsIs; rw [h]; exact ⟨_, rfl, World.ownsRow_nil _ _ _ _, hb⟩
theorem drop_at {s : List UInt8} {k : Nat} (hk : k < s.length) : s.drop k = s[k] :: s.drop (k + 1) := List.drop_eq_getElem_cons hk
theorem words_c (s : List UInt8) (w : World) (hs : s.length ≤ 9223372036854775807) : Calls Tryz.prog 60 #[.string (bs s)] w (WordsIs s w) := by
  obtain ⟨N, eN⟩ : ∃ N, s.length = N := ⟨_, rfl⟩
  have hsz : (bs s).size = N := by rw [bs_size, eN]
  rw [eN] at hs
  by_cases hlong : 1000000 < N
  · have hW := words_long (s := s) (by omega)
    have fin : ∀ w', Below w.heap.size w w' → WordsIs s w (.returned (.tuple #[.slice none 0 0, .int .i64 0, .int .i64 6])) w' := fun w' hb => wordsIs_none hW hb
    have FIN := Lib.hid fin
    clear fin hW
    obtain ⟨b, eb⟩ : ∃ b, bs s = b := ⟨_, rfl⟩
    rw [eb] at hsz ⊢
    have d0 : decide (1000000 < (N : Int)) = true := by simp; omega
    go_enter Tryz.func60, Tryz.ntmps60
    go_wp2_with fail
    refine bodyPost_ret (results_tmp3 rfl _ _ _) rfl ?_
    first | exact FIN.out _ (by go_grown) | (simp; exact FIN.out _ (by go_grown))
  have d0 : decide (1000000 < (N : Int)) = false := by simp; omega
  have hshort : ¬ 1000000 < s.length := by rw [eN]; exact hlong
  have fStop : ∀ (i x : Nat) w', run s 0 Rd.start = .error (i, x) → Below w.heap.size w w' → WordsIs s w (.returned (.tuple #[.slice none 0 0, .int .i64 (i : Int), .int .i64 (x : Int)])) w' := fun i x w' hr hb => wordsIs_none (words_stop hshort hr) hb
  have fOpen : ∀ (r : Rd) w', run s 0 Rd.start = .ok r → (r.text ≠ [] ∨ r.group = true) → Below w.heap.size w w' → WordsIs s w (.returned (.tuple #[.slice none 0 0, .int .i64 (N : Int), .int .i64 2])) w' := fun r w' hr ho hb => wordsIs_none (by rw [words_open hshort hr ho, eN]) hb
  have fDone : ∀ (r : Rd) v w', run s 0 Rd.start = .ok r → ¬ (r.text ≠ [] ∨ r.group = true) → w'.ownsRow w.heap.size 146 4 v r.words.length (wcells r.words) → Below w.heap.size w w' → WordsIs s w (.returned (.tuple #[v, .int .i64 0, .int .i64 0])) w' := by
    intro r v w' hr ho hv hb; unfold WordsIs; rw [words_done hshort hr ho]; exact ⟨v, rfl, hv, hb⟩
  have hAt := fun k c h w => bs_at s k c h w
  have FStop := Lib.hid fStop
  have FOpen := Lib.hid fOpen
  have FDone := Lib.hid fDone
  have HAt := Lib.hid hAt
  have HS := Lib.hid eN
  clear fStop fOpen fDone hAt hshort eN
  obtain ⟨b, eb⟩ : ∃ b, bs s = b := ⟨_, rfl⟩
  rw [eb] at hsz ⊢
  rw [eb] at HAt
  clear eb
  go_enter Tryz.func60, Tryz.ntmps60
  go_wp2_with fail
  go_loopw [6] (fun i wr => ∃ (k : Nat) (r : Rd), i = .int .i64 (k : Int) ∧ k ≤ N ∧ RdIs wr w.heap.size w.heap.size r ∧ r.Ok ∧ run (s.drop k) k r = run s 0 Rd.start ∧ Below w.heap.size w wr) (fun i _ => N - (intOf i).toNat)
  case atStart =>
    refine ⟨0, Rd.start, rfl, by omega, ⟨.slice none 0 0, .slice none 0 0, ?_, World.ownsRow_nil _ _ _ _, World.ownsRow_nil _ _ _ _, Nat.le_refl _⟩, Rd.start_ok, rfl, ?_⟩
    · exact bkw
    · exact blw
  case round =>
  obtain ⟨k, r, rfl, hk, hr, hok, hrun, hB⟩ := hrel
  have hRun := Lib.hid hrun
  have hR := Lib.hid hr
  have hOk := Lib.hid hok
  have lB := hB.size
  clear hrun hok
  by_cases hkN : k < N
  · have hkS : k < s.length := by have := HS.out; omega
    have hx := HAt.out k (s[k]) (List.getElem?_eq_getElem hkS)
    have d1 : decide ((k : Int) < (N : Int)) = true := by simp; omega
    obtain ⟨c, ec⟩ : ∃ c, s[k] = c := ⟨_, rfl⟩
    have hd := drop_at hkS
    rw [ec] at hx hd
    have hD := Lib.hid hd
    clear hd ec HAt hr
    as_aux_lemma =>
    go_wp2_with fail
    refine (take_c w.heap.size w.heap.size r c k wr hR.out hOk.out lB (by omega)).mono ?_
    rintro e w1 ⟨hcase, hb, hB1⟩
    have hb1 : Below w.heap.size w w1 := hB.trans hb
    rcases hcase with ⟨r', ht, rfl, hr'⟩ | ⟨x, ht, rfl⟩
    · have hR' := Lib.hid hr'
      have hT := Lib.hid ht
      clear hr' ht hb hB
      go_wp2_with fail
      go_roundw
      case rel =>
        refine ⟨k + 1, r', by simp, by omega, hR'.out, take_ok hOk.out (by omega) hT.out, ?_, hb1⟩
        have := hRun.out
        rw [hD.out, run_cons hT.out] at this
        exact this
      case measure => simp [intOf]; omega
    · have hxx := take_err ht
      have d2 : ((x : Int) == 0) = false := by simp; omega
      have hE : run s 0 Rd.start = .error (k, x) := by rw [← hRun.out, hD.out, run_stop ht]
      have HE := Lib.hid hE
      clear hE ht hb hB
      go_wp2_with fail
      refine bodyPost_ret (results_tmp3 rfl _ _ _) rfl ?_
      first | exact FStop.out _ _ _ HE.out hb1 | (simp; exact FStop.out _ _ _ HE.out hb1)
  · obtain rfl : N = k := by omega
    have d1 : decide ((N : Int) < (N : Int)) = false := by simp
    have hE : run s 0 Rd.start = .ok r := by rw [← hRun.out, List.drop_eq_nil_of_le (by have := HS.out; omega)]; rfl
    have HE := Lib.hid hE
    clear hE hRun HAt hr
    obtain ⟨wv, tv, hk, hws, hts, hle⟩ := hR.out
    have c0 := hk.cell
    obtain ⟨A, cap, rfl⟩ : ∃ A cap, tv = .slice A r.text.length cap := by
      rcases hts.2 with ⟨rfl, h0⟩ | ⟨g', cap, cur, rfl, _⟩
      · exact ⟨none, 0, by rw [h0]⟩
      · exact ⟨_, cap, rfl⟩
    have HW := Lib.hid hws
    clear hk hws hts
    by_cases h1 : r.text = []
    · have e1 : r.text.length = 0 := by rw [h1]; rfl
      rw [e1] at c0
      obtain ⟨gr, eg⟩ : ∃ b, r.group = b := ⟨_, rfl⟩
      rw [eg] at c0
      rcases gr with _ | _
      · have F := FDone.out r wv
        have F' := Lib.hid F
        have hn : ¬ (r.text ≠ [] ∨ r.group = true) := by rintro (h2 | h2); exact h2 h1; rw [eg] at h2; cases h2
        have HN := Lib.hid hn
        clear F hn h1 e1 eg
        as_aux_lemma =>
        go_wp2_with fail
        refine bodyPost_ret (results_tmp3 rfl _ _ _) rfl ?_
        first | exact F'.out _ HE.out HN.out HW.out hB | (simp; exact F'.out _ HE.out HN.out HW.out hB)
      · have F := FOpen.out r
        have F' := Lib.hid F
        have hn : (r.text ≠ [] ∨ r.group = true) := .inr eg
        have HN := Lib.hid hn
        clear F hn h1 e1 eg
        as_aux_lemma =>
        go_wp2_with fail
        refine bodyPost_ret (results_tmp3 rfl _ _ _) rfl ?_
        first | exact F'.out _ HE.out HN.out hB | (simp; exact F'.out _ HE.out HN.out hB)
    · have d2 : decide (0 < (r.text.length : Int)) = true := by have := List.length_pos_iff.2 h1; simp; omega
      have d3 : 0 < r.text.length := List.length_pos_iff.2 h1
      have F := FOpen.out r
      have F' := Lib.hid F
      have hn : (r.text ≠ [] ∨ r.group = true) := .inl h1
      have HN := Lib.hid hn
      clear F hn h1
      as_aux_lemma =>
      go_wp2_with fail
      refine bodyPost_ret (results_tmp3 rfl _ _ _) rfl ?_
      first | exact F'.out _ HE.out HN.out hB | (simp; exact F'.out _ HE.out HN.out hB)
end Go.Proofs.YtfajckkbinbpiaaGreatDoor
