/- The plain law of WordRows: words that are written one after the other, in groups or not, are returned. -/
import Derived.Test.YtgbkanbahclnhaaWordTake
namespace Go.Proofs.Ytgbkanbahclnhaa

/-- A byte that may stand in a word. -/
def Good (c : UInt8) : Prop := 32 ≤ c.toNat ∧ c.toNat ≤ 126 ∧ c.toNat ≠ 42 ∧ c.toNat ≠ 37
theorem take_good {r : Rd} {c : UInt8} {i : Nat} (h : Good c) (h1 : ¬ (r.text = [] ∧ r.words.length = 20000)) (h2 : r.text.length ≠ 10000) :
    take r c i = .ok ⟨r.words, r.text ++ [c], if r.text = [] then i else r.at_, r.group, r.inner⟩ := by
  obtain ⟨g1, g2, g3, g4⟩ := h
  rw [take_plain (by omega) g3 g4, if_neg h1, if_neg h2]
theorem run_more (x : List UInt8) : ∀ (i : Nat) (r : Rd), (∀ c ∈ x, Good c) → r.text ≠ [] → r.text.length + x.length ≤ 10000 → run x i r = .ok ⟨r.words, r.text ++ x, r.at_, r.group, r.inner⟩ := by
  induction x with
  | nil => intro i r _ _ _; simp [run]
  | cons c x ih =>
    intro i r hg hne hl
    simp only [List.length_cons] at hl
    rw [run_cons (take_good (hg c (by simp)) (fun h => hne h.1) (by omega)), ih (i + 1) _ (fun d hd => hg d (by simp [hd])) (by simp) (by simp; omega)]
    simp [hne]
theorem run_text (x : List UInt8) (i : Nat) (r : Rd) (hg : ∀ c ∈ x, Good c) (hx : x ≠ []) (ht : r.text = []) (hw : r.words.length ≠ 20000) (hl : x.length ≤ 10000) : run x i r = .ok ⟨r.words, x, i, r.group, r.inner⟩ := by
  match x, hx with
  | c :: x, _ =>
    simp only [List.length_cons] at hl
    rw [run_cons (take_good (hg c (by simp)) (fun h => hw h.2) (by rw [ht]; simp)), run_more x (i + 1) _ (fun d hd => hg d (by simp [hd])) (by simp) (by simp [ht]; omega)]
    simp [ht]
/-- What has been written so far is read as the words wanted so far. -/
def Sofar (s : List UInt8) (want : List Wd) (op : Bool) : Prop :=
  ∃ r, run s 0 Rd.start = .ok r ∧ r.words = want ∧ r.text = [] ∧ r.group = op ∧ (op = true → r.inner ≠ 0) ∧ (op = false → r.inner = 0)
theorem sofar_nil : Sofar [] [] false := ⟨Rd.start, rfl, rfl, rfl, rfl, by simp, fun _ => rfl⟩
/-- A reader behind a word. -/
theorem sofar_word {s x : List UInt8} {r : Rd} (hr : run s 0 Rd.start = .ok r) (ht : r.text = []) (hg : ∀ c ∈ x, Good c) (hx : x ≠ []) (hw : r.words.length ≠ 20000) (hl : x.length ≤ 10000) :
    run (s ++ (x ++ [42])) 0 Rd.start = .ok ⟨r.words ++ [⟨s.length, r.group, r.inner == 0, x⟩], [], s.length, r.group, if r.group then r.inner + 1 else r.inner⟩ := by
  rw [run_append, hr]
  simp only [Nat.zero_add]
  rw [run_append, run_text x s.length r hg hx ht hw hl]
  simp only []
  rw [run_cons (by rw [take_star rfl, if_neg hx])]
  rfl
theorem sofar_pct {s : List UInt8} {r : Rd} (hr : run s 0 Rd.start = .ok r) (ht : r.text = []) (hi : ¬ (r.group = true ∧ r.inner = 0)) : run (s ++ [37]) 0 Rd.start = .ok ⟨r.words, r.text, r.at_, !r.group, 0⟩ := by
  rw [run_append, hr]
  simp only []
  rw [run_cons (by rw [take_pct rfl, if_neg (by rintro (h | h); exact h ht; exact hi h)])]
  rfl
theorem sofar_same {s x : List UInt8} {want : List Wd} {op : Bool} (h : Sofar s want op) (hg : ∀ c ∈ x, Good c) (hx : x ≠ []) (hw : want.length ≠ 20000) (hl : x.length ≤ 10000) :
    Sofar (s ++ (x ++ [42])) (want ++ [⟨s.length, op, !op || !op, x⟩]) op := by
  obtain ⟨r, hr, rfl, ht, rfl, h1, h2⟩ := h
  refine ⟨_, sofar_word hr ht hg hx hw hl, ?_, rfl, rfl, ?_, ?_⟩
  · have e : (r.inner == 0) = (!r.group || !r.group) := by
      cases hgr : r.group
      · simp [h2 hgr]
      · have := h1 hgr; simp [this]
    rw [e]
  · intro hgr; simp [hgr]
  · intro hgr; simp [hgr, h2 hgr]
theorem sofar_turn {s x : List UInt8} {want : List Wd} {op : Bool} (h : Sofar s want op) (hg : ∀ c ∈ x, Good c) (hx : x ≠ []) (hw : want.length ≠ 20000) (hl : x.length ≤ 10000) :
    Sofar ((s ++ [37]) ++ (x ++ [42])) (want ++ [⟨(s ++ [37]).length, !op, true, x⟩]) (!op) := by
  obtain ⟨r, hr, rfl, ht, rfl, h1, h2⟩ := h
  have hp := sofar_pct hr ht (fun hh => h1 hh.1 hh.2)
  refine ⟨_, sofar_word hp (by exact ht) hg hx hw hl, ?_, rfl, rfl, ?_, ?_⟩
  · rfl
  · intro hgr; simp [hgr]
  · intro hgr; simp [hgr]
theorem sofar_done {s : List UInt8} {want : List Wd} (h : Sofar s want false) (hs : s.length ≤ 1000000) : words s = (want, 0, 0) := by
  obtain ⟨r, hr, rfl, ht, hg, _, _⟩ := h
  exact words_done (by omega) hr (by rw [ht, hg]; simp)
theorem sofar_shut {s : List UInt8} {want : List Wd} (h : Sofar s want true) : Sofar (s ++ [37]) want false := by
  obtain ⟨r, hr, rfl, ht, hg, h1, h2⟩ := h
  exact ⟨_, sofar_pct hr ht (fun hh => h1 rfl hh.2), rfl, ht, by simp [hg], by simp, fun _ => rfl⟩
end Go.Proofs.Ytgbkanbahclnhaa
