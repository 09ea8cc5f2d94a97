/- The plain law of WordBounds: words of many bytes, many words. -/
import Derived.Test.YtgbkanbahclnhaaWordLaw
namespace Go.Proofs.Ytgbkanbahclnhaa

theorem take_x {r : Rd} {i : Nat} (h1 : ¬ (r.text = [] ∧ r.words.length = 20000)) (h2 : r.text.length ≠ 10000) : take r 120 i = .ok ⟨r.words, r.text ++ [120], if r.text = [] then i else r.at_, r.group, r.inner⟩ := by
  unfold take
  rw [if_neg (by decide), if_neg (by decide), if_neg (by decide), if_neg (by decide), if_neg h1, if_neg h2]
theorem take_x_many {r : Rd} {i : Nat} (h1 : r.text = [] ∧ r.words.length = 20000) : take r 120 i = .error 6 := by
  unfold take
  rw [if_neg (by decide), if_neg (by decide), if_neg (by decide), if_neg (by decide), if_pos h1]
theorem take_x_long {r : Rd} {i : Nat} (h1 : r.text.length = 10000) : take r 120 i = .error 6 := by
  unfold take
  rw [if_neg (by decide), if_neg (by decide), if_neg (by decide), if_neg (by decide)]
  split
  · rfl
  · first | rfl | rw [if_pos h1]
theorem take_st {r : Rd} {i : Nat} (h : r.text ≠ []) : take r 42 i = .ok ⟨r.words ++ [⟨r.at_, r.group, r.inner == 0, r.text⟩], [], r.at_, r.group, if r.group then r.inner + 1 else r.inner⟩ := by
  unfold take
  rw [if_neg (by decide), if_neg (by decide), if_pos rfl, if_neg h]
/-- Up to 10000 bytes of one word. -/
theorem run_xs (m : Nat) : ∀ (i : Nat) (r : Rd), r.words = [] → r.text.length + m ≤ 10000 → ∃ a, run (List.replicate m 120) i r = .ok ⟨[], r.text ++ List.replicate m 120, a, r.group, r.inner⟩ := by
  induction m with
  | zero => intro i r h _; exact ⟨r.at_, by rw [← h]; simp [run]⟩
  | succ m ih =>
    intro i r h hl
    rw [List.replicate_succ, run_cons (take_x (by rw [h]; simp) (by omega))]
    obtain ⟨a, ha⟩ := ih (i + 1) ⟨r.words, r.text ++ [120], if r.text = [] then i else r.at_, r.group, r.inner⟩ h (by simp; omega)
    refine ⟨a, ?_⟩
    rw [ha]
    simp
theorem long_ok (n : Nat) (h0 : 0 < n) (h1 : n ≤ 10000) : ∃ a, words (List.replicate n 120 ++ [42]) = ([⟨a, false, true, List.replicate n 120⟩], 0, 0) := by
  obtain ⟨a, ha⟩ := run_xs n 0 Rd.start rfl (by simp [Rd.start]; omega)
  refine ⟨a, ?_⟩
  have hne : List.replicate n (120 : UInt8) ≠ [] := by intro h; have := congrArg List.length h; simp at this; omega
  have hr : run (List.replicate n 120 ++ [42]) 0 Rd.start = .ok ⟨[⟨a, false, true, List.replicate n 120⟩], [], a, false, 0⟩ := by
    rw [run_append, ha]
    simp only [Rd.start, List.nil_append]
    rw [run_cons (take_st (by exact hne))]
    simp [run]
  rw [words_done (by simp; omega) hr (by simp)]
theorem long_no_aux (n M q : Nat) (hM : M = 10000) (hn : n = M + (q + 1)) (h2 : n ≤ 20000) : words (List.replicate n 120 ++ [42]) = ([], 10000, 6) := by
  obtain ⟨a, ha⟩ := run_xs M 0 Rd.start rfl (by show 0 + M ≤ 10000; omega)
  have hr : run (List.replicate n 120 ++ [42]) 0 Rd.start = .error (M, 6) := by
    have e : List.replicate n (120 : UInt8) ++ [42] = List.replicate M 120 ++ (120 :: (List.replicate q 120 ++ [42])) := by
      rw [hn, ← List.replicate_append_replicate, List.replicate_succ]
      simp
    rw [e, run_append, ha]
    simp only [Rd.start, List.nil_append, List.length_replicate]
    rw [run_stop (take_x_long (by rw [List.length_replicate]; exact hM))]
    simp
  rw [words_stop (by simp; omega) hr, hM]
theorem long_no (n : Nat) (h1 : 10000 < n) (h2 : n ≤ 20000) : words (List.replicate n 120 ++ [42]) = ([], 10000, 6) := long_no_aux n 10000 (n - 10001) rfl (by omega) h2
/-- k words of one byte. -/
def pairs : Nat → List UInt8
  | 0 => []
  | k + 1 => 120 :: 42 :: pairs k
theorem pairs_length (k : Nat) : (pairs k).length = 2 * k := by
  induction k with
  | zero => rfl
  | succ k ih => simp [pairs, ih]; omega
theorem pairs_at (k j : Nat) (h : j < 2 * k) : (pairs k)[j]? = some (if j % 2 = 0 then 120 else 42) := by
  induction k generalizing j with
  | zero => omega
  | succ k ih =>
    match j with
    | 0 => rfl
    | 1 => rfl
    | j + 2 =>
      show (pairs k)[j]? = _
      rw [ih j (by omega)]
      congr 2
      have : (j + 2) % 2 = j % 2 := by omega
      rw [this]
theorem pairs_add (a b : Nat) : pairs (a + b) = pairs a ++ pairs b := by
  induction a with
  | zero => simp [pairs]
  | succ a ih => rw [show a + 1 + b = (a + b) + 1 by omega]; simp [pairs, ih]
theorem run_pairs (m : Nat) : ∀ (i : Nat) (r : Rd), r.text = [] → r.group = false → r.inner = 0 → r.words.length + m ≤ 20000 → ∃ r', run (pairs m) i r = .ok r' ∧ r'.text = [] ∧ r'.group = false ∧ r'.inner = 0 ∧ r'.words.length = r.words.length + m := by
  induction m with
  | zero => intro i r h1 h2 h3 _; exact ⟨r, rfl, h1, h2, h3, rfl⟩
  | succ m ih =>
    intro i r h1 h2 h3 hl
    rw [pairs, run_cons (take_x (by rintro ⟨_, h⟩; omega) (by rw [h1]; simp)), run_cons (take_st (by simp))]
    obtain ⟨r', e1, e2, e3, e4, e5⟩ := ih (i + 1 + 1) ⟨r.words ++ [⟨if r.text = [] then i else r.at_, r.group, r.inner == 0, r.text ++ [120]⟩], [], if r.text = [] then i else r.at_, r.group, if r.group then r.inner + 1 else r.inner⟩ rfl h2 (by simp [h2, h3]) (by simp; omega)
    exact ⟨r', e1, e2, e3, e4, by rw [e5]; simp; omega⟩
theorem many_ok (k : Nat) (h : k ≤ 20000) : ∃ l, words (pairs k) = (l, 0, 0) ∧ l.length = k := by
  obtain ⟨r', e1, e2, e3, e4, e5⟩ := run_pairs k 0 Rd.start rfl rfl rfl (by simp [Rd.start]; omega)
  refine ⟨r'.words, ?_, by rw [e5]; simp [Rd.start]⟩
  rw [words_done (by rw [pairs_length]; omega) e1 (by rw [e2, e3]; simp)]
theorem many_no (k : Nat) (h : 20000 < k) (h2 : k ≤ 100000) : words (pairs k) = ([], 40000, 6) := by
  obtain ⟨r', e1, e2, e3, e4, e5⟩ := run_pairs 20000 0 Rd.start rfl rfl rfl (by simp [Rd.start])
  have hr : run (pairs k) 0 Rd.start = .error (40000, 6) := by
    rw [show k = 20000 + ((k - 20001) + 1) by omega, pairs_add, run_append, e1, pairs_length, pairs]
    simp only []
    rw [run_stop (take_x_many ⟨e2, by rw [e5]; simp [Rd.start]⟩)]
  rw [words_stop (by rw [pairs_length]; omega) hr]
end Go.Proofs.Ytgbkanbahclnhaa
