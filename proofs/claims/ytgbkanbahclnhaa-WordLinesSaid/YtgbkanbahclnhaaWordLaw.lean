/- The plain law of package word: what Words returns, over lists of bytes, with no program in sight. -/
import Derived.Test.YtgbkanbahclnhaaBase
namespace Go.Proofs.Ytgbkanbahclnhaa

/-- A word. -/
structure Wd where
  at_ : Nat
  ext : Bool
  first : Bool
  text : List UInt8
  deriving DecidableEq
/-- What a reader holds. -/
structure Rd where
  words : List Wd
  text : List UInt8
  at_ : Nat
  group : Bool
  inner : Nat
  deriving DecidableEq
def Rd.start : Rd := ⟨[], [], 0, false, 0⟩
/-- A reader takes a byte that lies at i: what it then holds, or the error. -/
def take (r : Rd) (c : UInt8) (i : Nat) : Except Nat Rd :=
  if c = 13 ∨ c = 10 then .ok r
  else if c < 32 ∨ 126 < c then .error 2
  else if c = 42 then (if r.text = [] then .error 2 else .ok ⟨r.words ++ [⟨r.at_, r.group, r.inner == 0, r.text⟩], [], r.at_, r.group, if r.group then r.inner + 1 else r.inner⟩)
  else if c = 37 then (if r.text ≠ [] ∨ (r.group = true ∧ r.inner = 0) then .error 2 else .ok ⟨r.words, r.text, r.at_, !r.group, 0⟩)
  else if r.text = [] ∧ r.words.length = 20000 then .error 6
  else if r.text.length = 10000 then .error 6
  else .ok ⟨r.words, r.text ++ [c], if r.text = [] then i else r.at_, r.group, r.inner⟩
/-- The bytes from place i on. -/
def run : List UInt8 → Nat → Rd → Except (Nat × Nat) Rd
  | [], _, r => .ok r
  | c :: s, i, r => match take r c i with
    | .ok r' => run s (i + 1) r'
    | .error e => .error (i, e)
/-- What Words returns: the words, the place, the error. -/
def words (s : List UInt8) : List Wd × Nat × Nat :=
  if 1000000 < s.length then ([], 0, 6) else
  match run s 0 Rd.start with
  | .error (i, e) => ([], i, e)
  | .ok r => if r.text ≠ [] ∨ r.group = true then ([], s.length, 2) else (r.words, 0, 0)

/-- What a reader holds is within its bounds. -/
def Rd.Ok (r : Rd) : Prop := r.words.length ≤ 20000 ∧ (r.text ≠ [] → r.words.length < 20000) ∧ r.text.length ≤ 10000 ∧ r.inner ≤ r.words.length ∧ r.at_ ≤ 1000000 ∧ (r.group = false → r.inner = 0)
theorem Rd.start_ok : Rd.start.Ok := by simp [Rd.Ok, Rd.start]
theorem take_ok {r r' : Rd} {c : UInt8} {i : Nat} (h : r.Ok) (hi : i ≤ 1000000) (ht : take r c i = .ok r') : r'.Ok := by
  unfold take at ht
  obtain ⟨h1, h2, h3, h4, h5, h6⟩ := h
  split at ht
  · injection ht with ht; subst ht; exact ⟨h1, h2, h3, h4, h5, h6⟩
  split at ht
  · cases ht
  split at ht
  · split at ht
    · cases ht
    · rename_i hne
      injection ht with ht; subst ht
      have := h2 hne
      refine ⟨by simp; omega, by simp, by simp, ?_, h5, ?_⟩
      · simp; split <;> omega
      · intro hg; have hg' : r.group = false := hg; simp [hg', h6 hg']
  split at ht
  · split at ht
    · cases ht
    · rename_i hne
      injection ht with ht; subst ht
      exact ⟨h1, h2, h3, by simp, h5, by simp⟩
  split at ht
  · cases ht
  rename_i hlim
  split at ht
  · cases ht
  rename_i hlen
  injection ht with ht; subst ht
  refine ⟨h1, ?_, ?_, h4, ?_, h6⟩
  · intro _
    by_cases he : r.text = []
    · have : ¬ r.words.length = 20000 := fun hh => hlim ⟨he, hh⟩
      show r.words.length < 20000
      omega
    · exact h2 he
  · simp; omega
  · simp; split <;> omega
theorem run_cons {c : UInt8} {s : List UInt8} {i : Nat} {r r' : Rd} (h : take r c i = .ok r') : run (c :: s) i r = run s (i + 1) r' := by rw [run]; rw [h]
theorem run_stop {c : UInt8} {s : List UInt8} {i : Nat} {r : Rd} {e : Nat} (h : take r c i = .error e) : run (c :: s) i r = .error (i, e) := by rw [run]; rw [h]
theorem run_append (s t : List UInt8) (i : Nat) (r : Rd) : run (s ++ t) i r = match run s i r with | .ok r' => run t (i + s.length) r' | .error e => .error e := by
  induction s generalizing i r with
  | nil => simp [run]
  | cons c s ih =>
    rw [List.cons_append]
    cases h : take r c i with
    | error e => rw [run_stop h, run_stop h]
    | ok r' =>
      rw [run_cons h, run_cons h, ih]
      rw [show i + (c :: s).length = i + 1 + s.length by simp; omega]

theorem words_long {s : List UInt8} (h : 1000000 < s.length) : words s = ([], 0, 6) := by unfold words; rw [if_pos h]
theorem words_stop {s : List UInt8} {i e : Nat} (h : ¬ 1000000 < s.length) (hr : run s 0 Rd.start = .error (i, e)) : words s = ([], i, e) := by unfold words; rw [if_neg h, hr]
theorem words_open {s : List UInt8} {r : Rd} (h : ¬ 1000000 < s.length) (hr : run s 0 Rd.start = .ok r) (ho : r.text ≠ [] ∨ r.group = true) : words s = ([], s.length, 2) := by unfold words; rw [if_neg h, hr]; simp only [if_pos ho]
theorem words_done {s : List UInt8} {r : Rd} (h : ¬ 1000000 < s.length) (hr : run s 0 Rd.start = .ok r) (ho : ¬ (r.text ≠ [] ∨ r.group = true)) : words s = (r.words, 0, 0) := by unfold words; rw [if_neg h, hr]; simp only [if_neg ho]

/-- A word's cells, a string's bytes. -/
def bs (l : List UInt8) : ByteArray := ⟨l.toArray⟩
def Wd.cells (d : Wd) : List Value := [.int .i64 (d.at_ : Int), .bool d.ext, .bool d.first, .string (bs d.text)]
def wcells (l : List Wd) : List Value := l.flatMap Wd.cells
theorem wcells_nil : wcells [] = [] := rfl
theorem wcells_append (l m : List Wd) : wcells (l ++ m) = wcells l ++ wcells m := by simp [wcells]
theorem wcells_one (d : Wd) : wcells [d] = [.int .i64 (d.at_ : Int), .bool d.ext, .bool d.first, .string (bs d.text)] := rfl
theorem wcells_length (l : List Wd) : (wcells l).length = l.length * 4 := by
  induction l with
  | nil => rfl
  | cons d l ih => rw [show wcells (d :: l) = d.cells ++ wcells l from rfl]; simp [Wd.cells, ih]; omega
theorem wcells_at (l : List Wd) (k : Nat) (hk : k < l.length) (j : Nat) (hj : j < 4) : (wcells l)[k * 4 + j]? = (l[k]).cells[j]? := by
  induction l generalizing k with
  | nil => simp at hk
  | cons d l ih =>
    rw [show wcells (d :: l) = d.cells ++ wcells l from rfl]
    match k with
    | 0 => rw [List.getElem?_append_left (by simp [Wd.cells]; omega)]; simp
    | k + 1 =>
      rw [List.getElem?_append_right (by simp [Wd.cells]; omega)]
      have := ih k (by simpa using hk)
      simp only [List.getElem_cons_succ]
      rw [← this]
      congr 1
      simp [Wd.cells]; omega
def tcells (l : List UInt8) : List Value := l.map fun c => .int .u8 (c.toNat : Int)
theorem tcells_length (l : List UInt8) : (tcells l).length = l.length := by simp [tcells]
theorem tcells_append (l m : List UInt8) : tcells (l ++ m) = tcells l ++ tcells m := by simp [tcells]
end Go.Proofs.Ytgbkanbahclnhaa
