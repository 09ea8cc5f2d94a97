/- The plain law of WordLines: line feeds change nothing but offsets. -/
import Derived.Test.YtgbkanbahclnhaaWordTake
namespace Go.Proofs.Ytgbkanbahclnhaa

/-- t is s with line feeds and carriage returns put in. -/
inductive Grown : List UInt8 → List UInt8 → Prop
  | nil : Grown [] []
  | keep (c : UInt8) {s t : List UInt8} : Grown s t → Grown (c :: s) (c :: t)
  | nl (c : UInt8) {s t : List UInt8} : c = 13 ∨ c = 10 → Grown s t → Grown s (c :: t)
theorem Grown.refl (s : List UInt8) : Grown s s := by
  induction s with
  | nil => exact .nil
  | cons c s ih => exact .keep c ih
/-- Two words that differ in their place alone; the second one stands in T where it says. -/
def Alike (T : List UInt8) (x y : Wd) : Prop := y.ext = x.ext ∧ y.first = x.first ∧ y.text = x.text ∧ x.at_ ≤ y.at_ ∧ x.text ≠ [] ∧ T[y.at_]? = x.text.head?
def AlikeAll (T : List UInt8) (l m : List Wd) : Prop := l.length = m.length ∧ ∀ (k : Nat) (x y : Wd), l[k]? = some x → m[k]? = some y → Alike T x y
theorem AlikeAll.snoc {T : List UInt8} {l m : List Wd} {x y : Wd} (h : AlikeAll T l m) (hx : Alike T x y) : AlikeAll T (l ++ [x]) (m ++ [y]) := by
  obtain ⟨h1, h2⟩ := h
  refine ⟨by simp [h1], ?_⟩
  intro k a b ha hb
  rcases Nat.lt_or_ge k l.length with hk | hk
  · rw [List.getElem?_append_left hk] at ha
    rw [List.getElem?_append_left (by omega)] at hb
    exact h2 k a b ha hb
  · rw [List.getElem?_append_right hk] at ha
    rw [List.getElem?_append_right (by omega)] at hb
    rw [← h1] at hb
    cases hkk : k - l.length with
    | zero => rw [hkk] at ha hb; simp at ha hb; subst ha hb; exact hx
    | succ n => rw [hkk] at ha; simp at ha
def Rel (T : List UInt8) (r q : Rd) : Prop := q.text = r.text ∧ q.group = r.group ∧ q.inner = r.inner ∧ AlikeAll T r.words q.words ∧ (r.text ≠ [] → r.at_ ≤ q.at_ ∧ T[q.at_]? = r.text.head?)
theorem rel_start (T : List UInt8) : Rel T Rd.start Rd.start := ⟨rfl, rfl, rfl, ⟨rfl, by intro k x y h; simp [Rd.start] at h⟩, fun h => absurd rfl h⟩
/-- One byte, taken by both. -/
theorem rel_take {T : List UInt8} {r q : Rd} {c : UInt8} {i j : Nat} (h : Rel T r q) (hij : i ≤ j) (hT : T[j]? = some c) :
    (∃ e, take r c i = .error e ∧ take q c j = .error e) ∨ (∃ r' q', take r c i = .ok r' ∧ take q c j = .ok q' ∧ Rel T r' q') := by
  obtain ⟨rw_, rt, ra, rg, ri⟩ := r
  obtain ⟨qw, qt, qa, qg, qi⟩ := q
  obtain ⟨h1, h2, h3, h4, h5⟩ := h
  simp only at h1 h2 h3 h4 h5
  subst h1 h2 h3
  unfold take
  simp only
  split
  · exact .inr ⟨_, _, rfl, rfl, rfl, rfl, rfl, h4, h5⟩
  split
  · exact .inl ⟨2, rfl, rfl⟩
  split
  · split
    · exact .inl ⟨2, rfl, rfl⟩
    · rename_i hne
      obtain ⟨h6, h7⟩ := h5 hne
      exact .inr ⟨_, _, rfl, rfl, rfl, rfl, rfl, h4.snoc ⟨rfl, rfl, rfl, h6, hne, h7⟩, fun h => absurd rfl h⟩
  split
  · split
    · exact .inl ⟨2, rfl, rfl⟩
    · exact .inr ⟨_, _, rfl, rfl, rfl, rfl, rfl, h4, h5⟩
  have e : qw.length = rw_.length := h4.1.symm
  rw [e]
  split
  · exact .inl ⟨6, rfl, rfl⟩
  split
  · exact .inl ⟨6, rfl, rfl⟩
  refine .inr ⟨_, _, rfl, rfl, rfl, rfl, rfl, h4, ?_⟩
  intro _
  by_cases hte : qt = []
  · simp only [hte, if_true]
    exact ⟨hij, by rw [hT]; rfl⟩
  · simp only [hte, if_false]
    obtain ⟨h6, h7⟩ := h5 hte
    refine ⟨h6, ?_⟩
    rw [h7]
    cases qt with
    | nil => exact absurd rfl hte
    | cons a l => rfl
theorem rel_run {T : List UInt8} {s t : List UInt8} (h : Grown s t) : ∀ (i j : Nat) (r q : Rd), i ≤ j → T.drop j = t → Rel T r q →
    (∃ e a b, run s i r = .error (a, e) ∧ run t j q = .error (b, e)) ∨ (∃ r' q', run s i r = .ok r' ∧ run t j q = .ok q' ∧ Rel T r' q') := by
  induction h with
  | nil => intro i j r q _ _ hr; exact .inr ⟨r, q, rfl, rfl, hr⟩
  | keep c _ ih =>
    intro i j r q hij hd hr
    have hT : T[j]? = some c := by
      have := congrArg (fun l : List UInt8 => l[0]?) hd
      simpa [List.getElem?_drop] using this
    have hd' := congrArg (List.drop 1) hd
    rw [List.drop_drop] at hd'
    rcases rel_take hr hij hT with ⟨e, h1, h2⟩ | ⟨r', q', h1, h2, h3⟩
    · exact .inl ⟨e, i, j, run_stop h1, run_stop h2⟩
    · rw [run_cons h1, run_cons h2]
      exact ih (i + 1) (j + 1) r' q' (by omega) hd' h3
  | nl c hc _ ih =>
    intro i j r q hij hd hr
    have hd' := congrArg (List.drop 1) hd
    rw [List.drop_drop] at hd'
    have ht : take q c j = .ok q := take_nl (by rcases hc with rfl | rfl <;> simp)
    rw [run_cons ht]
    exact ih i (j + 1) r q (by omega) hd' hr
theorem Grown.le {s t : List UInt8} (h : Grown s t) : s.length ≤ t.length := by
  induction h with
  | nil => simp
  | keep c _ ih => simp; omega
  | nl c _ _ ih => simp; omega
/-- Words of both: the same error, words alike. -/
theorem words_grown {s t : List UInt8} (h : Grown s t) (hl : t.length ≤ 1000000) : (words s).2.2 = (words t).2.2 ∧ AlikeAll t (words s).1 (words t).1 := by
  have hs := h.le
  have hnil : AlikeAll t [] [] := ⟨rfl, by intro k x y hh; simp at hh⟩
  rcases rel_run (T := t) h 0 0 Rd.start Rd.start (Nat.le_refl _) (by simp) (rel_start t) with ⟨e, a, b, h1, h2⟩ | ⟨r', q', h1, h2, h3⟩
  · rw [words_stop (by omega) h1, words_stop (by omega) h2]
    exact ⟨rfl, hnil⟩
  · obtain ⟨g1, g2, g3, g4, g5⟩ := h3
    by_cases ho : r'.text ≠ [] ∨ r'.group = true
    · rw [words_open (by omega) h1 ho, words_open (by omega) h2 (by rw [g1, g2]; exact ho)]
      exact ⟨rfl, hnil⟩
    · rw [words_done (by omega) h1 ho, words_done (by omega) h2 (by rw [g1, g2]; exact ho)]
      exact ⟨rfl, g4⟩
theorem Grown.put {s t : List UInt8} (h : Grown s t) (nl : List UInt8) (hn : ∀ c ∈ nl, c = 13 ∨ c = 10) (k : Nat) : Grown s (t.take k ++ nl ++ t.drop k) := by
  have front : ∀ (s t : List UInt8), Grown s t → Grown s (nl ++ t) := by
    intro s t hst
    induction nl with
    | nil => exact hst
    | cons c nl ih => exact .nl c (hn c (by simp)) (ih (fun d hd => hn d (by simp [hd])))
  induction h generalizing k with
  | nil => simpa using front [] [] .nil
  | keep c h' ih =>
    cases k with
    | zero => simpa using front _ _ (.keep c h')
    | succ k => simpa using Grown.keep c (ih k)
  | nl c hc h' ih =>
    cases k with
    | zero => simpa using front _ _ (.nl c hc h')
    | succ k => simpa using Grown.nl c hc (ih k)
end Go.Proofs.Ytgbkanbahclnhaa
