/- Small facts on worlds and numbers that the proofs of this seat share. The plain law of package word: what Words returns, over lists of bytes, with no program in sight. Small facts on strings as lists of bytes. Walks: lengths and coordinates in millimetres, format 2.4. Walks: HasPrefix, CutPrefix, Cut at one byte, over lists of bytes. -/
import Derived.BigQuiet
import Derived.Deep.Draws
import Derived.Deep.QuietTactic
import Derived.Handy
import Derived.Laws.Concat
import Derived.Laws.Externs
import Derived.Laws.Rows
import Derived.Laws.StandIn
import Derived.Lib.Bytealg
import Derived.Lib.Hide
import Derived.Lib.QuietBelow
import Derived.Lib.Strings
import Derived.OwnWalk
import Derived.WalkKit
import Derived.WalkLawsBesides
import Derived.WalkSpells
import Derived.Test.YtfajckkbinbpiaaGreatDoorProg
namespace Go.Proofs.YtfajckkbinbpiaaGreatDoor
set_option maxRecDepth 100000
set_option maxHeartbeats 32000000
set_option linter.unusedVariables false
set_option linter.unusedSimpArgs false
open Go.RowKit
def Blk (w : World) (g : Nat) (t : TypeId) (cs : Array Value) : Prop := w.heap[g]? = some (.cells cs t (0, 0))
section
variable {w w' : World} {g : Nat} {t : TypeId} {cs : Array Value}
theorem Blk.lt (h : Blk w g t cs) : g < w.heap.size := by
  rcases Nat.lt_or_ge g w.heap.size with hlt | hge
  · exact hlt
  · unfold Blk at h; rw [Array.getElem?_eq_none hge] at h; cases h
theorem Blk.cell (h : Blk w g t cs) (i : Nat) : w.cell? ⟨g, i, none⟩ = cs[i]? := cell_of_row w g i cs t (0, 0) h
theorem Blk.frozen (h : Blk w g t cs) (i : Nat) : w.frozen? ⟨g, i, none⟩ = false := by
  unfold Blk at h
  simp [World.frozen?, h]
theorem Blk.new (w : World) (t : TypeId) (cs : Array Value) : Blk (w.alloc (.cells cs t)) w.heap.size t cs := heap_alloc_new w _
theorem Blk.newAt {w : World} {t : TypeId} {cs : Array Value} {g : Nat} (e : g = w.heap.size) : Blk (w.alloc (.cells cs t)) g t cs := by subst e; exact heap_alloc_new w _
theorem Blk.drew (h : Blk w g t cs) : Blk w.drew g t cs := h
theorem Blk.drewN (h : Blk w g t cs) (n : Nat) : Blk (w.drewN n) g t cs := h
theorem Blk.alloc (h : Blk w g t cs) (o : Obj) : Blk (w.alloc o) g t cs := (Below.heap_alloc w o g h.lt).trans h
theorem Blk.set_ (h : Blk w g t cs) (i : Nat) (u : Value) {cs' : Array Value} (e : cs.setIfInBounds i u = cs') : Blk (w.setCell ⟨g, i, none⟩ u) g t cs' := by
  subst e
  unfold Blk at h ⊢
  simp [World.setCell, Array.getElem?_modify, h]
theorem Blk.far (h : Blk w g t cs) {p : Addr} (hp : g ≠ p.block) (u : Value) : Blk (w.setCell p u) g t cs := (Below.heap_setCell w p u g hp).trans h
theorem Blk.below {B : Nat} (h : Blk w g t cs) (hb : Below B w w') (hg : g < B) : Blk w' g t cs := (hb.block g hg).trans h
end
theorem bcell {W w1 : World} (hb : Below W.heap.size W w1) : (∀ b o, b < W.heap.size → w1.cell? ⟨b, o, none⟩ = W.cell? ⟨b, o, none⟩) ∧ (∀ b o, b < W.heap.size → w1.frozen? ⟨b, o, none⟩ = W.frozen? ⟨b, o, none⟩) :=
  ⟨fun b o h => hb.cell (p := ⟨b, o, none⟩) h, fun b o h => hb.frozen (p := ⟨b, o, none⟩) h⟩
theorem blk_of_cell {w : World} {a : Addr} {v : Value} (h : w.cell? a = some v) : a.block < w.heap.size := by
  rcases Nat.lt_or_ge a.block w.heap.size with hlt | hge
  · exact hlt
  · unfold World.cell? at h; rw [Array.getElem?_eq_none hge] at h; simp at h
theorem blw {B : Nat} {w w1 : World} (h : Below B w w1 := by (repeat' (first | (with_reducible exact Below.refl _ _) | (with_reducible assumption) | (with_reducible refine below_drewN ?_ _) | (with_reducible refine Below.drew ?_) | (with_reducible refine Below.alloc ?_ ?_ _) | (with_reducible refine Below.setCell ?_ ?_ _) | omega | (simp; done) | (simp; omega)))) : Below B w w1 := h
theorem bkw {w : World} {g : Nat} {t : TypeId} {cs : Array Value} (h : Blk w g t cs := by (repeat' (first | (with_reducible assumption) | (with_reducible exact Blk.new _ _ _) | (exact Blk.newAt (by first | rfl | (simp; done) | omega)) | (with_reducible refine Blk.drewN ?_ _) | (with_reducible refine Blk.drew ?_) | (with_reducible refine Blk.alloc ?_ _) | (with_reducible apply Blk.set_) | (with_reducible refine Blk.far ?_ ?_ _) | rfl | omega | (simp; done) | (simp; omega)))) : Blk w g t cs := h
end Go.Proofs.YtfajckkbinbpiaaGreatDoor
namespace Go.Proofs.YtfajckkbinbpiaaGreatDoor
set_option maxRecDepth 100000
set_option maxHeartbeats 32000000
set_option linter.unusedVariables false
set_option linter.unusedSimpArgs false
structure Wd where
  at_ : Nat
  ext : Bool
  first : Bool
  text : List UInt8
  deriving DecidableEq
structure Rd where
  words : List Wd
  text : List UInt8
  at_ : Nat
  group : Bool
  inner : Nat
  deriving DecidableEq
def Rd.start : Rd := ⟨[], [], 0, false, 0⟩
def take (r : Rd) (c : UInt8) (i : Nat) : Except Nat Rd :=
  if c = 13 ∨ c = 10 then .ok r
  else if c < 32 ∨ 126 < c then .error 2
  else if c = 42 then (if r.text = [] then .error 2 else .ok ⟨r.words ++ [⟨r.at_, r.group, r.inner == 0, r.text⟩], [], r.at_, r.group, if r.group then r.inner + 1 else r.inner⟩)
  else if c = 37 then (if r.text ≠ [] ∨ (r.group = true ∧ r.inner = 0) then .error 2 else .ok ⟨r.words, r.text, r.at_, !r.group, 0⟩)
  else if r.text = [] ∧ r.words.length = 20000 then .error 6
  else if r.text.length = 10000 then .error 6
  else .ok ⟨r.words, r.text ++ [c], if r.text = [] then i else r.at_, r.group, r.inner⟩
def run : List UInt8 → Nat → Rd → Except (Nat × Nat) Rd
  | [], _, r => .ok r
  | c :: s, i, r => match take r c i with
    | .ok r' => run s (i + 1) r'
    | .error e => .error (i, e)
def words (s : List UInt8) : List Wd × Nat × Nat :=
  if 1000000 < s.length then ([], 0, 6) else
  match run s 0 Rd.start with
  | .error (i, e) => ([], i, e)
  | .ok r => if r.text ≠ [] ∨ r.group = true then ([], s.length, 2) else (r.words, 0, 0)
def Rd.Ok (r : Rd) : Prop := r.words.length ≤ 20000 ∧ (r.text ≠ [] → r.words.length < 20000) ∧ r.text.length ≤ 10000 ∧ r.inner ≤ r.words.length ∧ r.at_ ≤ 1000000 ∧ (r.group = false → r.inner = 0)
theorem Rd.start_ok : Rd.start.Ok := by simp [Rd.Ok, Rd.start]
theorem take_ok {r r' : Rd} {c : UInt8} {i : Nat} (h : r.Ok) (hi : i ≤ 1000000) (ht : take r c i = .ok r') : r'.Ok := by
  unfold take at ht
  obtain ⟨h1, h2, h3, h4, h5, h6⟩ := h
  split at ht
  · injection ht with ht; subst ht; exact ⟨h1, h2, h3, h4, h5, h6⟩
  split at ht
  · cases ht
  split at ht
  · split at ht
    · cases ht
    · rename_i hne
      injection ht with ht; subst ht
      have := h2 hne
      refine ⟨by simp; omega, by simp, by simp, ?_, h5, ?_⟩
      · simp; split <;> omega
      · intro hg; have hg' : r.group = false := hg; simp [hg', h6 hg']
  split at ht
  · split at ht
    · cases ht
    · rename_i hne
      injection ht with ht; subst ht
      exact ⟨h1, h2, h3, by simp, h5, by simp⟩
  split at ht
  · cases ht
  rename_i hlim
  split at ht
  · cases ht
  rename_i hlen
  injection ht with ht; subst ht
  refine ⟨h1, ?_, ?_, h4, ?_, h6⟩
  · intro _
    by_cases he : r.text = []
    · have : ¬ r.words.length = 20000 := fun hh => hlim ⟨he, hh⟩
      show r.words.length < 20000
      omega
    · exact h2 he
  · simp; omega
  · simp; split <;> omega
theorem run_cons {c : UInt8} {s : List UInt8} {i : Nat} {r r' : Rd} (h : take r c i = .ok r') : run (c :: s) i r = run s (i + 1) r' := by rw [run]; rw [h]
theorem run_stop {c : UInt8} {s : List UInt8} {i : Nat} {r : Rd} {e : Nat} (h : take r c i = .error e) : run (c :: s) i r = .error (i, e) := by rw [run]; rw [h]
theorem run_append (s t : List UInt8) (i : Nat) (r : Rd) : run (s ++ t) i r = match run s i r with | .ok r' => run t (i + s.length) r' | .error e => .error e := by
  induction s generalizing i r with
  | nil => simp [run]
  | cons c s ih =>
    rw [List.cons_append]
    cases h : take r c i with
    | error e => rw [run_stop h, run_stop h]
    | ok r' =>
      rw [run_cons h, run_cons h, ih]
      rw [show i + (c :: s).length = i + 1 + s.length by simp; omega]
theorem words_long {s : List UInt8} (h : 1000000 < s.length) : words s = ([], 0, 6) := by unfold words; rw [if_pos h]
theorem words_stop {s : List UInt8} {i e : Nat} (h : ¬ 1000000 < s.length) (hr : run s 0 Rd.start = .error (i, e)) : words s = ([], i, e) := by unfold words; rw [if_neg h, hr]
theorem words_open {s : List UInt8} {r : Rd} (h : ¬ 1000000 < s.length) (hr : run s 0 Rd.start = .ok r) (ho : r.text ≠ [] ∨ r.group = true) : words s = ([], s.length, 2) := by unfold words; rw [if_neg h, hr]; simp only [if_pos ho]
theorem words_done {s : List UInt8} {r : Rd} (h : ¬ 1000000 < s.length) (hr : run s 0 Rd.start = .ok r) (ho : ¬ (r.text ≠ [] ∨ r.group = true)) : words s = (r.words, 0, 0) := by unfold words; rw [if_neg h, hr]; simp only [if_neg ho]
def bs (l : List UInt8) : ByteArray := ⟨l.toArray⟩
def Wd.cells (d : Wd) : List Value := [.int .i64 (d.at_ : Int), .bool d.ext, .bool d.first, .string (bs d.text)]
def wcells (l : List Wd) : List Value := l.flatMap Wd.cells
theorem wcells_append (l m : List Wd) : wcells (l ++ m) = wcells l ++ wcells m := by simp [wcells]
theorem wcells_one (d : Wd) : wcells [d] = [.int .i64 (d.at_ : Int), .bool d.ext, .bool d.first, .string (bs d.text)] := rfl
theorem wcells_at (l : List Wd) (k : Nat) (hk : k < l.length) (j : Nat) (hj : j < 4) : (wcells l)[k * 4 + j]? = (l[k]).cells[j]? := by
  induction l generalizing k with
  | nil => simp at hk
  | cons d l ih =>
    rw [show wcells (d :: l) = d.cells ++ wcells l from rfl]
    match k with
    | 0 => rw [List.getElem?_append_left (by simp [Wd.cells]; omega)]; simp
    | k + 1 =>
      rw [List.getElem?_append_right (by simp [Wd.cells]; omega)]
      have := ih k (by simpa using hk)
      simp only [List.getElem_cons_succ]
      rw [← this]
      congr 1
      simp [Wd.cells]; omega
def tcells (l : List UInt8) : List Value := l.map fun c => .int .u8 (c.toNat : Int)
theorem tcells_append (l m : List UInt8) : tcells (l ++ m) = tcells l ++ tcells m := by simp [tcells]
end Go.Proofs.YtfajckkbinbpiaaGreatDoor
namespace Go.Proofs.YtfajckkbinbpiaaGreatDoor
set_option maxRecDepth 100000
set_option maxHeartbeats 32000000
set_option linter.unusedVariables false
set_option linter.unusedSimpArgs false
open Go.RowKit
theorem bs_size (s : List UInt8) : (bs s).size = s.length := by simp [bs, ByteArray.size]
theorem bs_at (s : List UInt8) (k : Nat) (c : UInt8) (h : s[k]? = some c) (w : World) : (Instr.index 9 (.string (bs s)) (.int .i64 (k : Int))).run Tryz.prog w = .ok (.int .u8 (c.toNat : Int)) w := by
  obtain ⟨hk, rfl⟩ := List.getElem?_eq_some_iff.1 h
  have h1 : k < (bs s).size := by rw [bs_size]; exact hk
  go_simp
  rfl
theorem bs_take (m : List UInt8) (p : Nat) : (bs m).extract 0 p = bs (m.take p) := by
  apply ByteArray.ext
  simp [bs]
theorem bs_drop (m : List UInt8) (p : Nat) : (bs m).extract p m.length = bs (m.drop p) := by
  apply ByteArray.ext
  simp only [bs, ByteArray.data_extract, List.extract_toArray, List.extract_eq_take_drop]
  rw [List.take_of_length_le (by rw [List.length_drop]; omega)]
theorem bs_toList (a : List UInt8) : (bs a).toList = a := by
  rw [Lib.toList_data]; rfl
theorem bs_head (t : List UInt8) (c : UInt8) (hc : t.head? = some c) (h : 0 < (bs t).size) : ((bs t)[0]'h).toNat = c.toNat := by
  cases t with
  | nil => simp at hc
  | cons d t => simp at hc; subst hc; rfl
theorem decok_c (n : Int) (w : World) (h0 : -1000000000000 < n) (h1 : n < 1000000000000) : Calls Tryz.prog 208 #[.int .i64 n] w fun e w' => e = .returned (.bool true) ∧ w = w' := by
  go_enter Tryz.func208, Tryz.ntmps208
  go_wp2
  go_ret
  exact ⟨rfl, rfl⟩
theorem grains_c (w : World) : Calls Tryz.prog 207 #[.int .i64 1] w fun e w' => e = .returned (.int .i64 10) ∧ w = w' := by
  go_enter Tryz.func207, Tryz.ntmps207
  go_wp2
  go_ret
  exact ⟨rfl, rfl⟩
theorem grain_c (n : Int) (w : World) (h0 : -53687091 ≤ n) (h1 : n ≤ 53687091) : Calls Tryz.prog 166 #[.int .i64 n, .int .i64 1] w fun e w' => e = .returned (.tuple #[.int .i64 (n * 10), .bool true]) ∧ w = w' := by
  have d1 : decide (n * 10 < -536870912) = false := by simp; omega
  have d2 : decide (536870912 < n * 10) = false := by simp; omega
  go_enter Tryz.func166, Tryz.ntmps166
  go_wp2_with (first | (go_at_call 207; refine (grains_c _).mono ?_; rintro e w' ⟨rfl, rfl⟩) | (go_at_call 208; refine (decok_c _ _ (by omega) (by omega)).mono ?_; rintro e w' ⟨rfl, rfl⟩))
  go_ret2
  exact ⟨rfl, rfl⟩
theorem unitok_c (w : World) : Calls Tryz.prog 156 #[.agg #[.int .i64 1, .int .i64 2, .int .i64 4, .bool false]] w fun e w' => e = .returned (.bool true) ∧ Below w.heap.size w w' := by
  go_enter Tryz.func156, Tryz.ntmps156
  go_wp2
  go_ret
  exact ⟨rfl, by go_grown⟩
theorem tens_c (n : Int) (w : World) (h0 : 0 ≤ n) (h1 : n ≤ 99999999) : Calls Tryz.prog 205 #[.int .i64 n, .int .i64 2] w fun e w' => e = .returned (.int .i64 (n * 100)) ∧ w = w' := by
  have b1 : 0 ≤ n * 10 := by omega
  have b2 : n * 10 ≤ 999999990 := by omega
  have m : n * 10 * 10 = n * 100 := by omega
  go_enter Tryz.func205, Tryz.ntmps205
  go_wp2
  refine wp_loop_rounds 3 ?_
  rw [rounds_succ]
  go_wp2
  rw [rounds_succ]
  go_wp2
  rw [rounds_succ]
  go_wp2
  go_ret
  exact ⟨rfl, rfl⟩
def Digits (l : List UInt8) : Prop := ∀ c ∈ l, 48 ≤ c.toNat ∧ c.toNat ≤ 57
def numV (l : List UInt8) : Nat := l.foldl (fun v c => v * 10 + (c.toNat - 48)) 0
theorem numV_snoc (l : List UInt8) (c : UInt8) : numV (l ++ [c]) = numV l * 10 + (c.toNat - 48) := by simp [numV]
theorem numV_lt (l : List UInt8) (h : Digits l) : numV l < 10 ^ l.length := by
  suffices H : ∀ (n : Nat) (l : List UInt8), l.length = n → Digits l → numV l < 10 ^ n from H _ l rfl h
  intro n
  induction n with
  | zero => intro l hl _; rw [List.length_eq_zero_iff.1 hl]; decide
  | succ n ih =>
    intro l hl hd
    have hk : n < l.length := by omega
    have h1 := ih (l.take n) (by rw [List.length_take]; omega) (fun d hx => hd d (List.mem_of_mem_take hx))
    have h2 := hd _ (List.getElem_mem hk)
    have h3 : numV l = numV (l.take n) * 10 + (l[n].toNat - 48) := by
      rw [← numV_snoc, ← List.take_succ_eq_append_getElem hk, List.take_of_length_le (by omega)]
    rw [h3, Nat.pow_succ]
    omega
theorem numV_take (l : List UInt8) (k : Nat) (h : k < l.length) : numV (l.take (k + 1)) = numV (l.take k) * 10 + (l[k].toNat - 48) := by
  rw [List.take_succ_eq_append_getElem h, numV_snoc]
theorem digits_take {l : List UInt8} (h : Digits l) (k : Nat) : Digits (l.take k) := fun c hc => h c (List.mem_of_mem_take hc)
theorem digits_get {l : List UInt8} (h : Digits l) (k : Nat) (hk : k < l.length) : 48 ≤ l[k].toNat ∧ l[k].toNat ≤ 57 := h _ (List.getElem_mem hk)
theorem numV_le (l : List UInt8) (h : Digits l) (hl : l.length ≤ 6) : numV l ≤ 999999 := by
  have := numV_lt l h
  have : 10 ^ l.length ≤ 10 ^ 6 := Nat.pow_le_pow_right (by decide) hl
  omega
theorem sub48 (n : Nat) (h0 : 48 ≤ n) (h1 : n ≤ 57) : IntKind.u8.wrap ((n : Int) - 48) = ((n - 48 : Nat) : Int) := by rw [IntKind.wrap_u8]; omega
theorem coord_c (s : List UInt8) (w : World) (hd : Digits s) (h1 : 0 < s.length) (h6 : s.length ≤ 6) (hv : numV s ≤ 536870) :
    Calls Tryz.prog 162 #[.string (bs s), .agg #[.int .i64 1, .int .i64 2, .int .i64 4, .bool false]] w fun e w' => e = .returned (.tuple #[.int .i64 ((numV s * 1000 : Nat) : Int), .bool true]) ∧ Below w.heap.size w w' := by
  obtain ⟨N, eN⟩ : ∃ N, s.length = N := ⟨_, rfl⟩
  have hsz : (bs s).size = N := by rw [bs_size, eN]
  have HD := Lib.hid hd
  have hAt := fun k c h w => bs_at s k c h w
  have HAt := Lib.hid hAt
  have hne : (bs s).toList.isEmpty = false := by
    rw [bs_toList]
    cases s with
    | nil => simp at h1
    | cons a l => rfl
  obtain ⟨c0, hc0, hx0⟩ : ∃ c0 : Nat, (48 ≤ c0 ∧ c0 ≤ 57) ∧ ∀ h : 0 < (bs s).size, ((bs s)[0]'h).toNat = c0 := ⟨s[0].toNat, digits_get hd 0 h1, fun h => bs_head s s[0] (by rw [List.head?_eq_getElem?]; exact List.getElem?_eq_getElem h1) h⟩
  have p1 : ((c0 : Int) == 43) = false := by simp; omega
  have p2 : ((c0 : Int) == 45) = false := by simp; omega
  have HV := Lib.hid hv
  have HM := fun k => numV_le (s.take k) (digits_take hd k) (by rw [List.length_take]; omega)
  have HMM := Lib.hid HM
  have HN := Lib.hid eN
  obtain ⟨V, eV⟩ : ∃ v, numV s = v := ⟨_, rfl⟩
  rw [eV] at HV ⊢
  have EV := Lib.hid eV
  obtain ⟨S, eS⟩ : ∃ x, bs s = x := ⟨_, rfl⟩
  rw [eS] at hsz hne HAt hx0 ⊢
  rw [eN] at h1 h6
  have q1 : decide ((N : Int) < 1) = false := by simp; omega
  have q2 : decide (6 < (N : Int)) = false := by simp; omega
  clear hAt hd hv HM eN eV eS
  go_enter Tryz.func162, Tryz.ntmps162
  go_wp2_with (first | (go_at_call 156; refine (unitok_c _).mono ?_; rintro e w1 ⟨rfl, hb⟩; obtain ⟨hc, hf⟩ := bcell hb))
  have hB1 : Below w.heap.size w w1 := (Below.alloc (Below.refl _ w) (Nat.le_refl _) _).trans (hb.mono (by simp))
  go_loop [8, 46] (fun v i => ∃ k : Nat, k ≤ N ∧ i = .int .i64 (k : Int) ∧ v = .int .i64 (numV (s.take k) : Int)) (fun _ i => N - (intOf i).toNat)
  case atStart => exact ⟨0, by omega, rfl, rfl⟩
  case round =>
  obtain ⟨k, hk, rfl, rfl⟩ := hrel
  by_cases hkN : k < N
  · have r1 : decide ((k : Int) < (N : Int)) = true := by simp; omega
    have r2 : (k : Int) < (N : Int) := by omega
    have hkl : k < s.length := by have := HN.out; omega
    have hx := HAt.out k s[k] (List.getElem?_eq_getElem hkl)
    have hdg := digits_get HD.out k hkl
    have hnx := numV_take s k hkl
    have hbd := HMM.out k
    obtain ⟨c, ec⟩ : ∃ c, s[k].toNat = c := ⟨_, rfl⟩
    rw [ec] at hx hdg hnx
    obtain ⟨u, eu⟩ : ∃ u, numV (s.take k) = u := ⟨_, rfl⟩
    rw [eu] at hnx hbd ⊢
    have hs48 := sub48 c hdg.1 hdg.2
    have t1 : decide ((c : Int) < 48) = false := by simp; omega
    have t2 : decide (57 < (c : Int)) = false := by simp; omega
    have HX := Lib.hid hnx
    have b1 : (c : Int) ≤ 57 := by omega
    have b2 : 48 ≤ (c : Int) := by omega
    have b3 : (u : Int) ≤ 999999 := by omega
    clear hnx ec eu hdg hbd
    go_wp2
    go_round
    case rel => exact ⟨k + 1, by omega, by go_num, by rw [HX.out]; simp⟩
    case measure => simp [intOf]; omega
  · obtain rfl : N = k := by omega
    have htk : s.take N = s := List.take_of_length_le (by rw [HN.out]; exact Nat.le_refl _)
    rw [htk, EV.out]
    have hv := HV.out
    have e1 : ((V : Int) * 100) * 10 = (((V * 1000 : Nat)) : Int) := by omega
    go_wp2_with (first | (go_at_call 205; refine (tens_c _ _ (by omega) (by omega)).mono ?_; rintro e w' ⟨rfl, rfl⟩) | (go_at_call 166; refine (grain_c _ _ (by omega) (by omega)).mono ?_; rintro e w' ⟨rfl, rfl⟩))
    go_ret2
    exact ⟨rfl, hB1⟩
theorem bs_ne {a b : List UInt8} (h : a ≠ b) : ((bs a).toList == (bs b).toList) = false := by
  rw [bs_toList, bs_toList, beq_eq_false_iff_ne]; exact h
theorem hasP_yes (m r : List UInt8) (w : World) (hl : (m ++ r).length ≤ 1000000) : Calls Tryz.prog 194 #[.string (bs (m ++ r)), .string (bs m)] w fun e w' => e = .returned (.bool true) ∧ w = w' := by
  have x1 : (bs (m ++ r)).extract 0 m.length = bs m := by rw [bs_take]; simp
  have z1 : (bs (m ++ r)).size = m.length + r.length := by rw [bs_size, List.length_append]
  have z2 : (bs m).size = m.length := bs_size m
  rw [List.length_append] at hl
  obtain ⟨M, eM⟩ : ∃ M, m.length = M := ⟨_, rfl⟩
  obtain ⟨K, eK⟩ : ∃ K, r.length = K := ⟨_, rfl⟩
  obtain ⟨S, eS⟩ : ∃ S, bs (m ++ r) = S := ⟨_, rfl⟩
  obtain ⟨T, eT⟩ : ∃ S, bs m = S := ⟨_, rfl⟩
  rw [eM] at x1 z1 z2 hl
  rw [eK] at z1 hl
  rw [eS] at x1 z1 ⊢
  rw [eT] at x1 z2 ⊢
  clear eM eK eS eT
  go_enter Tryz.func194, Tryz.ntmps194
  go_wp2
  go_ret
  exact ⟨rfl, rfl⟩
theorem hasP_no (l m : List UInt8) (w : World) (hl : l.length ≤ 1000000) (hm : m.length ≤ 1000000) (h : l.take m.length ≠ m) : Calls Tryz.prog 194 #[.string (bs l), .string (bs m)] w fun e w' => e = .returned (.bool false) ∧ w = w' := by
  have x1 : (bs l).extract 0 m.length = bs (l.take m.length) := bs_take l m.length
  have x2 := bs_ne h
  have z1 : (bs l).size = l.length := bs_size l
  have z2 : (bs m).size = m.length := bs_size m
  obtain ⟨M, eM⟩ : ∃ M, m.length = M := ⟨_, rfl⟩
  obtain ⟨K, eK⟩ : ∃ K, l.length = K := ⟨_, rfl⟩
  obtain ⟨S, eS⟩ : ∃ S, bs l = S := ⟨_, rfl⟩
  obtain ⟨T, eT⟩ : ∃ S, bs m = S := ⟨_, rfl⟩
  rw [eM] at x1 x2 z2 hm
  obtain ⟨U, eU⟩ : ∃ S, bs (l.take M) = S := ⟨_, rfl⟩
  rw [eK] at z1 hl
  rw [eU] at x1 x2
  rw [eS] at x1 z1 ⊢
  rw [eT] at x2 z2 ⊢
  clear eM eK eS eT eU h
  by_cases hk : M ≤ K
  · have d1 : decide (M ≤ K) = true := by simp; omega
    go_enter Tryz.func194, Tryz.ntmps194
    go_wp2
    go_ret
    exact ⟨rfl, rfl⟩
  · have d1 : decide (M ≤ K) = false := by simp; omega
    go_enter Tryz.func194, Tryz.ntmps194
    go_wp2
    go_ret
    exact ⟨rfl, rfl⟩
theorem cutP_yes (m r : List UInt8) (w : World) (hl : (m ++ r).length ≤ 1000000) : Calls Tryz.prog 93 #[.string (bs (m ++ r)), .string (bs m)] w fun e w' => e = .returned (.tuple #[.string (bs r), .bool true]) ∧ w = w' := by
  have h1 := fun w => hasP_yes m r w hl
  have x1 : (bs (m ++ r)).extract m.length (m ++ r).length = bs r := by rw [bs_drop]; simp
  have z1 : (bs (m ++ r)).size = m.length + r.length := by rw [bs_size, List.length_append]
  have z2 : (bs m).size = m.length := bs_size m
  rw [List.length_append] at hl x1
  obtain ⟨M, eM⟩ : ∃ M, m.length = M := ⟨_, rfl⟩
  obtain ⟨K, eK⟩ : ∃ K, r.length = K := ⟨_, rfl⟩
  obtain ⟨S, eS⟩ : ∃ S, bs (m ++ r) = S := ⟨_, rfl⟩
  obtain ⟨T, eT⟩ : ∃ S, bs m = S := ⟨_, rfl⟩
  obtain ⟨U, eU⟩ : ∃ S, bs r = S := ⟨_, rfl⟩
  rw [eM] at x1 z1 z2 hl
  rw [eK] at x1 z1 hl
  rw [eS] at x1 z1 h1 ⊢
  rw [eT] at z2 h1 ⊢
  rw [eU] at x1 ⊢
  have H1 := Lib.hid h1
  clear eM eK eS eT h1
  go_enter Tryz.func93, Tryz.ntmps93
  go_wp2_with (first | (go_at_call 145; go_in) | (go_at_call 194; refine (H1.out _).mono ?_; rintro e w' ⟨rfl, rfl⟩))
  go_ret2
  exact ⟨rfl, rfl⟩
theorem cutP_no (l m : List UInt8) (w : World) (hl : l.length ≤ 1000000) (hm : m.length ≤ 1000000) (h : l.take m.length ≠ m) : Calls Tryz.prog 93 #[.string (bs l), .string (bs m)] w fun e w' => e = .returned (.tuple #[.string (bs l), .bool false]) ∧ w = w' := by
  have h1 := fun w => hasP_no l m w hl hm h
  obtain ⟨S, eS⟩ : ∃ S, bs l = S := ⟨_, rfl⟩
  obtain ⟨T, eT⟩ : ∃ S, bs m = S := ⟨_, rfl⟩
  rw [eS] at h1 ⊢
  rw [eT] at h1 ⊢
  have H1 := Lib.hid h1
  clear eS eT h1 h
  go_enter Tryz.func93, Tryz.ntmps93
  go_wp2_with (first | (go_at_call 145; go_in) | (go_at_call 194; refine (H1.out _).mono ?_; rintro e w' ⟨rfl, rfl⟩))
  go_ret2
  exact ⟨rfl, rfl⟩
open Lib in
theorem indexB_at (a r : List UInt8) (c : UInt8) (h : c ∉ a) : indexByte (a ++ c :: r) c = a.length := by
  induction a with
  | nil => simp [indexByte]
  | cons b a ih =>
    have h1 : (b == c) = false := by rw [beq_eq_false_iff_ne]; rintro rfl; exact h (by simp)
    have h2 := ih (fun e => h (by simp [e]))
    rw [List.cons_append, indexByte, h1, h2]
    simp
open Lib in
theorem indexB_none (l : List UInt8) (c : UInt8) (h : c ∉ l) : indexByte l c = -1 := by
  induction l with
  | nil => rfl
  | cons b a ih =>
    have h1 : (b == c) = false := by rw [beq_eq_false_iff_ne]; rintro rfl; exact h (by simp)
    have h2 := ih (fun e => h (by simp [e]))
    rw [indexByte, h1, h2]; simp
theorem run_idx (s : ByteArray) (c : Int) (w : World) : (callFunc 261 #[.string s, .int .u8 c]).run Tryz.prog w = .ok (.value (.int .i64 (Lib.indexByte s.data.toList c.toNat.toUInt8))) w := by
  rw [run_callFunc_indexByte Tryz.func261 (by kernel_rfl) (by kernel_rfl) (by kernel_rfl) (by kernel_rfl), Lib.run_indexByteString]
  rfl
theorem idx_yes (a r : List UInt8) (c : UInt8) (w : World) (hl : (a ++ c :: r).length ≤ 1000000) (h : c ∉ a) (ha : a ≠ []) :
    Calls Tryz.prog 272 #[.string (bs (a ++ c :: r)), .string (bs [c])] w fun e w' => e = .returned (.int .i64 (a.length : Int)) ∧ w = w' := by
  have hi : ∀ w, (callFunc 261 #[.string (bs (a ++ c :: r)), .int .u8 (c.toNat : Int)]).run Tryz.prog w = .ok (.value (.int .i64 (a.length : Int))) w := by
    intro w
    rw [run_idx]
    have e : ((c.toNat : Int).toNat.toUInt8) = c := by simp
    rw [e, show (bs (a ++ c :: r)).data.toList = a ++ c :: r from rfl, indexB_at a r c h]
  have hTS : ((bs [c]).toList == (bs (a ++ c :: r)).toList) = false := bs_ne (by
    intro e
    have := congrArg List.length e
    simp at this
    cases a with
    | nil => exact ha rfl
    | cons x a => simp at this; omega)
  obtain ⟨M, eM⟩ : ∃ M, a.length = M := ⟨_, rfl⟩
  obtain ⟨S, eS⟩ : ∃ S, bs (a ++ c :: r) = S := ⟨_, rfl⟩
  obtain ⟨T, eT, z2, z3⟩ : ∃ T, bs [c] = T ∧ T.size = 1 ∧ ∀ h : 0 < T.size, (T[0]'h).toNat = c.toNat := ⟨_, rfl, rfl, fun h => rfl⟩
  obtain ⟨n, en⟩ : ∃ n, c.toNat = n := ⟨_, rfl⟩
  rw [eS, eT] at hTS
  rw [eS] at hi ⊢
  rw [eT]
  rw [eM] at hi ⊢
  rw [en] at hi
  simp only [en] at z3
  clear eM eS eT en h hl ha
  go_enter Tryz.func272, Tryz.ntmps272
  go_wp2_with (go_at_call 222; go_in)
  go_ret
  exact ⟨rfl, rfl⟩
theorem idx_none (l : List UInt8) (c : UInt8) (w : World) (hl : l.length ≤ 1000000) (h : c ∉ l) :
    Calls Tryz.prog 272 #[.string (bs l), .string (bs [c])] w fun e w' => e = .returned (.int .i64 (-1)) ∧ w = w' := by
  have hi : ∀ w, (callFunc 261 #[.string (bs l), .int .u8 (c.toNat : Int)]).run Tryz.prog w = .ok (.value (.int .i64 (-1))) w := by
    intro w
    rw [run_idx]
    have e : ((c.toNat : Int).toNat.toUInt8) = c := by simp
    rw [e, show (bs l).data.toList = l from rfl, indexB_none l c h]
  have hTS : ((bs [c]).toList == (bs l).toList) = false := bs_ne (by rintro rfl; exact h (by simp))
  obtain ⟨S, eS⟩ : ∃ S, bs l = S := ⟨_, rfl⟩
  obtain ⟨T, eT, z2, z3⟩ : ∃ T, bs [c] = T ∧ T.size = 1 ∧ ∀ h : 0 < T.size, (T[0]'h).toNat = c.toNat := ⟨_, rfl, rfl, fun h => rfl⟩
  obtain ⟨n, en⟩ : ∃ n, c.toNat = n := ⟨_, rfl⟩
  rw [eS, eT] at hTS
  rw [eS] at hi ⊢
  rw [eT]
  rw [en] at hi
  simp only [en] at z3
  clear eS eT en h hl
  go_enter Tryz.func272, Tryz.ntmps272
  go_wp2_with (go_at_call 222; go_in)
  go_ret
  exact ⟨rfl, rfl⟩
theorem cut_yes (a r : List UInt8) (c : UInt8) (w : World) (hl : (a ++ c :: r).length ≤ 1000000) (h : c ∉ a) (ha : a ≠ []) :
    Calls Tryz.prog 196 #[.string (bs (a ++ c :: r)), .string (bs [c])] w fun e w' => e = .returned (.tuple #[.string (bs a), .string (bs r), .bool true]) ∧ Below w.heap.size w w' := by
  have hi := fun w => idx_yes a r c w hl h ha
  have x1 : (bs (a ++ c :: r)).extract 0 a.length = bs a := by rw [bs_take]; simp
  have x2 : (bs (a ++ c :: r)).extract (a.length + 1) (a ++ c :: r).length = bs r := by rw [bs_drop]; simp
  have z1 : (bs (a ++ c :: r)).size = a.length + 1 + r.length := by rw [bs_size, List.length_append]; simp; omega
  have hl' : a.length + 1 + r.length ≤ 1000000 := by rw [List.length_append] at hl; simp at hl; omega
  have e3 : (a ++ c :: r).length = a.length + 1 + r.length := by rw [List.length_append]; simp; omega
  rw [e3] at x2
  obtain ⟨M, eM⟩ : ∃ M, a.length = M := ⟨_, rfl⟩
  obtain ⟨K, eK⟩ : ∃ K, r.length = K := ⟨_, rfl⟩
  obtain ⟨S, eS⟩ : ∃ S, bs (a ++ c :: r) = S := ⟨_, rfl⟩
  obtain ⟨T, eT⟩ : ∃ T, bs [c] = T := ⟨_, rfl⟩
  obtain ⟨U, eU⟩ : ∃ S, bs a = S := ⟨_, rfl⟩
  obtain ⟨V, eV⟩ : ∃ S, bs r = S := ⟨_, rfl⟩
  have z2 : T.size = 1 := by rw [← eT]; rfl
  rw [eS] at hi x1 x2 z1 ⊢
  rw [eT] at hi ⊢
  rw [eU] at x1 ⊢
  rw [eV] at x2 ⊢
  rw [eM] at hi x1 x2 z1 hl'
  rw [eK] at x2 z1 hl'
  have HI := Lib.hid hi
  have v1 : IntKind.i64.wrap ((M : Int) + 1) = (M : Int) + 1 := by rw [IntKind.wrap_i64]; omega
  have v2 : 0 ≤ (M : Int) + 1 := by omega
  have v3 : ((M : Int) + 1).toNat = M + 1 := by omega
  have v4 : M + 1 ≤ M + 1 + K := by omega
  have v5 : M ≤ M + 1 + K := by omega
  clear eM eK eS eT eU eV h hl e3 hi
  go_enter Tryz.func196, Tryz.ntmps196
  go_wp2_with (first | (go_at_call 231; go_in) | (go_at_call 272; refine (HI.out _).mono ?_; rintro e w' ⟨rfl, rfl⟩))
  go_quiet (fail)
  go_wp2_with fail
  go_ret3
  exact ⟨rfl, by exact blw⟩
theorem cut_no (l : List UInt8) (c : UInt8) (w : World) (hl : l.length ≤ 1000000) (h : c ∉ l) :
    Calls Tryz.prog 196 #[.string (bs l), .string (bs [c])] w fun e w' => e = .returned (.tuple #[.string (bs l), .string (bs []), .bool false]) ∧ Below w.heap.size w w' := by
  have hi := fun w => idx_none l c w hl h
  obtain ⟨S, eS⟩ : ∃ S, bs l = S := ⟨_, rfl⟩
  obtain ⟨T, eT⟩ : ∃ T, bs [c] = T := ⟨_, rfl⟩
  rw [eS] at hi ⊢
  rw [eT] at hi ⊢
  have HI := Lib.hid hi
  clear eS eT h hl hi
  go_enter Tryz.func196, Tryz.ntmps196
  go_wp2_with (first | (go_at_call 231; go_in) | (go_at_call 272; refine (HI.out _).mono ?_; rintro e w' ⟨rfl, rfl⟩))
  go_ret3
  exact ⟨rfl, by exact blw⟩
end Go.Proofs.YtfajckkbinbpiaaGreatDoor
