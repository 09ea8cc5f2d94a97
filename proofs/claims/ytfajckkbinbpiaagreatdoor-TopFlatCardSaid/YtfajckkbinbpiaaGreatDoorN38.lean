/- Walks: package plot: a step is opened. What of the memory a plotter's state says. The numbers of a command; none: the slice is nil. Contracts: the words of the statement, each by its kind. Walk: a group of one word. A walk: word.Words returns what the plain law says. -/
import Derived.Lib.QuietBelow
import Derived.LoopTactic
import Derived.Test.YtfajckkbinbpiaaGreatDoorN01
import Derived.Test.YtfajckkbinbpiaaGreatDoorN12
import Derived.Test.YtfajckkbinbpiaaGreatDoorN13
import Derived.Test.YtfajckkbinbpiaaGreatDoorN14
import Derived.Test.YtfajckkbinbpiaaGreatDoorN32
import Derived.Test.YtfajckkbinbpiaaGreatDoorN35
import Derived.Test.YtfajckkbinbpiaaGreatDoorN36
import Derived.Test.YtfajckkbinbpiaaGreatDoorN37
namespace Go.Proofs.YtfajckkbinbpiaaGreatDoor
set_option maxRecDepth 100000
set_option maxHeartbeats 32000000
set_option linter.unusedVariables false
set_option linter.unusedSimpArgs false
open Go.RowKit
def fmtI (b : Bool) (v : Int) : Int := if b then v else 0
def pcellsOf (s : St) (M : Nat) (lv : Value) (bud : Int) : Array Value := #[.int .i64 s.unit, .int .i64 (fmtI s.fmt 1), .int .i64 (fmtI s.fmt 2), .int .i64 (fmtI s.fmt 4), .bool false, .bool s.fmt, .map (some M), .int .i64 s.pick, .slice none 0 0, .int .i64 s.x, .int .i64 s.y, .int .i64 1, .bool false, .bool s.dark, .bool false, .bool false, .int .i64 0, .int .i64 0, .int .i64 0, .bool false, .slice none 0 0, lv, .int .i64 (s.made : Int), .int .i64 bud, .bool s.ended]
def entry10 : MapEntry := { key := .int .i64 10, val := .agg #[.int .i64 1, .int .i64 0, .int .i64 0, .int .i64 0, .int .i64 0, .int .i64 0, .int .i64 0, .int .i64 2500000, .slice none 0 0, .slice none 0 0, .int .i64 2500000, .bool true, .bool false, .slice none 0 0], born := 0 }
def entry20 (v : Value) : MapEntry := { key := .int .i64 20, val := .agg #[.int .i64 0, .int .i64 0, .int .i64 0, .int .i64 0, .int .i64 0, .int .i64 0, .int .i64 0, .int .i64 0, .slice none 0 0, .slice none 0 0, .int .i64 0, .bool false, .bool true, v], born := 1 }
def LevIs (w : World) (B : Nat) (lcs : Array Value) : Option Lev → Prop
  | none => True
  | some v => ∃ v1, (∀ j u, ([.bool v.step, .int .i64 v.code, .int .i64 v.n, .int .i64 v.m, .int .i64 v.bx, .int .i64 v.by_, v1] : List Value)[j]? = some u → lcs[7 + j]? = some u) ∧ w.ownsRow B 65 11 v1 v.objs.length (ocells v.objs)
def MapIs (w : World) (B M : Nat) (v0 : Value) (a10 : Bool) : Option (List Ob) → Prop
  | none => if a10 then IsMap w M #[entry10] 1 else IsMap w M #[] 0
  | some l => a10 = true ∧ ∃ v, IsMap w M #[entry10, entry20 v] 2 ∧ w.ownsRow B 65 11 v l.length (ocells l) ∧ ∀ q, v.ownBlock = some q → v0.ownBlock ≠ some q
def nLev (l : Option Lev) : Nat := if l.isSome then 2 else 1
structure InvAt (B P M : Nat) (bud : Int) (s : St) (w : World) (gL capL : Nat) (lcs : Array Value) (v0 : Value) : Prop where
  blk : Blk w P 159 (pcellsOf s M (.slice (some ⟨gL, 0, none⟩) (nLev s.lev) capL) bud)
  lv : Blk w gL 162 lcs
  sz : lcs.size = capL * 7
  cap : nLev s.lev ≤ capL
  mx : capL ≤ maxLen
  gB : B ≤ gL
  h7 : lcs.toList.take 7 = [.bool false, .int .i64 0, .int .i64 0, .int .i64 0, .int .i64 0, .int .i64 0, v0]
  own : w.ownsRow B 65 11 v0 s.base.length (ocells s.base)
  nil : s.made = 0 ∨ s.lev.isSome = true → v0 = .slice none 0 0
  lev : LevIs w B lcs s.lev
  map : MapIs w B M v0 s.a10 s.blk
  PB : B ≤ P
  MB : B ≤ M
  BW : B ≤ w.heap.size
theorem LevIs.only {w w' : World} {B : Nat} {lcs : Array Value} {l : Option Lev} (h : LevIs w B lcs l) (hk : ∀ v n xs, w.ownsRow B 65 11 v n xs → w'.ownsRow B 65 11 v n xs) : LevIs w' B lcs l := by
  cases l with
  | none => trivial
  | some v => obtain ⟨v1, h1, h2⟩ := h; exact ⟨v1, h1, hk _ _ _ h2⟩
theorem MapIs.only {w w' : World} {B M : Nat} {v0 : Value} {a : Bool} {l : Option (List Ob)} (h : MapIs w B M v0 a l) (hm : ∀ es clk, IsMap w M es clk → IsMap w' M es clk) (hk : ∀ v n xs, w.ownsRow B 65 11 v n xs → w'.ownsRow B 65 11 v n xs) : MapIs w' B M v0 a l := by
  cases l with
  | none => cases a <;> exact hm _ _ h
  | some l => obtain ⟨h0, v, h1, h2, h3⟩ := h; exact ⟨h0, v, hm _ _ h1, hk _ _ _ h2, h3⟩
theorem InvAt.isMap {B P M : Nat} {bud : Int} {s : St} {w : World} {gL capL : Nat} {lcs : Array Value} {v0 : Value} (h : InvAt B P M bud s w gL capL lcs v0) : ∃ es clk, IsMap w M es clk := by
  have hm := h.map
  cases hb : s.blk with
  | none => rw [hb] at hm; cases ha : s.a10 <;> rw [ha] at hm <;> exact ⟨_, _, hm⟩
  | some l => rw [hb] at hm; obtain ⟨_, v, h1, _⟩ := hm; exact ⟨_, _, h1⟩
theorem InvAt.turnP {B P M : Nat} {bud : Int} {s s' : St} {w w' : World} {gL capL : Nat} {lcs : Array Value} {v0 : Value} (h : InvAt B P M bud s w gL capL lcs v0) (hP' : Blk w' P 159 (pcellsOf s' M (.slice (some ⟨gL, 0, none⟩) (nLev s.lev) capL) bud)) (ho : Only [P] w w')
    (e1 : s'.lev = s.lev) (e2 : s'.base = s.base) (e3 : s'.a10 = s.a10) (e4 : s'.blk = s.blk) (e5 : s'.made = s.made) : InvAt B P M bud s' w' gL capL lcs v0 := by
  have hne := h.blk.ne_ h.lv (by decide)
  obtain ⟨es, clk, hm⟩ := h.isMap
  have hMP := hm.blk_ne h.blk
  have hk : ∀ v n xs, w.ownsRow B 65 11 v n xs → w'.ownsRow B 65 11 v n xs := fun v n xs hv => ho.own hv (fun b hb hq => by simp at hq; subst hq; exact own_blk_ne hv h.blk (by decide) hb)
  exact ⟨by rw [e1]; exact hP', ho.blk h.lv (by simpa using Ne.symm hne), h.sz, by rw [e1]; exact h.cap, h.mx, h.gB, h.h7, by rw [e2]; exact hk _ _ _ h.own, by rw [e5, e1]; exact h.nil, by rw [e1]; exact h.lev.only hk, by rw [e3, e4]; exact h.map.only (fun es clk hm => ho.map hm (by simpa using hMP)) hk, h.PB, h.MB, Nat.le_trans h.BW ho.size⟩
theorem InvAt.alloc {B P M : Nat} {bud : Int} {s : St} {w : World} {gL capL : Nat} {lcs : Array Value} {v0 : Value} (h : InvAt B P M bud s w gL capL lcs v0) (o : Obj) : InvAt B P M bud s (w.alloc o) gL capL lcs v0 :=
  h.turnP (h.blk.alloc o) ((Only.refl _ _).alloc o) rfl rfl rfl rfl rfl
def Numz (w : World) (B : Nat) (v : Value) (l : List Int) : Prop := Nums w B v l ∧ (l = [] → v = .slice none 0 0)
theorem numz_form {w : World} {B : Nat} {v : Value} {l : List Int} (h : Numz w B v l) : ∃ p n c, v = .slice p n c := nums_form h.1
theorem numz_mono {w : World} {B B' : Nat} {v : Value} {l : List Int} (h : Numz w B v l) (hb : B' ≤ B) : Numz w B' v l := ⟨nums_mono h.1 hb, h.2⟩
theorem numz_alloc {w : World} {B : Nat} {v : Value} {l : List Int} (h : Numz w B v l) (o : Obj) : Numz (w.alloc o) B v l := ⟨nums_alloc h.1 o, h.2⟩
theorem numz_below {w w' : World} {B B' : Nat} {v : Value} {l : List Int} (h : Numz w B v l) (hb : Below B' w w') (hB : w.heap.size ≤ B') : Numz w' B v l := ⟨nums_below h.1 hb hB, h.2⟩
theorem numz_nil (w : World) (B : Nat) : Numz w B (.slice none 0 0) [] := ⟨World.ownsRow_nil _ _ _ _, fun _ => rfl⟩
theorem extended_c (g : Gr) (he : g.ext = true) (ho : g.Ok) (w : World) : Calls Tryz.prog 94 #[.string (bs g.word)] w fun e w' => ∃ nv, e = .returned (.tuple #[.agg (g.cells 0 nv).toArray, .int .i64 0]) ∧ Numz w' w.heap.size nv g.nums ∧ Below w.heap.size w w' := by
  cases g
  case fs => exact (extended_FSLAX24Y24 w).mono fun e w' ⟨h, hb⟩ => ⟨_, h, numz_nil _ _, hb⟩
  case mo => exact (extended_MOMM w).mono fun e w' ⟨h, hb⟩ => ⟨_, h, numz_nil _ _, hb⟩
  case adc => exact (extended_ADD10C_0_5 w).mono fun e w' ⟨v, h, hn, hb⟩ => ⟨v, h, ⟨hn, fun h => by cases h⟩, hb⟩
  case adr => exact (extended_ADD10R_4X4 w).mono fun e w' ⟨v, h, hn, hb⟩ => ⟨v, h, ⟨hn, fun h => by cases h⟩, hb⟩
  case lpc => exact (extended_LPC w).mono fun e w' ⟨h, hb⟩ => ⟨_, h, numz_nil _ _, hb⟩
  case lpd => exact (extended_LPD w).mono fun e w' ⟨h, hb⟩ => ⟨_, h, numz_nil _ _, hb⟩
  case sre => exact (extended_SR w).mono fun e w' ⟨h, hb⟩ => ⟨_, h, numz_nil _ _, hb⟩
  case ab => exact (extended_ABD20 w).mono fun e w' ⟨h, hb⟩ => ⟨_, h, numz_nil _ _, hb⟩
  case abe => exact (extended_AB w).mono fun e w' ⟨h, hb⟩ => ⟨_, h, numz_nil _ _, hb⟩
  case sr n m x y => exact (extended_step n m x y w ho.1 ho.2.1 ho.2.2.1 ho.2.2.2).mono fun e w' ⟨v, h, hn, hb⟩ => ⟨v, h, ⟨hn, fun h => by cases h⟩, hb⟩
  all_goals cases he
theorem plain_c (g : Gr) (he : g.ext = false) (ho : g.Ok) (w : World) : Calls Tryz.prog 62 #[.string (bs g.word)] w fun e w' => ∃ v nv, e = .returned (.tuple #[v, .int .i64 0]) ∧ Numz w' w.heap.size nv g.nums ∧ Cmds w' w.heap.size v [g.cells 0 nv] ∧ Below w.heap.size w w' := by
  cases g
  case m02 => exact (plain_M02 w).mono fun e w' ⟨v, h, hn, hb⟩ => ⟨v, _, h, numz_nil _ _, hn, hb⟩
  case d10 => exact (plain_D10 w).mono fun e w' ⟨v, h, hn, hb⟩ => ⟨v, _, h, numz_nil _ _, hn, hb⟩
  case d20 => exact (plain_D20 w).mono fun e w' ⟨v, h, hn, hb⟩ => ⟨v, _, h, numz_nil _ _, hn, hb⟩
  case op2 a b => exact (plain_op2 a b w ho.1.1 ho.2.1 ho.1.2.1 (by have := ho.1.2.2.1; omega) ho.2.2.1 (by have := ho.2.2.2.1; omega)).mono fun e w' ⟨v, h, hn, hb⟩ => ⟨v, _, h, numz_nil _ _, hn, hb⟩
  case op3 a b => exact (plain_op3 a b w ho.1.1 ho.2.1 ho.1.2.1 (by have := ho.1.2.2.1; omega) ho.2.2.1 (by have := ho.2.2.2.1; omega)).mono fun e w' ⟨v, h, hn, hb⟩ => ⟨v, _, h, numz_nil _ _, hn, hb⟩
  all_goals cases he
theorem Gr.noAM (g : Gr) : g.word.take 2 ≠ [65, 77] := by cases g <;> simp [Gr.word]
theorem group_c (g : Gr) (he : g.ext = true) (ho : g.Ok) (w : World) (b o cap : Nat) (at_ : Int) (h0 : w.cell? ⟨b, o, none⟩ = some (.int .i64 at_)) (h1 : w.cell? ⟨b, o + 1, none⟩ = some (.bool true)) (h2 : w.cell? ⟨b, o + 2, none⟩ = some (.bool true)) (h3 : w.cell? ⟨b, o + 3, none⟩ = some (.string (bs g.word))) (hlt : b < w.heap.size) :
    Calls Tryz.prog 61 #[.slice (some ⟨b, o, none⟩) 1 cap] w fun e w' => ∃ v nv, e = .returned (.tuple #[v, .int .i64 0, .int .i64 0]) ∧ Numz w' w.heap.size nv g.nums ∧ Cmds w' w.heap.size v [g.cells 0 nv] ∧ Below w.heap.size w w' := by
  have hx : ∀ w, Calls Tryz.prog 93 #[.string (bs g.word), .string { data := #[65, 77] }] w fun e w' => e = .returned (.tuple #[.string (bs g.word), .bool false]) ∧ w = w' := fun w => cutP_no g.word [65, 77] w (by have := g.word_len ho; omega) (by decide) g.noAM
  have hy : ∀ w, Calls Tryz.prog 94 #[.string (bs g.word)] w fun e w' => ∃ nv, e = .returned (.tuple #[.agg #[.int .i64 0, .int .i64 g.kind, .int .i64 g.n, .int .i64 g.m, .bool g.on, .string (bs g.name), .string (bs g.x), .string (bs g.y), .string (bs []), .string (bs []), nv, .slice none 0 0], .int .i64 0]) ∧ Numz w' w.heap.size nv g.nums ∧ Below w.heap.size w w' := fun w => extended_c g he ho w
  obtain ⟨T, eT⟩ : ∃ T, bs g.word = T := ⟨_, rfl⟩
  rw [eT] at hx hy h3
  show Calls Tryz.prog 61 #[.slice (some ⟨b, o, none⟩) 1 cap] w fun e w' => ∃ v nv, e = .returned (.tuple #[v, .int .i64 0, .int .i64 0]) ∧ Numz w' w.heap.size nv g.nums ∧ Cmds w' w.heap.size v [[.int .i64 0, .int .i64 g.kind, .int .i64 g.n, .int .i64 g.m, .bool g.on, .string (bs g.name), .string (bs g.x), .string (bs g.y), .string (bs []), .string (bs []), nv, .slice none 0 0]] ∧ Below w.heap.size w w'
  obtain ⟨K, eK⟩ : ∃ x, g.kind = x := ⟨_, rfl⟩
  obtain ⟨N, eN⟩ : ∃ x, g.n = x := ⟨_, rfl⟩
  obtain ⟨M, eM⟩ : ∃ x, g.m = x := ⟨_, rfl⟩
  obtain ⟨O, eO⟩ : ∃ x, g.on = x := ⟨_, rfl⟩
  obtain ⟨Q, eQ⟩ : ∃ x, bs g.name = x := ⟨_, rfl⟩
  obtain ⟨X, eX⟩ : ∃ x, bs g.x = x := ⟨_, rfl⟩
  obtain ⟨Y, eY⟩ : ∃ x, bs g.y = x := ⟨_, rfl⟩
  obtain ⟨E, eE⟩ : ∃ x, bs [] = x := ⟨_, rfl⟩
  rw [eK, eN, eM, eO, eQ, eX, eY, eE] at hy ⊢
  obtain ⟨L, eL⟩ : ∃ x, g.nums = x := ⟨_, rfl⟩
  rw [eL] at hy ⊢
  have H1 := Lib.hid hx
  have H2 := Lib.hid hy
  clear hx hy eT eL eK eN eM eO eQ eX eY eE he ho
  go_enter Tryz.func61, Tryz.ntmps61
  go_wp2_with (go_at_call 93; ((with_reducible refine (H1.out _).mono ?_); rintro e w' ⟨rfl, rfl⟩))
  refine (H2.out _).mono ?_
  rintro e w1 ⟨nv, rfl, hn, hb⟩
  have hB1 : Below w.heap.size w w1 := Below.trans (by exact blw) (hb.mono (by first | omega | (simp; done) | (simp; omega)))
  have k1_0 : Blk w1 (w.heap.size) 146 #[.int .i64 at_, .bool true, .bool true, .string T] := Blk.below (by exact bkw) hb (by first | omega | (simp; done) | (simp; omega))
  have c1_0 := k1_0.cell
  have f1_0 := k1_0.frozen
  have l1_0 := k1_0.lt
  have l1 := hB1.size
  obtain ⟨np, nn, nc, rfl⟩ := numz_form hn
  have HN := Lib.hid hn
  clear hb hn
  go_wp2_with fail
  go_ret3
  refine ⟨_, .slice np nn nc, rfl, ?_, ⟨by simp, ?_⟩, (hB1.alloc l1 _).alloc (Nat.le_trans l1 (by simp)) _⟩
  · exact numz_mono (numz_alloc (numz_alloc HN.out _) _) (by simp)
  · have hq := own_of_blk (B := w.heap.size) (size := 12) (n := 1) (Blk.newAt (w := w1.alloc (.cells #[.int .i64 0, .int .i64 K, .int .i64 N, .int .i64 M, .bool O, .string (Q), .string (X), .string (Y), .string (E), .string (E), .slice np nn nc, .slice none 0 0] 103)) (t := 103) (cs := #[.int .i64 0, .int .i64 K, .int .i64 N, .int .i64 M, .bool O, .string (Q), .string (X), .string (Y), .string (E), .string (E), .slice np nn nc, .slice none 0 0]) (g := w1.heap.size + 1) (by simp)) (by decide) rfl (by omega)
    exact hq
theorem take_err {r : Rd} {c : UInt8} {i x : Nat} (h : take r c i = .error x) : x = 2 ∨ x = 6 := by
  unfold take at h
  split at h
  · cases h
  split at h
  · injection h with h; omega
  split at h
  · split at h
    · injection h with h; omega
    · cases h
  split at h
  · split at h
    · injection h with h; omega
    · cases h
  split at h
  · injection h with h; omega
  split at h
  · injection h with h; omega
  · cases h
def WordsIs (s : List UInt8) (w : World) (e : Ending) (w' : World) : Prop :=
  ∃ v, e = .returned (.tuple #[v, .int .i64 ((words s).2.1 : Int), .int .i64 ((words s).2.2 : Int)]) ∧ w'.ownsRow w.heap.size 146 4 v (words s).1.length (wcells (words s).1) ∧ Below w.heap.size w w'
theorem wordsIs_none {s : List UInt8} {w w' : World} {a e : Nat} (h : words s = ([], a, e)) (hb : Below w.heap.size w w') : WordsIs s w (.returned (.tuple #[.slice none 0 0, .int .i64 (a : Int), .int .i64 (e : Int)])) w' := by
  unfold WordsIs; rw [h]; exact ⟨_, rfl, World.ownsRow_nil _ _ _ _, hb⟩
theorem drop_at {s : List UInt8} {k : Nat} (hk : k < s.length) : s.drop k = s[k] :: s.drop (k + 1) := List.drop_eq_getElem_cons hk
theorem words_c (s : List UInt8) (w : World) (hs : s.length ≤ 9223372036854775807) : Calls Tryz.prog 60 #[.string (bs s)] w (WordsIs s w) := by
  obtain ⟨N, eN⟩ : ∃ N, s.length = N := ⟨_, rfl⟩
  have hsz : (bs s).size = N := by rw [bs_size, eN]
  rw [eN] at hs
  by_cases hlong : 1000000 < N
  · have hW := words_long (s := s) (by omega)
    have fin : ∀ w', Below w.heap.size w w' → WordsIs s w (.returned (.tuple #[.slice none 0 0, .int .i64 0, .int .i64 6])) w' := fun w' hb => wordsIs_none hW hb
    have FIN := Lib.hid fin
    clear fin hW
    obtain ⟨b, eb⟩ : ∃ b, bs s = b := ⟨_, rfl⟩
    rw [eb] at hsz ⊢
    have d0 : decide (1000000 < (N : Int)) = true := by simp; omega
    go_enter Tryz.func60, Tryz.ntmps60
    go_wp2_with fail
    refine bodyPost_ret (results_tmp3 rfl _ _ _) rfl ?_
    first | exact FIN.out _ (by go_grown) | (simp; exact FIN.out _ (by go_grown))
  have d0 : decide (1000000 < (N : Int)) = false := by simp; omega
  have hshort : ¬ 1000000 < s.length := by rw [eN]; exact hlong
  have fStop : ∀ (i x : Nat) w', run s 0 Rd.start = .error (i, x) → Below w.heap.size w w' → WordsIs s w (.returned (.tuple #[.slice none 0 0, .int .i64 (i : Int), .int .i64 (x : Int)])) w' := fun i x w' hr hb => wordsIs_none (words_stop hshort hr) hb
  have fOpen : ∀ (r : Rd) w', run s 0 Rd.start = .ok r → (r.text ≠ [] ∨ r.group = true) → Below w.heap.size w w' → WordsIs s w (.returned (.tuple #[.slice none 0 0, .int .i64 (N : Int), .int .i64 2])) w' := fun r w' hr ho hb => wordsIs_none (by rw [words_open hshort hr ho, eN]) hb
  have fDone : ∀ (r : Rd) v w', run s 0 Rd.start = .ok r → ¬ (r.text ≠ [] ∨ r.group = true) → w'.ownsRow w.heap.size 146 4 v r.words.length (wcells r.words) → Below w.heap.size w w' → WordsIs s w (.returned (.tuple #[v, .int .i64 0, .int .i64 0])) w' := by
    intro r v w' hr ho hv hb; unfold WordsIs; rw [words_done hshort hr ho]; exact ⟨v, rfl, hv, hb⟩
  have hAt := fun k c h w => bs_at s k c h w
  have FStop := Lib.hid fStop
  have FOpen := Lib.hid fOpen
  have FDone := Lib.hid fDone
  have HAt := Lib.hid hAt
  have HS := Lib.hid eN
  clear fStop fOpen fDone hAt hshort eN
  obtain ⟨b, eb⟩ : ∃ b, bs s = b := ⟨_, rfl⟩
  rw [eb] at hsz ⊢
  rw [eb] at HAt
  clear eb
  go_enter Tryz.func60, Tryz.ntmps60
  go_wp2_with fail
  go_loopw [6] (fun i wr => ∃ (k : Nat) (r : Rd), i = .int .i64 (k : Int) ∧ k ≤ N ∧ RdIs wr w.heap.size w.heap.size r ∧ r.Ok ∧ run (s.drop k) k r = run s 0 Rd.start ∧ Below w.heap.size w wr) (fun i _ => N - (intOf i).toNat)
  case atStart =>
    refine ⟨0, Rd.start, rfl, by omega, ⟨.slice none 0 0, .slice none 0 0, ?_, World.ownsRow_nil _ _ _ _, World.ownsRow_nil _ _ _ _, Nat.le_refl _⟩, Rd.start_ok, rfl, ?_⟩
    · exact bkw
    · exact blw
  case round =>
  obtain ⟨k, r, rfl, hk, hr, hok, hrun, hB⟩ := hrel
  have hRun := Lib.hid hrun
  have hR := Lib.hid hr
  have hOk := Lib.hid hok
  have lB := hB.size
  clear hrun hok
  by_cases hkN : k < N
  · have hkS : k < s.length := by have := HS.out; omega
    have hx := HAt.out k (s[k]) (List.getElem?_eq_getElem hkS)
    have d1 : decide ((k : Int) < (N : Int)) = true := by simp; omega
    obtain ⟨c, ec⟩ : ∃ c, s[k] = c := ⟨_, rfl⟩
    have hd := drop_at hkS
    rw [ec] at hx hd
    have hD := Lib.hid hd
    clear hd ec HAt hr
    as_aux_lemma =>
    go_wp2_with fail
    refine (take_c w.heap.size w.heap.size r c k wr hR.out hOk.out lB (by omega)).mono ?_
    rintro e w1 ⟨hcase, hb, hB1⟩
    have hb1 : Below w.heap.size w w1 := hB.trans hb
    rcases hcase with ⟨r', ht, rfl, hr'⟩ | ⟨x, ht, rfl⟩
    · have hR' := Lib.hid hr'
      have hT := Lib.hid ht
      clear hr' ht hb hB
      go_wp2_with fail
      go_roundw
      case rel =>
        refine ⟨k + 1, r', by simp, by omega, hR'.out, take_ok hOk.out (by omega) hT.out, ?_, hb1⟩
        have := hRun.out
        rw [hD.out, run_cons hT.out] at this
        exact this
      case measure => simp [intOf]; omega
    · have hxx := take_err ht
      have d2 : ((x : Int) == 0) = false := by simp; omega
      have hE : run s 0 Rd.start = .error (k, x) := by rw [← hRun.out, hD.out, run_stop ht]
      have HE := Lib.hid hE
      clear hE ht hb hB
      go_wp2_with fail
      refine bodyPost_ret (results_tmp3 rfl _ _ _) rfl ?_
      first | exact FStop.out _ _ _ HE.out hb1 | (simp; exact FStop.out _ _ _ HE.out hb1)
  · obtain rfl : N = k := by omega
    have d1 : decide ((N : Int) < (N : Int)) = false := by simp
    have hE : run s 0 Rd.start = .ok r := by rw [← hRun.out, List.drop_eq_nil_of_le (by have := HS.out; omega)]; rfl
    have HE := Lib.hid hE
    clear hE hRun HAt hr
    obtain ⟨wv, tv, hk, hws, hts, hle⟩ := hR.out
    have c0 := hk.cell
    obtain ⟨A, cap, rfl⟩ : ∃ A cap, tv = .slice A r.text.length cap := by
      rcases hts.2 with ⟨rfl, h0⟩ | ⟨g', cap, cur, rfl, _⟩
      · exact ⟨none, 0, by rw [h0]⟩
      · exact ⟨_, cap, rfl⟩
    have HW := Lib.hid hws
    clear hk hws hts
    by_cases h1 : r.text = []
    · have e1 : r.text.length = 0 := by rw [h1]; rfl
      rw [e1] at c0
      obtain ⟨gr, eg⟩ : ∃ b, r.group = b := ⟨_, rfl⟩
      rw [eg] at c0
      rcases gr with _ | _
      · have F := FDone.out r wv
        have F' := Lib.hid F
        have hn : ¬ (r.text ≠ [] ∨ r.group = true) := by rintro (h2 | h2); exact h2 h1; rw [eg] at h2; cases h2
        have HN := Lib.hid hn
        clear F hn h1 e1 eg
        as_aux_lemma =>
        go_wp2_with fail
        refine bodyPost_ret (results_tmp3 rfl _ _ _) rfl ?_
        first | exact F'.out _ HE.out HN.out HW.out hB | (simp; exact F'.out _ HE.out HN.out HW.out hB)
      · have F := FOpen.out r
        have F' := Lib.hid F
        have hn : (r.text ≠ [] ∨ r.group = true) := .inr eg
        have HN := Lib.hid hn
        clear F hn h1 e1 eg
        as_aux_lemma =>
        go_wp2_with fail
        refine bodyPost_ret (results_tmp3 rfl _ _ _) rfl ?_
        first | exact F'.out _ HE.out HN.out hB | (simp; exact F'.out _ HE.out HN.out hB)
    · have d2 : decide (0 < (r.text.length : Int)) = true := by have := List.length_pos_iff.2 h1; simp; omega
      have d3 : 0 < r.text.length := List.length_pos_iff.2 h1
      have F := FOpen.out r
      have F' := Lib.hid F
      have hn : (r.text ≠ [] ∨ r.group = true) := .inl h1
      have HN := Lib.hid hn
      clear F hn h1
      as_aux_lemma =>
      go_wp2_with fail
      refine bodyPost_ret (results_tmp3 rfl _ _ _) rfl ?_
      first | exact F'.out _ HE.out HN.out hB | (simp; exact F'.out _ HE.out HN.out hB)
end Go.Proofs.YtfajckkbinbpiaaGreatDoor
