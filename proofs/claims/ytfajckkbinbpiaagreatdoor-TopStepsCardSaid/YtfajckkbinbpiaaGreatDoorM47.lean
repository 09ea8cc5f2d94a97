/- Walk: the statement's function. -/
import Derived.Test.YtfajckkbinbpiaaGreatDoorM46
import Derived.Test.YtfajckkbinbpiaaGreatDoorM14
import Derived.Laws.NewBlocks
namespace Go.Proofs.YtfajckkbinbpiaaGreatDoor
open Go.RowKit
set_option linter.unusedVariables false
set_option linter.unusedSimpArgs false

theorem file_g (gs : List Gr) (O : List Ob) (ho : ∀ g ∈ gs, g.Ok) (hg : St.start.Goes gs (Ends O)) (hlen : gs.length ≤ 20000) (hne : gs ≠ []) (w : World) :
    Calls Tryz.prog 13 #[.string (bs (texts gs)), .int .i64 1000] w fun e w' => ∃ v0, e = .returned (.tuple #[v0, .int .i64 0, .int .i64 0]) ∧ w'.ownsRow w.heap.size 65 11 v0 O.length (ocells O) ∧ Below w.heap.size w w' := by
  obtain ⟨t, hr, hte, rfl⟩ := hg
  exact file_c gs t ho hr hte hlen hne w
theorem step_mul (k D : Nat) : ((10000000 * (k * D) : Nat) : Int) = (k : Int) * ((D * 10000000 : Nat) : Int) := by
  rw [← Int.natCast_mul]; congr 1
  rw [Nat.mul_comm 10000000, Nat.mul_assoc]
theorem copY_len (L : List Ob) (a b : Int) (m : Nat) (h : L.length ≤ 12) (hm : m ≤ 4) : (copiesY L a b m).length ≤ 48 := by
  rw [copiesY_len]
  have : m * L.length ≤ 4 * 12 := Nat.mul_le_mul hm h
  omega
theorem cop_len (L : List Ob) (a b : Int) (m n : Nat) (h : L.length ≤ 12) (hm : m ≤ 4) (hn : n ≤ 4) : (copies L a b m n).length ≤ 192 := by
  rw [copies_len]
  have : n * (m * L.length) ≤ 4 * (4 * 12) := Nat.mul_le_mul hn (Nat.mul_le_mul hm h)
  omega
theorem txt_begin : texts beginG = [37, 70, 83, 76, 65, 88, 50, 52, 89, 50, 52, 42, 37, 37, 77, 79, 77, 77, 42, 37, 37, 65, 68, 68, 49, 48, 67, 44, 48, 46, 53, 42, 37, 68, 49, 48, 42] := rfl
set_option maxRecDepth 100000 in
set_option maxHeartbeats 32000000 in
theorem topsteps_c (l : List Int) (n m dx dy : Int) (p : Option Addr) (b off c : Nat) (w : World) (hp : 0 < l.length → p = some ⟨b, off, none⟩) (hc : ∀ k (h : k < l.length), w.cell? ⟨b, off + k, none⟩ = some (.int .i64 l[k])) (hlen : l.length ≤ 9223372036854775807)
    (haw : ∀ w, Calls Tryz.prog 11 #[] w fun e w' => e = .returned (.bool true) ∧ Below w.heap.size w w') :
    Calls Tryz.prog 4 #[.slice p l.length c, .int .i64 n, .int .i64 m, .int .i64 dx, .int .i64 dy] w fun e w' => e = .returned (.bool true) ∧ Below w.heap.size w w' := by
  -- the numbers
  obtain ⟨A, eA⟩ : ∃ A : Nat, n % 4 + 1 = (A : Int) := ⟨(n % 4 + 1).toNat, by omega⟩
  obtain ⟨B, eB⟩ : ∃ A : Nat, m % 4 + 1 = (A : Int) := ⟨(m % 4 + 1).toNat, by omega⟩
  obtain ⟨D, eD⟩ : ∃ A : Nat, dx % 8 = (A : Int) := ⟨(dx % 8).toNat, by omega⟩
  obtain ⟨E, eE⟩ : ∃ A : Nat, dy % 8 = (A : Int) := ⟨(dy % 8).toNat, by omega⟩
  have A1 : 1 ≤ A := by omega
  have A4 : A ≤ 4 := by omega
  have B1 : 1 ≤ B := by omega
  have B4 : B ≤ 4 := by omega
  have D7 : D ≤ 7 := by omega
  have E7 : E ≤ 7 := by omega
  obtain ⟨a0, ea0⟩ : ∃ z, bits .and .i64 n 3 = z := ⟨_, rfl⟩
  obtain ⟨b0, eb0⟩ : ∃ z, bits .and .i64 m 3 = z := ⟨_, rfl⟩
  have ra0 : a0 = n % 4 := by rw [← ea0]; exact mask 2 (by decide) 3 (by decide) n
  have rb0 : b0 = m % 4 := by rw [← eb0]; exact mask 2 (by decide) 3 (by decide) m
  obtain ⟨AI, eAI⟩ : ∃ z : Int, (A : Int) = z := ⟨_, rfl⟩
  obtain ⟨BI, eBI⟩ : ∃ z : Int, (B : Int) = z := ⟨_, rfl⟩
  obtain ⟨DI, eDI⟩ : ∃ z : Int, (D : Int) = z := ⟨_, rfl⟩
  obtain ⟨EI, eEI⟩ : ∃ z : Int, (E : Int) = z := ⟨_, rfl⟩
  obtain ⟨UI, eUI⟩ : ∃ z : Int, ((10000 * D : Nat) : Int) = z := ⟨_, rfl⟩
  obtain ⟨VI, eVI⟩ : ∃ z : Int, ((10000 * E : Nat) : Int) = z := ⟨_, rfl⟩
  have sA : IntKind.i64.wrap (a0 + 1) = AI := by rw [IntWalk.i64_in _ (by omega)]; omega
  have sB : IntKind.i64.wrap (b0 + 1) = BI := by rw [IntWalk.i64_in _ (by omega)]; omega
  have sD : bits .and .i64 dx 7 = DI := by rw [mask 3 (by decide) 7 (by decide) dx, ← eDI]; exact eD
  have sE : bits .and .i64 dy 7 = EI := by rw [mask 3 (by decide) 7 (by decide) dy, ← eEI]; exact eE
  have sU : IntKind.i64.wrap (10000 * DI) = UI := by rw [IntWalk.i64_in _ (by omega)]; omega
  have sV : IntKind.i64.wrap (10000 * EI) = VI := by rw [IntWalk.i64_in _ (by omega)]; omega
  obtain ⟨ca, eca, _, _, va⟩ := canon_one (canon_numD A (by omega)) (by omega)
  obtain ⟨cb, ecb, _, _, vb⟩ := canon_one (canon_numD B (by omega)) (by omega)
  obtain ⟨cd, ecd, _, _, vd⟩ := canon_one (canon_numD D (by omega)) (by omega)
  obtain ⟨ce, ece, _, _, ve⟩ := canon_one (canon_numD E (by omega)) (by omega)
  have cu := canon_numD (10000 * D) (by omega)
  have cv := canon_numD (10000 * E) (by omega)
  obtain ⟨du, edu⟩ : ∃ d, numD (10000 * D) = d := ⟨_, rfl⟩
  obtain ⟨dv, edv⟩ : ∃ d, numD (10000 * E) = d := ⟨_, rfl⟩
  rw [edu] at cu
  rw [edv] at cv
  have lu6 := cu.2.2.2.1
  have lv6 := cv.2.2.2.1
  obtain ⟨NA, eNA⟩ : ∃ S, bs [ca] = S := ⟨_, rfl⟩
  have hNA : ∀ w, Calls Tryz.prog 7 #[.int .i64 AI, .int .i64 1] w fun e w' => e = .returned (.string NA) ∧ w = w' := fun w => by
    have h9 := num_d A w (by omega)
    rw [eca, eAI, eNA] at h9
    exact h9.mono fun e w' h => ⟨h.1.1, h.2⟩
  obtain ⟨NB, eNB⟩ : ∃ S, bs [cb] = S := ⟨_, rfl⟩
  have hNB : ∀ w, Calls Tryz.prog 7 #[.int .i64 BI, .int .i64 1] w fun e w' => e = .returned (.string NB) ∧ w = w' := fun w => by
    have h9 := num_d B w (by omega)
    rw [ecb, eBI, eNB] at h9
    exact h9.mono fun e w' h => ⟨h.1.1, h.2⟩
  obtain ⟨ND, eND⟩ : ∃ S, bs [cd] = S := ⟨_, rfl⟩
  have hND : ∀ w, Calls Tryz.prog 7 #[.int .i64 DI, .int .i64 1] w fun e w' => e = .returned (.string ND) ∧ w = w' := fun w => by
    have h9 := num_d D w (by omega)
    rw [ecd, eDI, eND] at h9
    exact h9.mono fun e w' h => ⟨h.1.1, h.2⟩
  obtain ⟨NE, eNE⟩ : ∃ S, bs [ce] = S := ⟨_, rfl⟩
  have hNE : ∀ w, Calls Tryz.prog 7 #[.int .i64 EI, .int .i64 1] w fun e w' => e = .returned (.string NE) ∧ w = w' := fun w => by
    have h9 := num_d E w (by omega)
    rw [ece, eEI, eNE] at h9
    exact h9.mono fun e w' h => ⟨h.1.1, h.2⟩
  obtain ⟨NU, eNU⟩ : ∃ S, bs du = S := ⟨_, rfl⟩
  have hNU : ∀ w, Calls Tryz.prog 7 #[.int .i64 UI, .int .i64 1] w fun e w' => e = .returned (.string NU) ∧ w = w' := fun w => by
    have h9 := num_d (10000 * D) w (by omega)
    rw [edu, eUI, eNU] at h9
    exact h9.mono fun e w' h => ⟨h.1.1, h.2⟩
  obtain ⟨NV, eNV⟩ : ∃ S, bs dv = S := ⟨_, rfl⟩
  have hNV : ∀ w, Calls Tryz.prog 7 #[.int .i64 VI, .int .i64 1] w fun e w' => e = .returned (.string NV) ∧ w = w' := fun w => by
    have h9 := num_d (10000 * E) w (by omega)
    rw [edv, eVI, eNV] at h9
    exact h9.mono fun e w' h => ⟨h.1.1, h.2⟩
  -- the row
  have hi := itsOf_ok l
  have hl12 := itsOf_len l
  have hop : ∀ X Y : Nat, X ≤ 21 → Y ≤ 21 → ∀ w', Below (w.heap.size + 1) (w.alloc (.cells #[.slice p l.length c] 22)) w' → Calls Tryz.prog 12 #[.int .i64 (X : Int), .int .i64 (Y : Int), .pointer (some ⟨w.heap.size, 0, none⟩)] w' fun e w'' => e = .returned (.string (bs (texts (gsF X Y (itsOf l))))) ∧ Below w'.heap.size w' w'' := fun X Y hX hY w' hb =>
    ops_c l X Y X Y rfl rfl hX hY w.heap.size b off c p w' ((hb.cell (p := ⟨w.heap.size, 0, none⟩) (by simp)).trans (by simp)) hp (fun k h => by
      have h1 := hc k h
      have h2 := blk_of_cell h1
      rw [hb.cell (p := ⟨b, off + k, none⟩) (by simp at h2 ⊢; omega), World.cell?_alloc_past _ _ _ h2]
      exact h1) hlen
  have hgs : ∀ X Y : Nat, X ≤ 21 → Y ≤ 21 → GsOf X Y (itsOf l) (gsF X Y (itsOf l)) := fun X Y hX hY => gsOf_gsF X Y _ hi hX hY
  have hgl : ∀ X Y : Nat, X ≤ 21 → Y ≤ 21 → (texts (gsF X Y (itsOf l))).length ≤ 600 ∧ (gsF X Y (itsOf l)).length ≤ 24 := fun X Y hX hY => by
    have h1 := (hgs X Y hX hY).len
    have h2 := texts_len _ ((hgs X Y hX hY).ok hi hX hY)
    omega
  obtain ⟨its, eits⟩ : ∃ i, itsOf l = i := ⟨_, rfl⟩
  rw [eits] at hi hl12 hop hgs hgl
  obtain ⟨L, eL⟩ : ∃ L, draw true 0 0 its = L := ⟨_, rfl⟩
  have lL : L.length ≤ 12 := by have := draw_len true 0 0 its; rw [eL] at this; omega
  obtain ⟨N, eN⟩ : ∃ N, l.length = N := ⟨_, rfl⟩
  rw [eN] at hop ⊢
  obtain ⟨u, eu⟩ : ∃ u, w.alloc (.cells #[.slice p N c] 22) = u := ⟨_, rfl⟩
  rw [eu] at hop
  have hsz : u.heap.size = w.heap.size + 1 := by rw [← eu]; simp
  have hBu : Below w.heap.size w u := by rw [← eu]; (repeat' (first | (with_reducible exact Below.refl _ _) | (with_reducible assumption) | (with_reducible refine below_drewN ?_ _) | (with_reducible refine Below.drew ?_) | (with_reducible refine Below.alloc ?_ ?_ _) | (with_reducible refine Below.setCell ?_ ?_ _) | omega | (simp; done) | (simp; omega)))
  rw [← hsz] at hop
  -- the words of the texts
  have g0 := hgs 0 0 (by omega) (by omega)
  have gl0 := hgl 0 0 (by omega) (by omega)
  have gDE := hgs D E (by omega) (by omega)
  have glDE := hgl D E (by omega) (by omega)
  obtain ⟨G0, eG0⟩ : ∃ G, gsF 0 0 its = G := ⟨_, rfl⟩
  obtain ⟨G1, eG1⟩ : ∃ G, gsF D E its = G := ⟨_, rfl⟩
  rw [eG0] at g0 gl0
  rw [eG1] at gDE glDE
  have hop0 : ∀ w', Below u.heap.size u w' → Calls Tryz.prog 12 #[.int .i64 0, .int .i64 0, .pointer (some ⟨w.heap.size, 0, none⟩)] w' fun e w'' => e = .returned (.string (bs (texts G0))) ∧ Below w'.heap.size w' w'' := by
    rw [← eG0]; exact hop 0 0 (by omega) (by omega)
  have hop1 : ∀ w', Below u.heap.size u w' → Calls Tryz.prog 12 #[.int .i64 DI, .int .i64 EI, .pointer (some ⟨w.heap.size, 0, none⟩)] w' fun e w'' => e = .returned (.string (bs (texts G1))) ∧ Below w'.heap.size w' w'' := by
    rw [← eG1, ← eDI, ← eEI]; exact hop D E (by omega) (by omega)
  obtain ⟨SG0, eSG0⟩ : ∃ S, bs (texts G0) = S := ⟨_, rfl⟩
  obtain ⟨SG1, eSG1⟩ : ∃ S, bs (texts G1) = S := ⟨_, rfl⟩
  rw [eSG0] at hop0
  rw [eSG1] at hop1
  have dok : Dig ca ∧ Dig cb ∧ Dig cd ∧ Dig ce := ⟨⟨‹_›, ‹_›⟩, ⟨‹_›, ‹_›⟩, ⟨‹_›, ‹_›⟩, ⟨‹_›, ‹_›⟩⟩
  have ok0 := g0.ok hi (by omega) (by omega)
  have ok1 := gDE.ok hi (by omega) (by omega)
  have fA := fun w => file_g (beginG ++ (Gr.sr ca cb cd ce :: (G0 ++ [.sre, .m02]))) _ (by
    intro g hg
    simp only [List.mem_append, List.mem_cons, List.not_mem_nil, or_false] at hg
    rcases hg with hg | rfl | hg | rfl | rfl
    · exact begin_ok g hg
    · exact dok
    · exact ok0 g hg
    · trivial
    · trivial) (goes_a g0 hi hl12 ca cb cd ce (by omega) (by omega) (by omega) (by omega) (by omega) (by omega)) (by simp [beginG]; omega) (by simp [beginG]) w
  have fC := fun w => file_g (beginG ++ (Gr.ab :: (G0 ++ [.abe, .lpd, .d20, .op3 du dv, .m02]))) _ (by
    intro g hg
    simp only [List.mem_append, List.mem_cons, List.not_mem_nil, or_false] at hg
    rcases hg with hg | rfl | hg | rfl | rfl | rfl | rfl | rfl
    · exact begin_ok g hg
    · trivial
    · exact ok0 g hg
    · trivial
    · trivial
    · trivial
    · exact ⟨⟨cu.1, cu.2.2.1, cu.2.2.2.1, by rw [cu.2.1]; omega⟩, ⟨cv.1, cv.2.2.1, cv.2.2.2.1, by rw [cv.2.1]; omega⟩⟩
    · trivial) (goes_c g0 hi hl12 D E (by omega) (by omega) du dv cu.2.1 cv.2.1) (by simp [beginG]; omega) (by simp [beginG]) w
  have dD := Drawn.step drawn_begin gDE hi (by omega) (by omega) (by simp; omega)
  have fD := fun w => file_g ((beginG ++ (Gr.lpd :: G1)) ++ [.m02]) _ (by
    intro g hg
    simp only [List.mem_append, List.mem_cons, List.not_mem_nil, or_false] at hg
    rcases hg with (hg | rfl | hg) | rfl
    · exact begin_ok g hg
    · trivial
    · exact ok1 g hg
    · trivial) dD.end (by simp [beginG]; omega) (by simp [beginG]) w
  rw [List.nil_append] at fD
  -- the sums
  obtain ⟨SA1, eSA1⟩ : ∃ S, bs (([37, 70, 83, 76, 65, 88, 50, 52, 89, 50, 52, 42, 37, 37, 77, 79, 77, 77, 42, 37, 37, 65, 68, 68, 49, 48, 67, 44, 48, 46, 53, 42, 37, 68, 49, 48, 42]) ++ [37, 83, 82, 88]) = S := ⟨_, rfl⟩
  have hSA1 : ∀ w, (Op.stringOp .add { data := #[37, 70, 83, 76, 65, 88, 50, 52, 89, 50, 52, 42, 37, 37, 77, 79, 77, 77, 42, 37, 37, 65, 68, 68, 49, 48, 67, 44, 48, 46, 53, 42, 37, 68, 49, 48, 42] } { data := #[37, 83, 82, 88] }).run Tryz.prog w = .ok (.string SA1) w := fun w => by
    have h9 := add_lit ([37, 70, 83, 76, 65, 88, 50, 52, 89, 50, 52, 42, 37, 37, 77, 79, 77, 77, 42, 37, 37, 65, 68, 68, 49, 48, 67, 44, 48, 46, 53, 42, 37, 68, 49, 48, 42]) ([37, 83, 82, 88]) { data := #[37, 70, 83, 76, 65, 88, 50, 52, 89, 50, 52, 42, 37, 37, 77, 79, 77, 77, 42, 37, 37, 65, 68, 68, 49, 48, 67, 44, 48, 46, 53, 42, 37, 68, 49, 48, 42] } SA1 (rfl) eSA1 (by first | omega | (simp; done) | (simp; omega)) (by first | omega | (simp; done) | (simp; omega)) w
    rw [show bs ([37, 83, 82, 88]) = { data := #[37, 83, 82, 88] } from rfl] at h9
    exact h9
  obtain ⟨SA2, eSA2⟩ : ∃ S, bs (((([37, 70, 83, 76, 65, 88, 50, 52, 89, 50, 52, 42, 37, 37, 77, 79, 77, 77, 42, 37, 37, 65, 68, 68, 49, 48, 67, 44, 48, 46, 53, 42, 37, 68, 49, 48, 42]) ++ [37, 83, 82, 88])) ++ [ca]) = S := ⟨_, rfl⟩
  have hSA2 : ∀ w, (Op.stringOp .add SA1 NA).run Tryz.prog w = .ok (.string SA2) w := fun w => by
    have h9 := add_lit ((([37, 70, 83, 76, 65, 88, 50, 52, 89, 50, 52, 42, 37, 37, 77, 79, 77, 77, 42, 37, 37, 65, 68, 68, 49, 48, 67, 44, 48, 46, 53, 42, 37, 68, 49, 48, 42]) ++ [37, 83, 82, 88])) ([ca]) SA1 SA2 (eSA1) eSA2 (by first | omega | (simp; done) | (simp; omega)) (by first | omega | (simp; done) | (simp; omega)) w
    rw [show bs ([ca]) = NA from eNA] at h9
    exact h9
  obtain ⟨SA3, eSA3⟩ : ∃ S, bs (((((([37, 70, 83, 76, 65, 88, 50, 52, 89, 50, 52, 42, 37, 37, 77, 79, 77, 77, 42, 37, 37, 65, 68, 68, 49, 48, 67, 44, 48, 46, 53, 42, 37, 68, 49, 48, 42]) ++ [37, 83, 82, 88])) ++ [ca])) ++ [89]) = S := ⟨_, rfl⟩
  have hSA3 : ∀ w, (Op.stringOp .add SA2 { data := #[89] }).run Tryz.prog w = .ok (.string SA3) w := fun w => by
    have h9 := add_lit ((((([37, 70, 83, 76, 65, 88, 50, 52, 89, 50, 52, 42, 37, 37, 77, 79, 77, 77, 42, 37, 37, 65, 68, 68, 49, 48, 67, 44, 48, 46, 53, 42, 37, 68, 49, 48, 42]) ++ [37, 83, 82, 88])) ++ [ca])) ([89]) SA2 SA3 (eSA2) eSA3 (by first | omega | (simp; done) | (simp; omega)) (by first | omega | (simp; done) | (simp; omega)) w
    rw [show bs ([89]) = { data := #[89] } from rfl] at h9
    exact h9
  obtain ⟨SA4, eSA4⟩ : ∃ S, bs (((((((([37, 70, 83, 76, 65, 88, 50, 52, 89, 50, 52, 42, 37, 37, 77, 79, 77, 77, 42, 37, 37, 65, 68, 68, 49, 48, 67, 44, 48, 46, 53, 42, 37, 68, 49, 48, 42]) ++ [37, 83, 82, 88])) ++ [ca])) ++ [89])) ++ [cb]) = S := ⟨_, rfl⟩
  have hSA4 : ∀ w, (Op.stringOp .add SA3 NB).run Tryz.prog w = .ok (.string SA4) w := fun w => by
    have h9 := add_lit ((((((([37, 70, 83, 76, 65, 88, 50, 52, 89, 50, 52, 42, 37, 37, 77, 79, 77, 77, 42, 37, 37, 65, 68, 68, 49, 48, 67, 44, 48, 46, 53, 42, 37, 68, 49, 48, 42]) ++ [37, 83, 82, 88])) ++ [ca])) ++ [89])) ([cb]) SA3 SA4 (eSA3) eSA4 (by first | omega | (simp; done) | (simp; omega)) (by first | omega | (simp; done) | (simp; omega)) w
    rw [show bs ([cb]) = NB from eNB] at h9
    exact h9
  obtain ⟨SA5, eSA5⟩ : ∃ S, bs (((((((((([37, 70, 83, 76, 65, 88, 50, 52, 89, 50, 52, 42, 37, 37, 77, 79, 77, 77, 42, 37, 37, 65, 68, 68, 49, 48, 67, 44, 48, 46, 53, 42, 37, 68, 49, 48, 42]) ++ [37, 83, 82, 88])) ++ [ca])) ++ [89])) ++ [cb])) ++ [73]) = S := ⟨_, rfl⟩
  have hSA5 : ∀ w, (Op.stringOp .add SA4 { data := #[73] }).run Tryz.prog w = .ok (.string SA5) w := fun w => by
    have h9 := add_lit ((((((((([37, 70, 83, 76, 65, 88, 50, 52, 89, 50, 52, 42, 37, 37, 77, 79, 77, 77, 42, 37, 37, 65, 68, 68, 49, 48, 67, 44, 48, 46, 53, 42, 37, 68, 49, 48, 42]) ++ [37, 83, 82, 88])) ++ [ca])) ++ [89])) ++ [cb])) ([73]) SA4 SA5 (eSA4) eSA5 (by first | omega | (simp; done) | (simp; omega)) (by first | omega | (simp; done) | (simp; omega)) w
    rw [show bs ([73]) = { data := #[73] } from rfl] at h9
    exact h9
  obtain ⟨SA6, eSA6⟩ : ∃ S, bs (((((((((((([37, 70, 83, 76, 65, 88, 50, 52, 89, 50, 52, 42, 37, 37, 77, 79, 77, 77, 42, 37, 37, 65, 68, 68, 49, 48, 67, 44, 48, 46, 53, 42, 37, 68, 49, 48, 42]) ++ [37, 83, 82, 88])) ++ [ca])) ++ [89])) ++ [cb])) ++ [73])) ++ [cd]) = S := ⟨_, rfl⟩
  have hSA6 : ∀ w, (Op.stringOp .add SA5 ND).run Tryz.prog w = .ok (.string SA6) w := fun w => by
    have h9 := add_lit ((((((((((([37, 70, 83, 76, 65, 88, 50, 52, 89, 50, 52, 42, 37, 37, 77, 79, 77, 77, 42, 37, 37, 65, 68, 68, 49, 48, 67, 44, 48, 46, 53, 42, 37, 68, 49, 48, 42]) ++ [37, 83, 82, 88])) ++ [ca])) ++ [89])) ++ [cb])) ++ [73])) ([cd]) SA5 SA6 (eSA5) eSA6 (by first | omega | (simp; done) | (simp; omega)) (by first | omega | (simp; done) | (simp; omega)) w
    rw [show bs ([cd]) = ND from eND] at h9
    exact h9
  obtain ⟨SA7, eSA7⟩ : ∃ S, bs (((((((((((((([37, 70, 83, 76, 65, 88, 50, 52, 89, 50, 52, 42, 37, 37, 77, 79, 77, 77, 42, 37, 37, 65, 68, 68, 49, 48, 67, 44, 48, 46, 53, 42, 37, 68, 49, 48, 42]) ++ [37, 83, 82, 88])) ++ [ca])) ++ [89])) ++ [cb])) ++ [73])) ++ [cd])) ++ [74]) = S := ⟨_, rfl⟩
  have hSA7 : ∀ w, (Op.stringOp .add SA6 { data := #[74] }).run Tryz.prog w = .ok (.string SA7) w := fun w => by
    have h9 := add_lit ((((((((((((([37, 70, 83, 76, 65, 88, 50, 52, 89, 50, 52, 42, 37, 37, 77, 79, 77, 77, 42, 37, 37, 65, 68, 68, 49, 48, 67, 44, 48, 46, 53, 42, 37, 68, 49, 48, 42]) ++ [37, 83, 82, 88])) ++ [ca])) ++ [89])) ++ [cb])) ++ [73])) ++ [cd])) ([74]) SA6 SA7 (eSA6) eSA7 (by first | omega | (simp; done) | (simp; omega)) (by first | omega | (simp; done) | (simp; omega)) w
    rw [show bs ([74]) = { data := #[74] } from rfl] at h9
    exact h9
  obtain ⟨SA8, eSA8⟩ : ∃ S, bs (((((((((((((((([37, 70, 83, 76, 65, 88, 50, 52, 89, 50, 52, 42, 37, 37, 77, 79, 77, 77, 42, 37, 37, 65, 68, 68, 49, 48, 67, 44, 48, 46, 53, 42, 37, 68, 49, 48, 42]) ++ [37, 83, 82, 88])) ++ [ca])) ++ [89])) ++ [cb])) ++ [73])) ++ [cd])) ++ [74])) ++ [ce]) = S := ⟨_, rfl⟩
  have hSA8 : ∀ w, (Op.stringOp .add SA7 NE).run Tryz.prog w = .ok (.string SA8) w := fun w => by
    have h9 := add_lit ((((((((((((((([37, 70, 83, 76, 65, 88, 50, 52, 89, 50, 52, 42, 37, 37, 77, 79, 77, 77, 42, 37, 37, 65, 68, 68, 49, 48, 67, 44, 48, 46, 53, 42, 37, 68, 49, 48, 42]) ++ [37, 83, 82, 88])) ++ [ca])) ++ [89])) ++ [cb])) ++ [73])) ++ [cd])) ++ [74])) ([ce]) SA7 SA8 (eSA7) eSA8 (by first | omega | (simp; done) | (simp; omega)) (by first | omega | (simp; done) | (simp; omega)) w
    rw [show bs ([ce]) = NE from eNE] at h9
    exact h9
  obtain ⟨SA9, eSA9⟩ : ∃ S, bs (((((((((((((((((([37, 70, 83, 76, 65, 88, 50, 52, 89, 50, 52, 42, 37, 37, 77, 79, 77, 77, 42, 37, 37, 65, 68, 68, 49, 48, 67, 44, 48, 46, 53, 42, 37, 68, 49, 48, 42]) ++ [37, 83, 82, 88])) ++ [ca])) ++ [89])) ++ [cb])) ++ [73])) ++ [cd])) ++ [74])) ++ [ce])) ++ [42, 37]) = S := ⟨_, rfl⟩
  have hSA9 : ∀ w, (Op.stringOp .add SA8 { data := #[42, 37] }).run Tryz.prog w = .ok (.string SA9) w := fun w => by
    have h9 := add_lit ((((((((((((((((([37, 70, 83, 76, 65, 88, 50, 52, 89, 50, 52, 42, 37, 37, 77, 79, 77, 77, 42, 37, 37, 65, 68, 68, 49, 48, 67, 44, 48, 46, 53, 42, 37, 68, 49, 48, 42]) ++ [37, 83, 82, 88])) ++ [ca])) ++ [89])) ++ [cb])) ++ [73])) ++ [cd])) ++ [74])) ++ [ce])) ([42, 37]) SA8 SA9 (eSA8) eSA9 (by first | omega | (simp; done) | (simp; omega)) (by first | omega | (simp; done) | (simp; omega)) w
    rw [show bs ([42, 37]) = { data := #[42, 37] } from rfl] at h9
    exact h9
  obtain ⟨SA10, eSA10⟩ : ∃ S, bs (((((((((((((((((((([37, 70, 83, 76, 65, 88, 50, 52, 89, 50, 52, 42, 37, 37, 77, 79, 77, 77, 42, 37, 37, 65, 68, 68, 49, 48, 67, 44, 48, 46, 53, 42, 37, 68, 49, 48, 42]) ++ [37, 83, 82, 88])) ++ [ca])) ++ [89])) ++ [cb])) ++ [73])) ++ [cd])) ++ [74])) ++ [ce])) ++ [42, 37])) ++ texts G0) = S := ⟨_, rfl⟩
  have hSA10 : ∀ w, (Op.stringOp .add SA9 SG0).run Tryz.prog w = .ok (.string SA10) w := fun w => by
    have h9 := add_lit ((((((((((((((((((([37, 70, 83, 76, 65, 88, 50, 52, 89, 50, 52, 42, 37, 37, 77, 79, 77, 77, 42, 37, 37, 65, 68, 68, 49, 48, 67, 44, 48, 46, 53, 42, 37, 68, 49, 48, 42]) ++ [37, 83, 82, 88])) ++ [ca])) ++ [89])) ++ [cb])) ++ [73])) ++ [cd])) ++ [74])) ++ [ce])) ++ [42, 37])) (texts G0) SA9 SA10 (eSA9) eSA10 (by first | omega | (simp; done) | (simp; omega)) (by first | omega | (simp; done) | (simp; omega)) w
    rw [show bs (texts G0) = SG0 from eSG0] at h9
    exact h9
  obtain ⟨SA11, eSA11⟩ : ∃ S, bs (((((((((((((((((((((([37, 70, 83, 76, 65, 88, 50, 52, 89, 50, 52, 42, 37, 37, 77, 79, 77, 77, 42, 37, 37, 65, 68, 68, 49, 48, 67, 44, 48, 46, 53, 42, 37, 68, 49, 48, 42]) ++ [37, 83, 82, 88])) ++ [ca])) ++ [89])) ++ [cb])) ++ [73])) ++ [cd])) ++ [74])) ++ [ce])) ++ [42, 37])) ++ texts G0)) ++ [37, 83, 82, 42, 37, 77, 48, 50, 42]) = S := ⟨_, rfl⟩
  have hSA11 : ∀ w, (Op.stringOp .add SA10 { data := #[37, 83, 82, 42, 37, 77, 48, 50, 42] }).run Tryz.prog w = .ok (.string SA11) w := fun w => by
    have h9 := add_lit ((((((((((((((((((((([37, 70, 83, 76, 65, 88, 50, 52, 89, 50, 52, 42, 37, 37, 77, 79, 77, 77, 42, 37, 37, 65, 68, 68, 49, 48, 67, 44, 48, 46, 53, 42, 37, 68, 49, 48, 42]) ++ [37, 83, 82, 88])) ++ [ca])) ++ [89])) ++ [cb])) ++ [73])) ++ [cd])) ++ [74])) ++ [ce])) ++ [42, 37])) ++ texts G0)) ([37, 83, 82, 42, 37, 77, 48, 50, 42]) SA10 SA11 (eSA10) eSA11 (by first | omega | (simp; done) | (simp; omega)) (by first | omega | (simp; done) | (simp; omega)) w
    rw [show bs ([37, 83, 82, 42, 37, 77, 48, 50, 42]) = { data := #[37, 83, 82, 42, 37, 77, 48, 50, 42] } from rfl] at h9
    exact h9
  have eFA : texts (beginG ++ (Gr.sr ca cb cd ce :: (G0 ++ [.sre, .m02]))) = (((((((((((((((((((((([37, 70, 83, 76, 65, 88, 50, 52, 89, 50, 52, 42, 37, 37, 77, 79, 77, 77, 42, 37, 37, 65, 68, 68, 49, 48, 67, 44, 48, 46, 53, 42, 37, 68, 49, 48, 42]) ++ [37, 83, 82, 88])) ++ [ca])) ++ [89])) ++ [cb])) ++ [73])) ++ [cd])) ++ [74])) ++ [ce])) ++ [42, 37])) ++ texts G0)) ++ [37, 83, 82, 42, 37, 77, 48, 50, 42]) := by
    simp [texts_append, texts_cons, texts_nil, txt_begin, Gr.text, Gr.ext, Gr.word, List.append_assoc]
  rw [eFA, eSA11] at fA
  obtain ⟨SC1, eSC1⟩ : ∃ S, bs (([37, 70, 83, 76, 65, 88, 50, 52, 89, 50, 52, 42, 37, 37, 77, 79, 77, 77, 42, 37, 37, 65, 68, 68, 49, 48, 67, 44, 48, 46, 53, 42, 37, 68, 49, 48, 42]) ++ [37, 65, 66, 68, 50, 48, 42, 37]) = S := ⟨_, rfl⟩
  have hSC1 : ∀ w, (Op.stringOp .add { data := #[37, 70, 83, 76, 65, 88, 50, 52, 89, 50, 52, 42, 37, 37, 77, 79, 77, 77, 42, 37, 37, 65, 68, 68, 49, 48, 67, 44, 48, 46, 53, 42, 37, 68, 49, 48, 42] } { data := #[37, 65, 66, 68, 50, 48, 42, 37] }).run Tryz.prog w = .ok (.string SC1) w := fun w => by
    have h9 := add_lit ([37, 70, 83, 76, 65, 88, 50, 52, 89, 50, 52, 42, 37, 37, 77, 79, 77, 77, 42, 37, 37, 65, 68, 68, 49, 48, 67, 44, 48, 46, 53, 42, 37, 68, 49, 48, 42]) ([37, 65, 66, 68, 50, 48, 42, 37]) { data := #[37, 70, 83, 76, 65, 88, 50, 52, 89, 50, 52, 42, 37, 37, 77, 79, 77, 77, 42, 37, 37, 65, 68, 68, 49, 48, 67, 44, 48, 46, 53, 42, 37, 68, 49, 48, 42] } SC1 (rfl) eSC1 (by first | omega | (simp; done) | (simp; omega)) (by first | omega | (simp; done) | (simp; omega)) w
    rw [show bs ([37, 65, 66, 68, 50, 48, 42, 37]) = { data := #[37, 65, 66, 68, 50, 48, 42, 37] } from rfl] at h9
    exact h9
  obtain ⟨SC2, eSC2⟩ : ∃ S, bs (((([37, 70, 83, 76, 65, 88, 50, 52, 89, 50, 52, 42, 37, 37, 77, 79, 77, 77, 42, 37, 37, 65, 68, 68, 49, 48, 67, 44, 48, 46, 53, 42, 37, 68, 49, 48, 42]) ++ [37, 65, 66, 68, 50, 48, 42, 37])) ++ texts G0) = S := ⟨_, rfl⟩
  have hSC2 : ∀ w, (Op.stringOp .add SC1 SG0).run Tryz.prog w = .ok (.string SC2) w := fun w => by
    have h9 := add_lit ((([37, 70, 83, 76, 65, 88, 50, 52, 89, 50, 52, 42, 37, 37, 77, 79, 77, 77, 42, 37, 37, 65, 68, 68, 49, 48, 67, 44, 48, 46, 53, 42, 37, 68, 49, 48, 42]) ++ [37, 65, 66, 68, 50, 48, 42, 37])) (texts G0) SC1 SC2 (eSC1) eSC2 (by first | omega | (simp; done) | (simp; omega)) (by first | omega | (simp; done) | (simp; omega)) w
    rw [show bs (texts G0) = SG0 from eSG0] at h9
    exact h9
  obtain ⟨SC3, eSC3⟩ : ∃ S, bs (((((([37, 70, 83, 76, 65, 88, 50, 52, 89, 50, 52, 42, 37, 37, 77, 79, 77, 77, 42, 37, 37, 65, 68, 68, 49, 48, 67, 44, 48, 46, 53, 42, 37, 68, 49, 48, 42]) ++ [37, 65, 66, 68, 50, 48, 42, 37])) ++ texts G0)) ++ [37, 65, 66, 42, 37]) = S := ⟨_, rfl⟩
  have hSC3 : ∀ w, (Op.stringOp .add SC2 { data := #[37, 65, 66, 42, 37] }).run Tryz.prog w = .ok (.string SC3) w := fun w => by
    have h9 := add_lit ((((([37, 70, 83, 76, 65, 88, 50, 52, 89, 50, 52, 42, 37, 37, 77, 79, 77, 77, 42, 37, 37, 65, 68, 68, 49, 48, 67, 44, 48, 46, 53, 42, 37, 68, 49, 48, 42]) ++ [37, 65, 66, 68, 50, 48, 42, 37])) ++ texts G0)) ([37, 65, 66, 42, 37]) SC2 SC3 (eSC2) eSC3 (by first | omega | (simp; done) | (simp; omega)) (by first | omega | (simp; done) | (simp; omega)) w
    rw [show bs ([37, 65, 66, 42, 37]) = { data := #[37, 65, 66, 42, 37] } from rfl] at h9
    exact h9
  obtain ⟨SC4, eSC4⟩ : ∃ S, bs (((((((([37, 70, 83, 76, 65, 88, 50, 52, 89, 50, 52, 42, 37, 37, 77, 79, 77, 77, 42, 37, 37, 65, 68, 68, 49, 48, 67, 44, 48, 46, 53, 42, 37, 68, 49, 48, 42]) ++ [37, 65, 66, 68, 50, 48, 42, 37])) ++ texts G0)) ++ [37, 65, 66, 42, 37])) ++ [37, 76, 80, 68, 42, 37]) = S := ⟨_, rfl⟩
  have hSC4 : ∀ w, (Op.stringOp .add SC3 { data := #[37, 76, 80, 68, 42, 37] }).run Tryz.prog w = .ok (.string SC4) w := fun w => by
    have h9 := add_lit ((((((([37, 70, 83, 76, 65, 88, 50, 52, 89, 50, 52, 42, 37, 37, 77, 79, 77, 77, 42, 37, 37, 65, 68, 68, 49, 48, 67, 44, 48, 46, 53, 42, 37, 68, 49, 48, 42]) ++ [37, 65, 66, 68, 50, 48, 42, 37])) ++ texts G0)) ++ [37, 65, 66, 42, 37])) ([37, 76, 80, 68, 42, 37]) SC3 SC4 (eSC3) eSC4 (by first | omega | (simp; done) | (simp; omega)) (by first | omega | (simp; done) | (simp; omega)) w
    rw [show bs ([37, 76, 80, 68, 42, 37]) = { data := #[37, 76, 80, 68, 42, 37] } from rfl] at h9
    exact h9
  obtain ⟨SC5, eSC5⟩ : ∃ S, bs (((((((((([37, 70, 83, 76, 65, 88, 50, 52, 89, 50, 52, 42, 37, 37, 77, 79, 77, 77, 42, 37, 37, 65, 68, 68, 49, 48, 67, 44, 48, 46, 53, 42, 37, 68, 49, 48, 42]) ++ [37, 65, 66, 68, 50, 48, 42, 37])) ++ texts G0)) ++ [37, 65, 66, 42, 37])) ++ [37, 76, 80, 68, 42, 37])) ++ [68, 50, 48, 42, 88]) = S := ⟨_, rfl⟩
  have hSC5 : ∀ w, (Op.stringOp .add SC4 { data := #[68, 50, 48, 42, 88] }).run Tryz.prog w = .ok (.string SC5) w := fun w => by
    have h9 := add_lit ((((((((([37, 70, 83, 76, 65, 88, 50, 52, 89, 50, 52, 42, 37, 37, 77, 79, 77, 77, 42, 37, 37, 65, 68, 68, 49, 48, 67, 44, 48, 46, 53, 42, 37, 68, 49, 48, 42]) ++ [37, 65, 66, 68, 50, 48, 42, 37])) ++ texts G0)) ++ [37, 65, 66, 42, 37])) ++ [37, 76, 80, 68, 42, 37])) ([68, 50, 48, 42, 88]) SC4 SC5 (eSC4) eSC5 (by first | omega | (simp; done) | (simp; omega)) (by first | omega | (simp; done) | (simp; omega)) w
    rw [show bs ([68, 50, 48, 42, 88]) = { data := #[68, 50, 48, 42, 88] } from rfl] at h9
    exact h9
  obtain ⟨SC6, eSC6⟩ : ∃ S, bs (((((((((((([37, 70, 83, 76, 65, 88, 50, 52, 89, 50, 52, 42, 37, 37, 77, 79, 77, 77, 42, 37, 37, 65, 68, 68, 49, 48, 67, 44, 48, 46, 53, 42, 37, 68, 49, 48, 42]) ++ [37, 65, 66, 68, 50, 48, 42, 37])) ++ texts G0)) ++ [37, 65, 66, 42, 37])) ++ [37, 76, 80, 68, 42, 37])) ++ [68, 50, 48, 42, 88])) ++ du) = S := ⟨_, rfl⟩
  have hSC6 : ∀ w, (Op.stringOp .add SC5 NU).run Tryz.prog w = .ok (.string SC6) w := fun w => by
    have h9 := add_lit ((((((((((([37, 70, 83, 76, 65, 88, 50, 52, 89, 50, 52, 42, 37, 37, 77, 79, 77, 77, 42, 37, 37, 65, 68, 68, 49, 48, 67, 44, 48, 46, 53, 42, 37, 68, 49, 48, 42]) ++ [37, 65, 66, 68, 50, 48, 42, 37])) ++ texts G0)) ++ [37, 65, 66, 42, 37])) ++ [37, 76, 80, 68, 42, 37])) ++ [68, 50, 48, 42, 88])) (du) SC5 SC6 (eSC5) eSC6 (by first | omega | (simp; done) | (simp; omega)) (by first | omega | (simp; done) | (simp; omega)) w
    rw [show bs (du) = NU from eNU] at h9
    exact h9
  obtain ⟨SC7, eSC7⟩ : ∃ S, bs (((((((((((((([37, 70, 83, 76, 65, 88, 50, 52, 89, 50, 52, 42, 37, 37, 77, 79, 77, 77, 42, 37, 37, 65, 68, 68, 49, 48, 67, 44, 48, 46, 53, 42, 37, 68, 49, 48, 42]) ++ [37, 65, 66, 68, 50, 48, 42, 37])) ++ texts G0)) ++ [37, 65, 66, 42, 37])) ++ [37, 76, 80, 68, 42, 37])) ++ [68, 50, 48, 42, 88])) ++ du)) ++ [89]) = S := ⟨_, rfl⟩
  have hSC7 : ∀ w, (Op.stringOp .add SC6 { data := #[89] }).run Tryz.prog w = .ok (.string SC7) w := fun w => by
    have h9 := add_lit ((((((((((((([37, 70, 83, 76, 65, 88, 50, 52, 89, 50, 52, 42, 37, 37, 77, 79, 77, 77, 42, 37, 37, 65, 68, 68, 49, 48, 67, 44, 48, 46, 53, 42, 37, 68, 49, 48, 42]) ++ [37, 65, 66, 68, 50, 48, 42, 37])) ++ texts G0)) ++ [37, 65, 66, 42, 37])) ++ [37, 76, 80, 68, 42, 37])) ++ [68, 50, 48, 42, 88])) ++ du)) ([89]) SC6 SC7 (eSC6) eSC7 (by first | omega | (simp; done) | (simp; omega)) (by first | omega | (simp; done) | (simp; omega)) w
    rw [show bs ([89]) = { data := #[89] } from rfl] at h9
    exact h9
  obtain ⟨SC8, eSC8⟩ : ∃ S, bs (((((((((((((((([37, 70, 83, 76, 65, 88, 50, 52, 89, 50, 52, 42, 37, 37, 77, 79, 77, 77, 42, 37, 37, 65, 68, 68, 49, 48, 67, 44, 48, 46, 53, 42, 37, 68, 49, 48, 42]) ++ [37, 65, 66, 68, 50, 48, 42, 37])) ++ texts G0)) ++ [37, 65, 66, 42, 37])) ++ [37, 76, 80, 68, 42, 37])) ++ [68, 50, 48, 42, 88])) ++ du)) ++ [89])) ++ dv) = S := ⟨_, rfl⟩
  have hSC8 : ∀ w, (Op.stringOp .add SC7 NV).run Tryz.prog w = .ok (.string SC8) w := fun w => by
    have h9 := add_lit ((((((((((((((([37, 70, 83, 76, 65, 88, 50, 52, 89, 50, 52, 42, 37, 37, 77, 79, 77, 77, 42, 37, 37, 65, 68, 68, 49, 48, 67, 44, 48, 46, 53, 42, 37, 68, 49, 48, 42]) ++ [37, 65, 66, 68, 50, 48, 42, 37])) ++ texts G0)) ++ [37, 65, 66, 42, 37])) ++ [37, 76, 80, 68, 42, 37])) ++ [68, 50, 48, 42, 88])) ++ du)) ++ [89])) (dv) SC7 SC8 (eSC7) eSC8 (by first | omega | (simp; done) | (simp; omega)) (by first | omega | (simp; done) | (simp; omega)) w
    rw [show bs (dv) = NV from eNV] at h9
    exact h9
  obtain ⟨SC9, eSC9⟩ : ∃ S, bs (((((((((((((((((([37, 70, 83, 76, 65, 88, 50, 52, 89, 50, 52, 42, 37, 37, 77, 79, 77, 77, 42, 37, 37, 65, 68, 68, 49, 48, 67, 44, 48, 46, 53, 42, 37, 68, 49, 48, 42]) ++ [37, 65, 66, 68, 50, 48, 42, 37])) ++ texts G0)) ++ [37, 65, 66, 42, 37])) ++ [37, 76, 80, 68, 42, 37])) ++ [68, 50, 48, 42, 88])) ++ du)) ++ [89])) ++ dv)) ++ [68, 48, 51, 42, 77, 48, 50, 42]) = S := ⟨_, rfl⟩
  have hSC9 : ∀ w, (Op.stringOp .add SC8 { data := #[68, 48, 51, 42, 77, 48, 50, 42] }).run Tryz.prog w = .ok (.string SC9) w := fun w => by
    have h9 := add_lit ((((((((((((((((([37, 70, 83, 76, 65, 88, 50, 52, 89, 50, 52, 42, 37, 37, 77, 79, 77, 77, 42, 37, 37, 65, 68, 68, 49, 48, 67, 44, 48, 46, 53, 42, 37, 68, 49, 48, 42]) ++ [37, 65, 66, 68, 50, 48, 42, 37])) ++ texts G0)) ++ [37, 65, 66, 42, 37])) ++ [37, 76, 80, 68, 42, 37])) ++ [68, 50, 48, 42, 88])) ++ du)) ++ [89])) ++ dv)) ([68, 48, 51, 42, 77, 48, 50, 42]) SC8 SC9 (eSC8) eSC9 (by first | omega | (simp; done) | (simp; omega)) (by first | omega | (simp; done) | (simp; omega)) w
    rw [show bs ([68, 48, 51, 42, 77, 48, 50, 42]) = { data := #[68, 48, 51, 42, 77, 48, 50, 42] } from rfl] at h9
    exact h9
  have eFC : texts (beginG ++ (Gr.ab :: (G0 ++ [.abe, .lpd, .d20, .op3 du dv, .m02]))) = (((((((((((((((((([37, 70, 83, 76, 65, 88, 50, 52, 89, 50, 52, 42, 37, 37, 77, 79, 77, 77, 42, 37, 37, 65, 68, 68, 49, 48, 67, 44, 48, 46, 53, 42, 37, 68, 49, 48, 42]) ++ [37, 65, 66, 68, 50, 48, 42, 37])) ++ texts G0)) ++ [37, 65, 66, 42, 37])) ++ [37, 76, 80, 68, 42, 37])) ++ [68, 50, 48, 42, 88])) ++ du)) ++ [89])) ++ dv)) ++ [68, 48, 51, 42, 77, 48, 50, 42]) := by
    simp [texts_append, texts_cons, texts_nil, txt_begin, Gr.text, Gr.ext, Gr.word, List.append_assoc]
  rw [eFC, eSC9] at fC
  obtain ⟨SD1, eSD1⟩ : ∃ S, bs (([37, 70, 83, 76, 65, 88, 50, 52, 89, 50, 52, 42, 37, 37, 77, 79, 77, 77, 42, 37, 37, 65, 68, 68, 49, 48, 67, 44, 48, 46, 53, 42, 37, 68, 49, 48, 42]) ++ [37, 76, 80, 68, 42, 37]) = S := ⟨_, rfl⟩
  have hSD1 : ∀ w, (Op.stringOp .add { data := #[37, 70, 83, 76, 65, 88, 50, 52, 89, 50, 52, 42, 37, 37, 77, 79, 77, 77, 42, 37, 37, 65, 68, 68, 49, 48, 67, 44, 48, 46, 53, 42, 37, 68, 49, 48, 42] } { data := #[37, 76, 80, 68, 42, 37] }).run Tryz.prog w = .ok (.string SD1) w := fun w => by
    have h9 := add_lit ([37, 70, 83, 76, 65, 88, 50, 52, 89, 50, 52, 42, 37, 37, 77, 79, 77, 77, 42, 37, 37, 65, 68, 68, 49, 48, 67, 44, 48, 46, 53, 42, 37, 68, 49, 48, 42]) ([37, 76, 80, 68, 42, 37]) { data := #[37, 70, 83, 76, 65, 88, 50, 52, 89, 50, 52, 42, 37, 37, 77, 79, 77, 77, 42, 37, 37, 65, 68, 68, 49, 48, 67, 44, 48, 46, 53, 42, 37, 68, 49, 48, 42] } SD1 (rfl) eSD1 (by first | omega | (simp; done) | (simp; omega)) (by first | omega | (simp; done) | (simp; omega)) w
    rw [show bs ([37, 76, 80, 68, 42, 37]) = { data := #[37, 76, 80, 68, 42, 37] } from rfl] at h9
    exact h9
  obtain ⟨SD2, eSD2⟩ : ∃ S, bs (((([37, 70, 83, 76, 65, 88, 50, 52, 89, 50, 52, 42, 37, 37, 77, 79, 77, 77, 42, 37, 37, 65, 68, 68, 49, 48, 67, 44, 48, 46, 53, 42, 37, 68, 49, 48, 42]) ++ [37, 76, 80, 68, 42, 37])) ++ texts G1) = S := ⟨_, rfl⟩
  have hSD2 : ∀ w, (Op.stringOp .add SD1 SG1).run Tryz.prog w = .ok (.string SD2) w := fun w => by
    have h9 := add_lit ((([37, 70, 83, 76, 65, 88, 50, 52, 89, 50, 52, 42, 37, 37, 77, 79, 77, 77, 42, 37, 37, 65, 68, 68, 49, 48, 67, 44, 48, 46, 53, 42, 37, 68, 49, 48, 42]) ++ [37, 76, 80, 68, 42, 37])) (texts G1) SD1 SD2 (eSD1) eSD2 (by first | omega | (simp; done) | (simp; omega)) (by first | omega | (simp; done) | (simp; omega)) w
    rw [show bs (texts G1) = SG1 from eSG1] at h9
    exact h9
  obtain ⟨SD3, eSD3⟩ : ∃ S, bs (((((([37, 70, 83, 76, 65, 88, 50, 52, 89, 50, 52, 42, 37, 37, 77, 79, 77, 77, 42, 37, 37, 65, 68, 68, 49, 48, 67, 44, 48, 46, 53, 42, 37, 68, 49, 48, 42]) ++ [37, 76, 80, 68, 42, 37])) ++ texts G1)) ++ [77, 48, 50, 42]) = S := ⟨_, rfl⟩
  have hSD3 : ∀ w, (Op.stringOp .add SD2 { data := #[77, 48, 50, 42] }).run Tryz.prog w = .ok (.string SD3) w := fun w => by
    have h9 := add_lit ((((([37, 70, 83, 76, 65, 88, 50, 52, 89, 50, 52, 42, 37, 37, 77, 79, 77, 77, 42, 37, 37, 65, 68, 68, 49, 48, 67, 44, 48, 46, 53, 42, 37, 68, 49, 48, 42]) ++ [37, 76, 80, 68, 42, 37])) ++ texts G1)) ([77, 48, 50, 42]) SD2 SD3 (eSD2) eSD3 (by first | omega | (simp; done) | (simp; omega)) (by first | omega | (simp; done) | (simp; omega)) w
    rw [show bs ([77, 48, 50, 42]) = { data := #[77, 48, 50, 42] } from rfl] at h9
    exact h9
  have eFD : texts ((beginG ++ (Gr.lpd :: G1)) ++ [.m02]) = (((((([37, 70, 83, 76, 65, 88, 50, 52, 89, 50, 52, 42, 37, 37, 77, 79, 77, 77, 42, 37, 37, 65, 68, 68, 49, 48, 67, 44, 48, 46, 53, 42, 37, 68, 49, 48, 42]) ++ [37, 76, 80, 68, 42, 37])) ++ texts G1)) ++ [77, 48, 50, 42]) := by
    simp [texts_append, texts_cons, texts_nil, txt_begin, Gr.text, Gr.ext, Gr.word, List.append_assoc]
  rw [eFD, eSD3] at fD
  rw [va, vb, eL] at fA
  obtain ⟨px, epx⟩ : ∃ z, stepOf cd = z := ⟨_, rfl⟩
  obtain ⟨py, epy⟩ : ∃ z, stepOf ce = z := ⟨_, rfl⟩
  rw [epx, epy] at fA
  have rpx : px = ((D * 10000000 : Nat) : Int) := by rw [← epx]; unfold stepOf; rw [vd]
  have rpy : py = ((E * 10000000 : Nat) : Int) := by rw [← epy]; unfold stepOf; rw [ve]
  obtain ⟨O2, eO2⟩ : ∃ O, draw true ((10000000 * D : Nat) : Int) ((10000000 * E : Nat) : Int) its = O := ⟨_, rfl⟩
  rw [eO2] at fC fD
  have lO2 : O2.length ≤ 12 := by rw [← eO2]; have := draw_len true ((10000000 * D : Nat) : Int) ((10000000 * E : Nat) : Int) its; omega
  obtain ⟨O1, eO1⟩ : ∃ O, copies L px py B A = O := ⟨_, rfl⟩
  have lO1 : O1.length ≤ 192 := by rw [← eO1]; exact cop_len _ _ _ _ _ lL B4 A4
  rw [eO1] at fA
  have HFA := Lib.hid fA
  have HFC := Lib.hid fC
  have HFD := Lib.hid fD
  have HOP := Lib.hid hop
  have HOP0 := Lib.hid hop0
  have HOP1 := Lib.hid hop1
  have HGS := Lib.hid hgs
  have HGL := Lib.hid hgl
  have HI := Lib.hid hi
  have EU := Lib.hid eu
  have EL := Lib.hid eL
  have EO1 := Lib.hid eO1
  have HBU := Lib.hid hBu
  have HAW := Lib.hid haw
  have EDI := Lib.hid eDI
  have EEI := Lib.hid eEI
  have RPX := Lib.hid rpx
  have RPY := Lib.hid rpy
  have EAI := Lib.hid eAI
  have EBI := Lib.hid eBI
  have HNA := Lib.hid hNA
  have HNB := Lib.hid hNB
  have HND := Lib.hid hND
  have HNE := Lib.hid hNE
  have HNU := Lib.hid hNU
  have HNV := Lib.hid hNV
  clear fA fC fD hop hop0 hop1 hgs hgl hi eu eL eO1 hBu haw hp hc eDI eEI rpx rpy eAI eBI eA eB eD eE ra0 rb0 eca ecb ecd ece edu edv cu cv va vb vd ve epx epy eits eN eG0 eG1 g0 gl0 gDE glDE eSG0 eSG1 ok0 ok1 dok dD eFA eFC eFD eO2 eUI eVI hNA hNB hND hNE hNU hNV eNA eNB eND eNE eNU eNV lu6 lv6 hsz hlen
  go_enter Tryz.func4, Tryz.ntmps4
  go_wp2_with (first | (go_at_call 7; (with_reducible refine (HNA.out _).mono ?_); rintro e' w' ⟨rfl, rfl⟩) | (go_at_call 7; (with_reducible refine (HNB.out _).mono ?_); rintro e' w' ⟨rfl, rfl⟩) | (go_at_call 7; (with_reducible refine (HND.out _).mono ?_); rintro e' w' ⟨rfl, rfl⟩) | (go_at_call 7; (with_reducible refine (HNE.out _).mono ?_); rintro e' w' ⟨rfl, rfl⟩) | (go_at_call 7; (with_reducible refine (HNU.out _).mono ?_); rintro e' w' ⟨rfl, rfl⟩) | (go_at_call 7; (with_reducible refine (HNV.out _).mono ?_); rintro e' w' ⟨rfl, rfl⟩))
  rw [EU.out]
  refine (HOP0.out _ (Below.refl _ _)).mono ?_
  rintro e w1 ⟨rfl, hb⟩
  have HB1 := Lib.hid hb
  clear hb
  go_wp2_with fail
  go_loopw [15, 16] (fun s i wr => ∃ (k : Nat) (gs : List Gr), i = .int .i64 (k : Int) ∧ s = .string (bs (texts gs)) ∧ k ≤ A ∧ gs.length ≤ 4 + 100 * k ∧ Drawn gs (copies L px py B k) ∧ Below u.heap.size u wr) (fun _ i wr => A - (intOf i).toNat)
  case atStart => exact ⟨0, beginG, rfl, rfl, Nat.zero_le _, by simp [beginG], drawn_begin, HB1.out⟩
  case round =>
  obtain ⟨k, gs, rfl, rfl, hk, hgl, hD, hB⟩ := hrel
  have HD := Lib.hid hD
  have HB := Lib.hid hB
  clear hD hB HB1
  by_cases hlt : k < A
  · have i1 : (k : Int) < AI := by have := EAI.out; omega
    go_wp2_with fail
    go_loopw [15, 17] (fun s j wx => ∃ (q : Nat) (hs : List Gr), j = .int .i64 (q : Int) ∧ s = .string (bs (texts hs)) ∧ q ≤ B ∧ hs.length ≤ 4 + 100 * k + 25 * q ∧ Drawn hs (copies L px py B k ++ copiesY L ((k : Int) * px) py q) ∧ Below u.heap.size u wx) (fun _ j wx => B - (intOf j).toNat)
    case atStart => exact ⟨0, gs, rfl, rfl, Nat.zero_le _, by omega, by simpa [copiesY] using HD.out, HB.out⟩
    case round =>
    obtain ⟨q, hs, rfl, rfl, hq, hhl, hE, hC⟩ := hrel
    have HE := Lib.hid hE
    have HC := Lib.hid hC
    clear hE hC
    by_cases hlq : q < B
    · have i2 : (q : Int) < BI := by have := EBI.out; omega
      obtain ⟨X, eX⟩ : ∃ X, k * D = X := ⟨_, rfl⟩
      obtain ⟨Y, eY⟩ : ∃ Y, q * E = Y := ⟨_, rfl⟩
      have X21 : X ≤ 21 := by rw [← eX]; exact Nat.mul_le_mul (by omega : k ≤ 3) D7
      have Y21 : Y ≤ 21 := by rw [← eY]; exact Nat.mul_le_mul (by omega : q ≤ 3) E7
      obtain ⟨XI, eXI⟩ : ∃ z : Int, (X : Int) = z := ⟨_, rfl⟩
      obtain ⟨YI, eYI⟩ : ∃ z : Int, (Y : Int) = z := ⟨_, rfl⟩
      have sX : IntKind.i64.wrap ((k : Int) * DI) = XI := by
        have e9 : (k : Int) * DI = XI := by rw [← EDI.out, ← Int.natCast_mul, eX, eXI]
        rw [e9]; exact IntWalk.i64_in _ (by omega)
      have sY : IntKind.i64.wrap ((q : Int) * EI) = YI := by
        have e9 : (q : Int) * EI = YI := by rw [← EEI.out, ← Int.natCast_mul, eY, eYI]
        rw [e9]; exact IntWalk.i64_in _ (by omega)
      have hop := HOP.out X Y X21 Y21
      have hgx := HGS.out X Y X21 Y21
      have hgl2 := HGL.out X Y X21 Y21
      obtain ⟨G, eG⟩ : ∃ G, gsF X Y its = G := ⟨_, rfl⟩
      rw [eG] at hop hgx hgl2
      rw [eXI, eYI] at hop
      have hdl := copY_len L ((k : Int) * px) py q lL (by omega)
      have hcl := cop_len L px py B k lL B4 (by omega)
      have hnew := HE.out.step hgx HI.out X21 Y21 (by rw [List.length_append]; omega)
      have hsum : copies L px py B k ++ copiesY L ((k : Int) * px) py q ++ draw true ((10000000 * X : Nat) : Int) ((10000000 * Y : Nat) : Int) its = copies L px py B k ++ copiesY L ((k : Int) * px) py (q + 1) := by
        have e1 : ((10000000 * X : Nat) : Int) = (k : Int) * px := by rw [RPX.out, ← eX]; exact step_mul k D
        have e2 : ((10000000 * Y : Nat) : Int) = (q : Int) * py := by rw [RPY.out, ← eY]; exact step_mul q E
        rw [List.append_assoc, e1, e2, ← EL.out, copiesY_draw]
      rw [hsum] at hnew
      have htx := texts_len _ HE.out.1
      obtain ⟨SG, eSG⟩ : ∃ S, bs (texts G) = S := ⟨_, rfl⟩
      rw [eSG] at hop
      obtain ⟨T0, eT0⟩ : ∃ S, bs (texts hs) = S := ⟨_, rfl⟩
      obtain ⟨T1, eT1⟩ : ∃ S, bs (texts hs ++ [37, 76, 80, 68, 42, 37]) = S := ⟨_, rfl⟩
      obtain ⟨T2, eT2⟩ : ∃ S, bs ((texts hs ++ [37, 76, 80, 68, 42, 37]) ++ texts G) = S := ⟨_, rfl⟩
      have q1 : ∀ w, (Op.stringOp .add T0 { data := #[37, 76, 80, 68, 42, 37] }).run Tryz.prog w = .ok (.string T1) w := fun w => add_lit _ [37, 76, 80, 68, 42, 37] T0 T1 eT0 eT1 (by omega) (by simp) w
      have q2 : ∀ w, (Op.stringOp .add T1 SG).run Tryz.prog w = .ok (.string T2) w := fun w => by rw [← eSG]; exact add_lit _ (texts G) T1 T2 eT1 eT2 (by simp; omega) (by omega) w
      rw [eT0]
      have HOPX := Lib.hid hop
      have HNEW := Lib.hid hnew
      have hT2 : bs (texts (hs ++ (.lpd :: G))) = T2 := by
        rw [← eT2]
        simp [texts_append, texts_cons, Gr.text, Gr.ext, Gr.word, List.append_assoc]
      have HT2 := Lib.hid hT2
      clear hop hnew hgx hsum htx hdl hcl eT0 eT1 eT2 eG eSG hT2 eX eY eXI eYI
      go_wp2_with fail
      refine (HOPX.out _ HC.out).mono ?_
      rintro e w2 ⟨rfl, hb⟩
      have HB2 := Lib.hid (HC.out.trans (hb.mono HC.out.size))
      clear hb
      go_wp2_with fail
      go_roundw
      case rel =>
        have hr2 : Value.int .i64 ((q : Int) + 1) = .int .i64 ((q + 1 : Nat) : Int) ∧ Value.string T2 = .string (bs (texts (hs ++ (.lpd :: G)))) ∧ q + 1 ≤ B ∧ (hs ++ (.lpd :: G)).length ≤ 4 + 100 * k + 25 * (q + 1) ∧ Drawn (hs ++ (.lpd :: G)) (copies L px py B k ++ copiesY L ((k : Int) * px) py (q + 1)) ∧ Below u.heap.size u w2 :=
          ⟨by go_num, by rw [HT2.out], by omega, by simp; omega, HNEW.out, HB2.out⟩
        first | exact ⟨q + 1, _, hr2⟩ | ((repeat apply Exists.intro); exact ⟨⟨q + 1, _, hr2⟩, rfl⟩) | ((repeat apply Exists.intro); exact ⟨⟨q + 1, _, hr2⟩, rfl, rfl⟩)
      case measure => simp [intOf]; omega
    · have e : q = B := by omega
      subst e
      have ni2 : ¬ (q : Int) < BI := by have := EBI.out; omega
      have hc2 : copies L px py q k ++ copiesY L ((k : Int) * px) py q = copies L px py q (k + 1) := rfl
      have hE := HE.out
      rw [hc2] at hE
      have HE2 := Lib.hid hE
      clear hE HE hc2
      go_wp2_with fail
      go_roundw
      case rel =>
        have hr2 : Value.int .i64 ((k : Int) + 1) = .int .i64 ((k + 1 : Nat) : Int) ∧ Value.string (bs (texts hs)) = .string (bs (texts hs)) ∧ k + 1 ≤ A ∧ hs.length ≤ 4 + 100 * (k + 1) ∧ Drawn hs (copies L px py q (k + 1)) ∧ Below u.heap.size u wr :=
          ⟨by go_num, rfl, by omega, by omega, HE2.out, HC.out⟩
        first | exact ⟨k + 1, _, hr2⟩ | ((repeat apply Exists.intro); exact ⟨⟨k + 1, _, hr2⟩, rfl⟩) | ((repeat apply Exists.intro); exact ⟨⟨k + 1, _, hr2⟩, rfl, rfl⟩)
      case measure => simp [intOf]; omega
  · have e : k = A := by omega
    subst e
    have ni1 : ¬ (k : Int) < AI := by have := EAI.out; omega
    have hDk := HD.out
    rw [EO1.out] at hDk
    have hgg : gs.length ≤ 404 := by omega
    have htx := texts_len _ hDk.1
    have fB := fun w => file_g (gs ++ [.m02]) O1 (by
      intro g hg
      simp only [List.mem_append, List.mem_cons, List.not_mem_nil, or_false] at hg
      rcases hg with hg | rfl
      · exact hDk.1 g hg
      · trivial) hDk.end (by simp; omega) (by simp) w
    obtain ⟨T0, eT0⟩ : ∃ S, bs (texts gs) = S := ⟨_, rfl⟩
    obtain ⟨T1, eT1⟩ : ∃ S, bs (texts gs ++ [77, 48, 50, 42]) = S := ⟨_, rfl⟩
    have q1 : ∀ w, (Op.stringOp .add T0 { data := #[77, 48, 50, 42] }).run Tryz.prog w = .ok (.string T1) w := fun w => add_lit _ [77, 48, 50, 42] T0 T1 eT0 eT1 (by omega) (by simp) w
    have eFB : texts (gs ++ [.m02]) = texts gs ++ [77, 48, 50, 42] := by simp [texts_append, texts_cons, texts_nil, Gr.text, Gr.ext, Gr.word]
    rw [eFB, eT1] at fB
    rw [eT0]
    have HFB := Lib.hid fB
    clear hDk HD htx fB eT0 eT1 eFB
    go_wp2_with (first | (go_at_call 7; (with_reducible refine (HNA.out _).mono ?_); rintro e' w' ⟨rfl, rfl⟩) | (go_at_call 7; (with_reducible refine (HNB.out _).mono ?_); rintro e' w' ⟨rfl, rfl⟩) | (go_at_call 7; (with_reducible refine (HND.out _).mono ?_); rintro e' w' ⟨rfl, rfl⟩) | (go_at_call 7; (with_reducible refine (HNE.out _).mono ?_); rintro e' w' ⟨rfl, rfl⟩) | (go_at_call 7; (with_reducible refine (HNU.out _).mono ?_); rintro e' w' ⟨rfl, rfl⟩) | (go_at_call 7; (with_reducible refine (HNV.out _).mono ?_); rintro e' w' ⟨rfl, rfl⟩))
    refine (HOP0.out _ HB.out).mono ?_
    rintro e w2 ⟨rfl, hb⟩
    have HB2 := Lib.hid (HB.out.trans (hb.mono HB.out.size))
    clear hb
    go_wp2_with (first | (go_at_call 7; (with_reducible refine (HNA.out _).mono ?_); rintro e' w' ⟨rfl, rfl⟩) | (go_at_call 7; (with_reducible refine (HNB.out _).mono ?_); rintro e' w' ⟨rfl, rfl⟩) | (go_at_call 7; (with_reducible refine (HND.out _).mono ?_); rintro e' w' ⟨rfl, rfl⟩) | (go_at_call 7; (with_reducible refine (HNE.out _).mono ?_); rintro e' w' ⟨rfl, rfl⟩) | (go_at_call 7; (with_reducible refine (HNU.out _).mono ?_); rintro e' w' ⟨rfl, rfl⟩) | (go_at_call 7; (with_reducible refine (HNV.out _).mono ?_); rintro e' w' ⟨rfl, rfl⟩))
    refine (HFA.out _).mono ?_
    rintro e w3 ⟨v1, rfl, hv1, hb⟩
    have HV1 := Lib.hid hv1
    have HB3 := Lib.hid (HB2.out.trans (hb.mono HB2.out.size))
    clear hb hv1
    go_wp2_with fail
    refine (HFB.out _).mono ?_
    rintro e w4 ⟨v2, rfl, hv2, hb⟩
    have HV2 := Lib.hid hv2
    have HV1 := Lib.hid (own_below HV1.out hb (Nat.le_refl _))
    have HB4 := Lib.hid (HB3.out.trans (hb.mono HB3.out.size))
    clear hb hv2
    go_wp2_with fail
    refine (HFC.out _).mono ?_
    rintro e w5 ⟨v3, rfl, hv3, hb⟩
    have HV3 := Lib.hid hv3
    have HV1 := Lib.hid (own_below HV1.out hb (Nat.le_refl _))
    have HV2 := Lib.hid (own_below HV2.out hb (Nat.le_refl _))
    have HB5 := Lib.hid (HB4.out.trans (hb.mono HB4.out.size))
    clear hb hv3
    go_wp2_with fail
    refine (HOP1.out _ HB5.out).mono ?_
    rintro e w6 ⟨rfl, hb⟩
    have HV1 := Lib.hid (own_below HV1.out hb (Nat.le_refl _))
    have HV2 := Lib.hid (own_below HV2.out hb (Nat.le_refl _))
    have HV3 := Lib.hid (own_below HV3.out hb (Nat.le_refl _))
    have HB6 := Lib.hid (HB5.out.trans (hb.mono HB5.out.size))
    clear hb
    go_wp2_with fail
    refine (HFD.out _).mono ?_
    rintro e w7 ⟨v4, rfl, hv4, hb⟩
    have HV4 := Lib.hid hv4
    have HV1 := Lib.hid (own_below HV1.out hb (Nat.le_refl _))
    have HV2 := Lib.hid (own_below HV2.out hb (Nat.le_refl _))
    have HV3 := Lib.hid (own_below HV3.out hb (Nat.le_refl _))
    have HB7 := Lib.hid (HB6.out.trans (hb.mono HB6.out.size))
    clear hb hv4
    go_wp2_with fail
    refine (sameObjects_c O1 v1 v2 _ _ _ HV1.out HV2.out (by omega)).mono ?_
    rintro e w8 ⟨rfl, hb⟩
    have HV3 := Lib.hid (own_below HV3.out hb (Nat.le_refl _))
    have HV4 := Lib.hid (own_below HV4.out hb (Nat.le_refl _))
    have HB8 := Lib.hid (HB7.out.trans (hb.mono HB7.out.size))
    clear hb
    go_wp2_with fail
    refine (sameObjects_c O2 v3 v4 _ _ _ HV3.out HV4.out (by omega)).mono ?_
    rintro e w9 ⟨rfl, hb⟩
    have HB9 := Lib.hid (HB8.out.trans (hb.mono HB8.out.size))
    clear hb
    go_wp2_with fail
    refine (HAW.out _).mono ?_
    rintro e w10 ⟨rfl, hb⟩
    have HB10 := Lib.hid (HB9.out.trans (hb.mono HB9.out.size))
    clear hb
    go_wp2_with fail
    go_ret
    exact ⟨rfl, HBU.out.trans (HB10.out.mono HBU.out.size)⟩
end Go.Proofs.YtfajckkbinbpiaaGreatDoor
