/- The image of a board of one layer of discs and strokes. -/
import Derived.Test.YtfajckkbinbpiaaGreatDoorILg
import Derived.Test.YtfajckkbinbpiaaGreatDoorILe
import Derived.Test.YtfajckkbinbpiaaGreatDoorIMade
namespace Go.Proofs.YtfajckkbinbpiaaGreatDoor
open Go.RowKit
set_option linter.unusedVariables false
set_option linter.unusedSimpArgs false

theorem walkPx_some (most : Int) (n : Nat) (l : List Geo.Ent) : ∀ (ps : List (Geo.Bx × Geo.Bx)) (acc : List (Int × Int)) (a : Int) (r : List (Int × Int)) (a' : Int), walkPx most n l ps acc a = (some r, a') → (∀ c ∈ acc, 0 ≤ c.1 ∧ c.1 ≤ c.2 ∧ c.2 ≤ 4 ^ n) → r.length = acc.length + ps.length ∧ ∀ c ∈ r, 0 ≤ c.1 ∧ c.1 ≤ c.2 ∧ c.2 ≤ 4 ^ n
  | [], acc, a, r, a', h, hr => by
    simp only [walkPx, Prod.mk.injEq, Option.some.injEq] at h
    obtain ⟨rfl, _⟩ := h
    exact ⟨by simp, hr⟩
  | p :: ps, acc, a, r, a', h, hr => by
    unfold walkPx at h
    split at h
    · simp at h
    · rename_i c a1 he
      have hx := (exam_range most n _ _ _ _ _ he).2.2 c rfl
      obtain ⟨h1, h2⟩ := walkPx_some most n l ps (acc ++ [c]) a1 r a' h (by
        intro d hd
        rcases List.mem_append.1 hd with hd | hd
        · exact hr d hd
        · simp only [List.mem_cons, List.not_mem_nil, or_false] at hd
          subst hd; exact hx)
      exact ⟨by rw [h1]; simp; omega, h2⟩
theorem render_i (X Y P k : Int) (W H n : Nat) (g : Nat) (k0 k1 k2 : Int) (T : ByteArray) (L : List IOb) (w : World) (hm : MadeOk X Y P k W H n k0 k1 k2) (hF : ∀ w, Calls Tryz.prog 13 #[.string T, .int .i64 300] w fun e w' => ∃ v0, e = .returned (.tuple #[v0, .int .i64 0, .int .i64 0]) ∧ w'.ownsRow w.heap.size 65 11 v0 L.length (iocells L) ∧ Below w.heap.size w w') (hl : L.length ≤ 1000) (hs : ∀ o ∈ L, o.Ok) (hG : Blk w g 34 #[.string T, .int .i64 200, .int .i64 0, .int .i64 0, .int .i64 255, .bool false]) :
    Calls Tryz.prog 9 #[.agg #[.int .i64 X, .int .i64 Y, .int .i64 P, .int .i64 (W : Int), .int .i64 (H : Int), .int .i64 (n : Int), .slice (some ⟨g, 0, none⟩) 1 1, .slice none 0 0, .int .i64 k0, .int .i64 k1, .int .i64 k2, .int .i64 300, .int .i64 4000]] w fun e w' => Below w.heap.size w w' ∧ (match (walkPx 4000 n ((reachL (L.map IOb.obj)).map (·.1)) (pxsOf X Y P W H) [] 0).1 with
      | none => e = .returned (.tuple #[.agg #[.int .i64 0, .int .i64 0, .bool false, .slice none 0 0], .agg #[.int .i64 1, .int .i64 0, .int .i64 0, .int .i64 6]])
      | some acc => ∃ gp cp, e = .returned (.tuple #[.agg #[.int .i64 (W : Int), .int .i64 (H : Int), .bool true, .slice (some ⟨gp, 0, none⟩) (W * H * 3) cp], .agg #[.int .i64 0, .int .i64 0, .int .i64 0, .int .i64 0]]) ∧ w'.ownsRow w.heap.size 5 1 (.slice (some ⟨gp, 0, none⟩) (W * H * 3) cp) (W * H * 3) (pixB (ovT k0 k1 k2 200 0 0 255 ((4 ^ n : Nat) : Int) acc) (W * H * 3))) := by
  have hC := fun (w : World) M h1 h2 => cover_i X Y P k W H n g k0 k1 k2 300 4000 200 0 0 255 T L M 4000 w hm.v hF hl hs h1 h2
  have q3 : IsB 200 := by unfold IsB; omega
  have q4 : IsB 0 := by unfold IsB; omega
  have q6 : IsB 255 := by unfold IsB; omega
  have em : (max 0 (min (4000 : Int) 100000000)) = 4000 := by decide
  rcases hw : walkPx 4000 n ((reachL (L.map IOb.obj)).map (·.1)) (pxsOf X Y P W H) [] 0 with ⟨r, a1⟩
  cases r with
  | none =>
    refine (brender_err X Y P k W H n g k0 k1 k2 300 4000 200 0 0 255 T 1 0 0 6 (by decide) w hm.v hm.b0 hm.b1 hm.b2 q3 q4 q4 q6 hG (fun w M h1 h2 => (hC w M h1 (by rw [em] at h2; exact h2)).mono ?_)).mono ?_
    · rintro e w' ⟨r', a', h3, h4, h5⟩
      rw [hw] at h3
      simp only [Prod.mk.injEq] at h3
      obtain ⟨rfl, rfl⟩ := h3
      exact ⟨h5, h4⟩
    · rintro e w' ⟨h1, h2⟩
      refine ⟨h2, ?_⟩
      rw [hw]
      exact h1
  | some acc =>
    obtain ⟨hlen, hrng⟩ := walkPx_some 4000 n _ _ _ _ _ _ hw (by intro c hc; simp at hc)
    rw [pxs_len, List.length_nil, Nat.zero_add] at hlen
    refine (brender_ok X Y P k W H n g k0 k1 k2 300 4000 200 0 0 255 T acc w hm.v hm.b0 hm.b1 hm.b2 q3 q4 q4 q6 hG (fun w M h1 h2 => (hC w M h1 (by rw [em] at h2; exact h2)).mono ?_) hlen (fun c hc => by
      obtain ⟨h1, h2, h3⟩ := hrng c hc
      refine ⟨h1, h2, ?_⟩
      rw [Int.natCast_pow]
      exact h3)).mono ?_
    · rintro e w' ⟨r', a', h3, h4, h5⟩
      rw [hw] at h3
      simp only [Prod.mk.injEq] at h3
      obtain ⟨rfl, rfl⟩ := h3
      obtain ⟨vr, e1, _, e3⟩ := h5
      exact ⟨vr, e1, e3, h4⟩
    · rintro e w' ⟨gp, cp, h1, h2, h3⟩
      refine ⟨h3, ?_⟩
      rw [hw]
      exact ⟨gp, cp, h1, h2⟩
end Go.Proofs.YtfajckkbinbpiaaGreatDoor
