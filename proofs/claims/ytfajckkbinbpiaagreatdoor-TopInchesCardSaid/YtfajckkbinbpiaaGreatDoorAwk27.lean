/- Walk: the disc that is drawn in the end. -/
import Derived.Test.YtfajckkbinbpiaaGreatDoorJ27
import Derived.Test.YtfajckkbinbpiaaGreatDoorJ40
namespace Go.Proofs.YtfajckkbinbpiaaGreatDoor
set_option maxRecDepth 100000
set_option maxHeartbeats 32000000
set_option linter.unusedVariables false
set_option linter.unusedSimpArgs false
open Go.RowKit
theorem sq_bytes : pixB (ovT 0 0 0 9 0 0 255 ((4 ^ 0 : Nat) : Int) [(1, 1), (1, 1), (1, 1), (1, 1)]) 12 = [.int .u8 9, .int .u8 0, .int .u8 0, .int .u8 9, .int .u8 0, .int .u8 0, .int .u8 9, .int .u8 0, .int .u8 0, .int .u8 9, .int .u8 0, .int .u8 0] := by rfl
theorem render_c (g : Nat) (w : World) (hG : Blk w g 34 #[.string { data := #[37, 70, 83, 76, 65, 88, 50, 52, 89, 50, 52, 42, 37, 37, 77, 79, 77, 77, 42, 37, 37, 65, 68, 68, 49, 48, 82, 44, 52, 88, 52, 42, 37, 68, 49, 48, 42, 88, 48, 89, 48, 68, 48, 51, 42, 77, 48, 50, 42] }, .int .i64 9, .int .i64 0, .int .i64 0, .int .i64 255, .bool false]) :
    Calls Tryz.prog 9 #[.agg #[.int .i64 (-10000000), .int .i64 (-10000000), .int .i64 10000000, .int .i64 2, .int .i64 2, .int .i64 0, .slice (some ⟨g, 0, none⟩) 1 1, .slice none 0 0, .int .i64 0, .int .i64 0, .int .i64 0, .int .i64 10, .int .i64 100]] w fun e w' => ∃ vp, e = .returned (.tuple #[.agg #[.int .i64 2, .int .i64 2, .bool true, vp], .agg #[.int .i64 0, .int .i64 0, .int .i64 0, .int .i64 0]]) ∧ w'.ownsRow w.heap.size 5 1 vp 12 [.int .u8 9, .int .u8 0, .int .u8 0, .int .u8 9, .int .u8 0, .int .u8 0, .int .u8 9, .int .u8 0, .int .u8 0, .int .u8 9, .int .u8 0, .int .u8 0] ∧ Below w.heap.size w w' := by
  have h := brender_ok (-10000000) (-10000000) 10000000 1 2 2 0 g 0 0 0 10 100 9 0 0 255 { data := #[37, 70, 83, 76, 65, 88, 50, 52, 89, 50, 52, 42, 37, 37, 77, 79, 77, 77, 42, 37, 37, 65, 68, 68, 49, 48, 82, 44, 52, 88, 52, 42, 37, 68, 49, 48, 42, 88, 48, 89, 48, 68, 48, 51, 42, 77, 48, 50, 42] } [(1, 1), (1, 1), (1, 1), (1, 1)] w sq_vok (by constructor <;> omega) (by constructor <;> omega) (by constructor <;> omega) (by constructor <;> omega) (by constructor <;> omega) (by constructor <;> omega) (by constructor <;> omega) hG
    (fun w M hL hM => (cover_c g M w hL hM).mono (by
      rintro e w' ⟨vr, h1, h2, h3⟩
      exact ⟨vr, h1, by rw [sq_ones] at h2; exact h2, h3⟩)) rfl (by
      intro c hc
      simp only [List.mem_cons, List.not_mem_nil, or_false, or_self] at hc
      subst hc
      decide)
  exact h.mono (by
    rintro e w' ⟨gp, cp, h1, h2, h3⟩
    exact ⟨_, h1, by rw [← sq_bytes]; exact h2, h3⟩)
theorem awake_c (w : World) : Calls Tryz.prog 11 #[] w fun e w' => e = .returned (.bool true) ∧ Below w.heap.size w w' := by
  obtain ⟨u, eu⟩ : ∃ u, (w.alloc (.cells #[.string { data := #[37, 70, 83, 76, 65, 88, 50, 52, 89, 50, 52, 42, 37, 37, 77, 79, 77, 77, 42, 37, 37, 65, 68, 68, 49, 48, 82, 44, 52, 88, 52, 42, 37, 68, 49, 48, 42, 88, 48, 89, 48, 68, 48, 51, 42, 77, 48, 50, 42] }, .int .i64 9, .int .i64 0, .int .i64 0, .int .i64 255, .bool false] 34)).alloc (.cells #[.int .i64 (-10000000), .int .i64 (-10000000), .int .i64 10000000, .int .i64 2, .int .i64 2, .int .i64 0, .slice (some ⟨w.heap.size, 0, none⟩) 1 1, .slice none 0 0, .int .i64 0, .int .i64 0, .int .i64 0, .int .i64 10, .int .i64 100] 31) = u := ⟨_, rfl⟩
  have om : Below w.heap.size w u := by rw [← eu]; exact blw
  have kG : Blk u w.heap.size 34 #[.string { data := #[37, 70, 83, 76, 65, 88, 50, 52, 89, 50, 52, 42, 37, 37, 77, 79, 77, 77, 42, 37, 37, 65, 68, 68, 49, 48, 82, 44, 52, 88, 52, 42, 37, 68, 49, 48, 42, 88, 48, 89, 48, 68, 48, 51, 42, 77, 48, 50, 42] }, .int .i64 9, .int .i64 0, .int .i64 0, .int .i64 255, .bool false] := by rw [← eu]; exact bkw
  have EU := Lib.hid eu
  have HR := Lib.hid (render_c w.heap.size u kG)
  clear eu kG
  go_enter Tryz.func11, Tryz.ntmps11
  go_wp2_with fail
  rw [EU.out]
  refine (HR.out).mono ?_
  rintro e z ⟨vp, rfl, hv, hb⟩
  obtain ⟨gp, cp, rfl, _, lgp⟩ := hv.form (by omega)
  have p0 : z.cell? ⟨gp, 0, none⟩ = some (.int .u8 9) := by rw [hv.cellAt 0 (by omega)]; rfl
  have p1 : z.cell? ⟨gp, 1, none⟩ = some (.int .u8 0) := by rw [hv.cellAt 1 (by omega)]; rfl
  have p9 : z.cell? ⟨gp, 9, none⟩ = some (.int .u8 9) := by rw [hv.cellAt 9 (by omega)]; rfl
  have lgp2 : gp < z.heap.size + 1 := by omega
  have hB : Below w.heap.size w z := om.trans (hb.mono om.size)
  have hs := hB.size
  clear hv hb om
  go_wp2_with fail
  go_ret
  exact ⟨rfl, by exact blw⟩
end Go.Proofs.YtfajckkbinbpiaaGreatDoor
