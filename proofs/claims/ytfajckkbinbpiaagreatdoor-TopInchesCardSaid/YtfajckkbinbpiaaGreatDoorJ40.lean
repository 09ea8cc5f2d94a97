/- Walks: a layer is read once. Walks: the one pile is copied. Walks: what a layer holds. Walks: a layer of the board, the one of the disc that is drawn in the end. -/
import Derived.Defers
import Derived.Laws.LoneSync
import Derived.Test.YtfajckkbinbpiaaGreatDoorJ25
import Derived.Test.YtfajckkbinbpiaaGreatDoorJ34
import Derived.Test.YtfajckkbinbpiaaGreatDoorJ35
import Derived.Test.YtfajckkbinbpiaaGreatDoorJ37
import Derived.Test.YtfajckkbinbpiaaGreatDoorJ39
namespace Go.Proofs.YtfajckkbinbpiaaGreatDoor
set_option maxRecDepth 100000
set_option maxHeartbeats 32000000
set_option linter.unusedVariables false
set_option linter.unusedSimpArgs false
open Go.RowKit
theorem ObR.far {w : World} {v : Value} {gl cl gp cp b i : Nat} (h : ObR w v gl cl gp cp) (h1 : gl ≠ b) (h2 : gp ≠ b) (h3 : v.ownBlock ≠ some b) (u : Value) : ObR (w.setCell ⟨b, i, none⟩ u) v gl cl gp cp := ⟨own_far h.1 (by simpa using h3) _, h.2.far (by simpa using h1) (by simpa using h2) _⟩
theorem closure_c (L q : Nat) (w : World) (hL : Blk w L 199 #[.string { data := #[37, 70, 83, 76, 65, 88, 50, 52, 89, 50, 52, 42, 37, 37, 77, 79, 77, 77, 42, 37, 37, 65, 68, 68, 49, 48, 82, 44, 52, 88, 52, 42, 37, 68, 49, 48, 42, 88, 48, 89, 48, 68, 48, 51, 42, 77, 48, 50, 42] }, .int .i64 10, .int .u32 0, .int .i32 1, .int .u32 0, .int .i32 0, .slice none 0 0, .int .i64 0, .int .i64 0]) (hq : w.cell? ⟨q, 0, none⟩ = some (.pointer (some ⟨L, 0, none⟩))) (hne : q ≠ L) :
    Calls Tryz.prog 90 #[.pointer (some ⟨q, 0, none⟩)] w fun e w' => e = .returned (.tuple #[]) ∧ ∃ g cap gl gp cp, Blk w' L 199 #[.string { data := #[37, 70, 83, 76, 65, 88, 50, 52, 89, 50, 52, 42, 37, 37, 77, 79, 77, 77, 42, 37, 37, 65, 68, 68, 49, 48, 82, 44, 52, 88, 52, 42, 37, 68, 49, 48, 42, 88, 48, 89, 48, 68, 48, 51, 42, 77, 48, 50, 42] }, .int .i64 10, .int .u32 0, .int .i32 1, .int .u32 0, .int .i32 1, .slice (some ⟨g, 0, none⟩) 1 cap, .int .i64 0, .int .i64 0] ∧ ObR w' (.slice (some ⟨g, 0, none⟩) 1 cap) gl 1 gp cp ∧ Only [L] w w' := by
  have lL := hL.lt
  have lq := blk_of_cell hq
  have c0 : w.cell? ⟨L, 0, none⟩ = some (.string { data := #[37, 70, 83, 76, 65, 88, 50, 52, 89, 50, 52, 42, 37, 37, 77, 79, 77, 77, 42, 37, 37, 65, 68, 68, 49, 48, 82, 44, 52, 88, 52, 42, 37, 68, 49, 48, 42, 88, 48, 89, 48, 68, 48, 51, 42, 77, 48, 50, 42] }) := hL.cell 0
  have c1 : w.cell? ⟨L, 1, none⟩ = some (.int .i64 10) := hL.cell 1
  have HL := Lib.hid hL
  have HF := Lib.hid file_r
  clear hL
  go_enter Tryz.func90, Tryz.ntmps90
  go_wp2_with fail
  go_region_held3 (fun w' => w'.cell? ⟨q, 0, none⟩ = some (.pointer (some ⟨L, 0, none⟩)) ∧ w'.cell? ⟨L, 0, none⟩ = some (.string { data := #[37, 70, 83, 76, 65, 88, 50, 52, 89, 50, 52, 42, 37, 37, 77, 79, 77, 77, 42, 37, 37, 65, 68, 68, 49, 48, 82, 44, 52, 88, 52, 42, 37, 68, 49, 48, 42, 88, 48, 89, 48, 68, 48, 51, 42, 77, 48, 50, 42] }) ∧ w'.cell? ⟨L, 1, none⟩ = some (.int .i64 10))
    (first | exact ⟨hq, c0, c1⟩ | exact ⟨zq, z0, z1⟩ | (refine ⟨?_, ?_, ?_⟩ <;> (simp [World.cell?_setCell_other, zq, z0, z1, hne]; done)))
    (first | (go_at_call 13; (with_reducible refine (HF.out _).mono ?_); rintro e z ⟨v0, gl, gp, cp, rfl, ho, hb⟩; obtain ⟨g, cap, rfl, _, _⟩ := ho.form; have kz := HL.out.drew.below hb lL; have zq := (hb.cell (p := ⟨q, 0, none⟩) lq).trans hq; have z0 := (hb.cell (p := ⟨L, 0, none⟩) lL).trans c0; have z1 := (hb.cell (p := ⟨L, 1, none⟩) lL).trans c1; have zc := kz.cell; have zf := kz.frozen; have zl := kz.lt; have KZ := Lib.hid kz; have OZ := Lib.hid ho; have hNZ := ho.2.ne_blk (kz.cell 0) (by intro p n c h; cases h) (by intro h; cases h); have NZ := Lib.hid hNZ; have OO := Lib.hid ((Only.refl [L] w).drew.below hb (Nat.le_refl _)); clear hb ho kz hNZ))
  all_goals
    have own9 := own_blk_ne OZ.out.1 KZ.out (by decide)
    have OWN9 := Lib.hid own9
    clear own9
    go_wp2_with fail
    have K9 := ((KZ.out.set_ 6 (.slice (some ⟨g, 0, none⟩) 1 cap) rfl).set_ 7 (.int .i64 0) rfl).set_ 8 (.int .i64 0) rfl
    refine (add32 ⟨L, 5, none⟩ _ (K9.cell 5) (K9.frozen 5)).mono ?_
    rintro e w' ⟨rfl, rfl⟩
    go_wp2_with fail
    go_end0
    exact ⟨rfl, g, cap, gl, gp, cp, K9.set_ 5 (.int .i32 1) rfl, ((((OZ.out).far NZ.out.1 NZ.out.2 OWN9.out _).far NZ.out.1 NZ.out.2 OWN9.out _).far NZ.out.1 NZ.out.2 OWN9.out _).far NZ.out.1 NZ.out.2 OWN9.out _, by have := OO.out; exact onw⟩
theorem slow_c (L q : Nat) (w : World) (hL : Blk w L 199 #[.string { data := #[37, 70, 83, 76, 65, 88, 50, 52, 89, 50, 52, 42, 37, 37, 77, 79, 77, 77, 42, 37, 37, 65, 68, 68, 49, 48, 82, 44, 52, 88, 52, 42, 37, 68, 49, 48, 42, 88, 48, 89, 48, 68, 48, 51, 42, 77, 48, 50, 42] }, .int .i64 10, .int .u32 0, .int .i32 0, .int .u32 0, .int .i32 0, .slice none 0 0, .int .i64 0, .int .i64 0]) (hq : w.cell? ⟨q, 0, none⟩ = some (.pointer (some ⟨L, 0, none⟩))) (hne : q ≠ L) :
    Calls Tryz.prog 138 #[.pointer (some ⟨L, 2, none⟩), .func (.func 90) #[] #[.pointer (some ⟨q, 0, none⟩)]] w fun e w' => e = .returned (.tuple #[]) ∧ ∃ g cap gl gp cp, Blk w' L 199 #[.string { data := #[37, 70, 83, 76, 65, 88, 50, 52, 89, 50, 52, 42, 37, 37, 77, 79, 77, 77, 42, 37, 37, 65, 68, 68, 49, 48, 82, 44, 52, 88, 52, 42, 37, 68, 49, 48, 42, 88, 48, 89, 48, 68, 48, 51, 42, 77, 48, 50, 42] }, .int .i64 10, .int .u32 1, .int .i32 0, .int .u32 0, .int .i32 1, .slice (some ⟨g, 0, none⟩) 1 cap, .int .i64 0, .int .i64 0] ∧ ObR w' (.slice (some ⟨g, 0, none⟩) 1 cap) gl 1 gp cp ∧ Only [L] w w' := by
  have K1 : Blk (w.setCell ⟨L, 3, none⟩ (.int .i32 1)) L 199 #[.string { data := #[37, 70, 83, 76, 65, 88, 50, 52, 89, 50, 52, 42, 37, 37, 77, 79, 77, 77, 42, 37, 37, 65, 68, 68, 49, 48, 82, 44, 52, 88, 52, 42, 37, 68, 49, 48, 42, 88, 48, 89, 48, 68, 48, 51, 42, 77, 48, 50, 42] }, .int .i64 10, .int .u32 0, .int .i32 1, .int .u32 0, .int .i32 0, .slice none 0 0, .int .i64 0, .int .i64 0] := hL.set_ 3 _ rfl
  have hnot : ∀ (x : Bool) (w : World), (Op.unary .not (.bool x)).run Tryz.prog w = .ok (.bool (!x)) w := fun _ _ => rfl
  have c3 := hL.cell 3
  have f3 := hL.frozen 3
  have hq1 : (w.setCell ⟨L, 3, none⟩ (.int .i32 1)).cell? ⟨q, 0, none⟩ = some (.pointer (some ⟨L, 0, none⟩)) := (World.cell?_setCell_other _ _ _ _ (by intro h; injection h with h1 h2; first | exact hne h1 | exact hne h1.symm)).trans hq
  have HK1 := Lib.hid K1
  have HC := Lib.hid (closure_c L q _ K1 hq1 hne)
  clear hL K1 hq hq1
  go_enter_defers Tryz.func138, Tryz.ntmps138
  go_wp2_with (first | (go_at_call 183; refine (lock_free ⟨L, 3, none⟩ _ c3 f3).mono ?_; rintro e w' ⟨rfl, rfl⟩) | (go_at_call 137; refine (bload ⟨L, 2, none⟩ _ (HK1.out.cell 2)).mono ?_; rintro e w' ⟨rfl, rfl⟩))
  refine (HC.out).mono ?_
  rintro e z ⟨rfl, g, cap, gl, gp, cp, hk, ho, hon⟩
  have hn := ho.2.ne_blk (hk.cell 0) (by intro p n c h; cases h) (by intro h; cases h)
  have ho9 := own_blk_ne ho.1 hk (by decide)
  have kf := (hk.drew.set_ 2 (.int .u32 1) rfl).set_ 3 (.int .i32 0) rfl
  have of := ((ho.drew).far (i := 2) hn.1 hn.2 ho9 (.int .u32 1)).far (i := 3) hn.1 hn.2 ho9 (.int .i32 0)
  have onf : Only [L] w _ := ((((Only.refl [L] w).setCell (p := ⟨L, 3, none⟩) (by simp) (.int .i32 1)).trans hon).drew.setCell (p := ⟨L, 2, none⟩) (by simp) (.int .u32 1)).setCell (p := ⟨L, 3, none⟩) (by simp) (.int .i32 0)
  have k2 := hk.drew.set_ 2 (.int .u32 1) rfl
  have HF := Lib.hid (And.intro kf (And.intro of onf))
  have HK := Lib.hid hk
  have HK2 := Lib.hid k2
  clear hn ho9 kf of onf k2 hk ho hon
  go_wp2_with fail
  refine leaves_cons (f := 185) (args := #[.pointer (some ⟨L, 2, none⟩), .bool true]) (by simp) (by simp [go_sem]) ?_
  refine (store_deferred ⟨L, 2, none⟩ (.int .u32 0) .returning _ (HK.out.cell 2) (HK.out.frozen 2)).mono ?_
  rintro e u' w'' ⟨rfl, rfl, rfl⟩
  refine leaves_cons (f := 184) (args := #[.pointer (some ⟨L, 3, none⟩)]) (by simp [settle]) (by simp [go_sem]) ?_
  refine (unlock_deferred ⟨L, 3, none⟩ _ _ (HK2.out.cell 3) (HK2.out.frozen 3)).mono ?_
  rintro e u' w'' ⟨rfl, rfl, rfl⟩
  simp only [Leaves, settle]
  exact ⟨.tuple #[], results_none rfl _ _ _, rfl, g, cap, gl, gp, cp, HF.out.1, HF.out.2.1, HF.out.2.2⟩
theorem once_c (L q : Nat) (w : World) (hL : Blk w L 199 #[.string { data := #[37, 70, 83, 76, 65, 88, 50, 52, 89, 50, 52, 42, 37, 37, 77, 79, 77, 77, 42, 37, 37, 65, 68, 68, 49, 48, 82, 44, 52, 88, 52, 42, 37, 68, 49, 48, 42, 88, 48, 89, 48, 68, 48, 51, 42, 77, 48, 50, 42] }, .int .i64 10, .int .u32 0, .int .i32 0, .int .u32 0, .int .i32 0, .slice none 0 0, .int .i64 0, .int .i64 0]) (hq : w.cell? ⟨q, 0, none⟩ = some (.pointer (some ⟨L, 0, none⟩))) (hne : q ≠ L) :
    Calls Tryz.prog 86 #[.pointer (some ⟨L, 2, none⟩), .func (.func 90) #[] #[.pointer (some ⟨q, 0, none⟩)]] w fun e w' => e = .returned (.tuple #[]) ∧ ∃ g cap gl gp cp, Blk w' L 199 #[.string { data := #[37, 70, 83, 76, 65, 88, 50, 52, 89, 50, 52, 42, 37, 37, 77, 79, 77, 77, 42, 37, 37, 65, 68, 68, 49, 48, 82, 44, 52, 88, 52, 42, 37, 68, 49, 48, 42, 88, 48, 89, 48, 68, 48, 51, 42, 77, 48, 50, 42] }, .int .i64 10, .int .u32 1, .int .i32 0, .int .u32 0, .int .i32 1, .slice (some ⟨g, 0, none⟩) 1 cap, .int .i64 0, .int .i64 0] ∧ ObR w' (.slice (some ⟨g, 0, none⟩) 1 cap) gl 1 gp cp ∧ Only [L] w w' := by
  have HS := Lib.hid (slow_c L q w hL hq hne)
  have h2 := hL.cell 2
  have hnot : ∀ (x : Bool) (w : World), (Op.unary .not (.bool x)).run Tryz.prog w = .ok (.bool (!x)) w := fun _ _ => rfl
  clear hL hq hne
  go_enter Tryz.func86, Tryz.ntmps86
  go_wp2_with (first | (go_at_call 138; refine (HS.out).mono ?_; rintro e w' ⟨rfl, hR⟩) | (go_at_call 137; refine (bload ⟨L, 2, none⟩ _ h2).mono ?_; rintro e w' ⟨rfl, rfl⟩))
  go_end0
  exact ⟨rfl, hR⟩
theorem newLayer_c (w : World) : Calls Tryz.prog 55 #[.string { data := #[37, 70, 83, 76, 65, 88, 50, 52, 89, 50, 52, 42, 37, 37, 77, 79, 77, 77, 42, 37, 37, 65, 68, 68, 49, 48, 82, 44, 52, 88, 52, 42, 37, 68, 49, 48, 42, 88, 48, 89, 48, 68, 48, 51, 42, 77, 48, 50, 42] }, .int .i64 10] w fun e w' => e = .returned (.pointer (some ⟨w.heap.size, 0, none⟩)) ∧ w' = w.alloc (.cells #[.string { data := #[37, 70, 83, 76, 65, 88, 50, 52, 89, 50, 52, 42, 37, 37, 77, 79, 77, 77, 42, 37, 37, 65, 68, 68, 49, 48, 82, 44, 52, 88, 52, 42, 37, 68, 49, 48, 42, 88, 48, 89, 48, 68, 48, 51, 42, 77, 48, 50, 42] }, .int .i64 10, .int .u32 0, .int .i32 0, .int .u32 0, .int .i32 0, .slice none 0 0, .int .i64 0, .int .i64 0] 199) := by
  go_enter Tryz.func55, Tryz.ntmps55
  go_wp2
  go_ret
  exact ⟨rfl, rfl⟩
theorem less_sq (v1 : Value) (gl cl gp cp : Nat) (w : World) (hO : ObR w v1 gl cl gp cp) :
    Calls Tryz.prog 57 #[v1, .slice none 0 0] w fun e w' => ∃ u1 gl2 gp2 cp2, e = .returned u1 ∧ ObR w' u1 gl2 1 gp2 cp2 ∧ Below w.heap.size w w' := by
  obtain ⟨g1, cap1, rfl, lg1, a0_, a1_, a2_, a3_, a4_, a5_, a6_, a7_, a8_, a9_, a10_⟩ := hO.form
  have HO := Lib.hid hO
  clear hO
  obtain ⟨i48, hi48, hz0, hz1, hz2⟩ := info_parts info48
  have HI := Lib.hid (And.intro hi48 (And.intro hz0 (And.intro hz1 hz2)))
  have hZ : Hid ((Value.agg #[.bool false, .int .i64 0, .int .i64 0, .int .i64 0, .int .i64 0, .int .i64 0, .int .i64 0, .int .i64 0, .int .i64 0, .slice none 0 0, .slice none 0 0]).cells.size = 11) := Lib.hid (by kernel_rfl)
  clear hi48 hz0 hz1 hz2 a0_ a1_ a2_ a3_ a4_ a5_ a6_ a7_ a8_ a9_ a10_
  have hmk : ∀ w, (Instr.makeSlice 47 (.int .i64 0) (.int .i64 1)).run Tryz.prog w = .ok (.slice (some ⟨w.heap.size, 0, none⟩) 0 1) (w.alloc (.cells #[.bool false, .int .i64 0, .int .i64 0, .int .i64 0, .int .i64 0, .int .i64 0, .int .i64 0, .int .i64 0, .int .i64 0, .slice none 0 0, .slice none 0 0] 65)) := fun _ => by kernel_rfl
  go_enter Tryz.func57, Tryz.ntmps57
  go_wp2_with fail
  obtain ⟨u, eu⟩ : ∃ u, w.alloc (.cells #[.bool false, .int .i64 0, .int .i64 0, .int .i64 0, .int .i64 0, .int .i64 0, .int .i64 0, .int .i64 0, .int .i64 0, .slice none 0 0, .slice none 0 0] 65) = u := ⟨_, rfl⟩
  have B0 : Below w.heap.size w u := by rw [← eu]; exact blw
  have k0 : Blk u w.heap.size 65 #[.bool false, .int .i64 0, .int .i64 0, .int .i64 0, .int .i64 0, .int .i64 0, .int .i64 0, .int .i64 0, .int .i64 0, .slice none 0 0, .slice none 0 0] := by rw [← eu]; exact bkw
  have s0 := HO.out.below B0 (Nat.le_refl _)
  have o0 : u.ownsRow 0 65 11 (.slice (some ⟨w.heap.size, 0, none⟩) 0 1) 0 [] := ⟨rfl, .inr ⟨w.heap.size, 1, #[.bool false, .int .i64 0, .int .i64 0, .int .i64 0, .int .i64 0, .int .i64 0, .int .i64 0, .int .i64 0, .int .i64 0, .slice none 0 0, .slice none 0 0], rfl, Nat.zero_le _, k0, by omega, by decide, rfl, rfl⟩⟩
  obtain ⟨_, _, hq1, lg1', e0_, e1_, e2_, e3_, e4_, e5_, e6_, e7_, e8_, e9_, e10_⟩ := s0.form
  injection hq1 with hq1 hq2 hq3
  injection hq1 with hq1
  injection hq1 with hq1
  subst hq1 hq3
  rw [eu]
  refine wp_loop_rounds 2 ?_
  rw [rounds_succ]
  go_wp2_with fail
  obtain ⟨v, ev⟩ : ∃ v, u.alloc (.cells #[.bool true, .int .i64 2, .int .i64 0, .int .i64 0, .int .i64 0, .int .i64 0, .int .i64 0, .int .i64 0, .int .i64 0, .slice (some ⟨gl, 0, none⟩) 1 cl, .slice none 0 0] 65) = v := ⟨_, rfl⟩
  have Bv : Below w.heap.size w v := by rw [← ev]; exact B0.alloc B0.size _
  have kv0 : Blk v w.heap.size 65 #[.bool false, .int .i64 0, .int .i64 0, .int .i64 0, .int .i64 0, .int .i64 0, .int .i64 0, .int .i64 0, .int .i64 0, .slice none 0 0, .slice none 0 0] := by rw [← ev]; exact k0.alloc _
  have kvo : Blk v u.heap.size 65 #[.bool true, .int .i64 2, .int .i64 0, .int .i64 0, .int .i64 0, .int .i64 0, .int .i64 0, .int .i64 0, .int .i64 0, .slice (some ⟨gl, 0, none⟩) 1 cl, .slice none 0 0] := by rw [← ev]; exact Blk.newAt rfl
  have sv : ObR v (.slice (some ⟨g1, 0, none⟩) 1 cap1) gl cl gp cp := by rw [← ev]; exact s0.alloc _
  have ov : v.ownsRow 0 65 11 (.slice (some ⟨w.heap.size, 0, none⟩) 0 1) 0 [] := by rw [← ev]; exact o0.alloc _
  have cv := kvo.cell
  have lv := kvo.lt
  have lv0 := kv0.lt
  have KV0 := Lib.hid kv0
  have KVO := Lib.hid kvo
  have SV := Lib.hid sv
  have OV := Lib.hid ov
  have BV := Lib.hid Bv
  have bvs := Bv.size
  rw [ev]
  clear ev
  clear eu k0 s0 o0 B0 kv0 kvo sv ov Bv hmk
  go_region_law (first | (refine step_append_lies _ rfl (.tmp 22) (.tmp 29) 47 rfl 0 65 i48 _ 11 120 Tryz.underlying47 HI.out.1 HI.out.2.1 HI.out.2.2.1 HI.out.2.2.2 hZ.out (by decide) (.slice (some ⟨w.heap.size, 0, none⟩) 0 1) 0 [] (by simp [Act.eval, Act.put]) OZ.out ⟨z.heap.size, 0, none⟩ 1 1 [.bool true, .int .i64 2, .int .i64 0, .int .i64 0, .int .i64 0, .int .i64 0, .int .i64 0, .int .i64 0, .int .i64 0, .slice (some ⟨gl2, 0, none⟩) 1 1, .slice none 0 0] (by simp [Act.eval, Act.put]) rfl HNZ.out ob1 (by decide) (by decide) (by decide) (Nat.zero_le _) _ rfl ?_; intro q cq w4 hown hgrow hat hlt) | (go_simp; go_at_call 89; refine (copy_sq gl cl gp cp _ SV.out.2.drew).mono ?_; rintro e z ⟨gl2, gp2, cp2, rfl, hs2, hb⟩; have kz := KVO.out.drew.below hb lv; have cz := kz.cell; have lz := kz.lt; have kz0 := KV0.out.drew.below hb lv0; have OZ := Lib.hid ((own_below OV.out.drew hb (Nat.le_refl _)).alloc (.cells #[.bool true, .int .i64 2, .int .i64 0, .int .i64 0, .int .i64 0, .int .i64 0, .int .i64 0, .int .i64 0, .int .i64 0, .slice (some ⟨gl2, 0, none⟩) 1 1, .slice none 0 0] 65)); have hnz : ∀ j v, ([.bool true, .int .i64 2, .int .i64 0, .int .i64 0, .int .i64 0, .int .i64 0, .int .i64 0, .int .i64 0, .int .i64 0, .slice (some ⟨gl2, 0, none⟩) 1 1, .slice none 0 0] : List Value)[j]? = some v → (z.alloc (.cells #[.bool true, .int .i64 2, .int .i64 0, .int .i64 0, .int .i64 0, .int .i64 0, .int .i64 0, .int .i64 0, .int .i64 0, .slice (some ⟨gl2, 0, none⟩) 1 1, .slice none 0 0] 65)).cell? ((⟨z.heap.size, 0, none⟩ : Addr).add j) = some v := World.news_of_block (cs := #[.bool true, .int .i64 2, .int .i64 0, .int .i64 0, .int .i64 0, .int .i64 0, .int .i64 0, .int .i64 0, .int .i64 0, .slice (some ⟨gl2, 0, none⟩) 1 1, .slice none 0 0]) (Blk.newAt (w := z) rfl); have HNZ := Lib.hid hnz; clear hnz; have SZ := Lib.hid hs2; have NZ := Lib.hid (hs2.ne_blk (b := w.heap.size) (kz0.cell 0) (by intro p n c h; cases h) (by intro h; cases h)); have HBZ := Lib.hid (BV.out.drew.trans (hb.mono BV.out.size)); clear hb hs2 kz kz0))
  all_goals
    have hS4 : SqAt w4 gl2 gp2 cp2 := (SZ.out.alloc (.cells #[.bool true, .int .i64 2, .int .i64 0, .int .i64 0, .int .i64 0, .int .i64 0, .int .i64 0, .int .i64 0, .int .i64 0, .slice (some ⟨gl2, 0, none⟩) 1 1, .slice none 0 0] 65)).grown hgrow (by simpa [Value.ownBlock] using NZ.out.1) (by simpa [Value.ownBlock] using NZ.out.2)
    have hb2x : Below w.heap.size w (z.alloc (.cells #[.bool true, .int .i64 2, .int .i64 0, .int .i64 0, .int .i64 0, .int .i64 0, .int .i64 0, .int .i64 0, .int .i64 0, .slice (some ⟨gl2, 0, none⟩) 1 1, .slice none 0 0] 65)) := HBZ.out.alloc HBZ.out.size _
    have hB4 : Below w.heap.size w w4 := Below.grown hb2x hgrow (by have := HBZ.out.size; simp; omega) (by intro b hb; simp [Value.ownBlock] at hb; omega)
    have HW4 := Lib.hid hown
    have HS4 := Lib.hid hS4
    have HB4 := Lib.hid hB4
    clear hS4 hb2x hB4 hown hgrow hat hlt
    go_wp2_with fail
    rw [rounds_succ]
    go_wp2_with fail
    refine wp_loop_rounds 1 ?_
    rw [rounds_succ]
    go_wp2_with fail
    go_ret
    exact ⟨_, gl2, gp2, cp2, rfl, ⟨HW4.out, HS4.out⟩, HB4.out⟩
theorem objects_c (L : Nat) (w : World) (hL : Blk w L 199 #[.string { data := #[37, 70, 83, 76, 65, 88, 50, 52, 89, 50, 52, 42, 37, 37, 77, 79, 77, 77, 42, 37, 37, 65, 68, 68, 49, 48, 82, 44, 52, 88, 52, 42, 37, 68, 49, 48, 42, 88, 48, 89, 48, 68, 48, 51, 42, 77, 48, 50, 42] }, .int .i64 10, .int .u32 0, .int .i32 0, .int .u32 0, .int .i32 0, .slice none 0 0, .int .i64 0, .int .i64 0]) :
    Calls Tryz.prog 56 #[.pointer (some ⟨L, 0, none⟩)] w fun e w' => ∃ u1 gl gp cp, e = .returned (.tuple #[u1, .int .i64 0, .int .i64 0]) ∧ ObR w' u1 gl 1 gp cp ∧ Only [L] w w' := by
  have lL := hL.lt
  obtain ⟨v, ev⟩ : ∃ v, w.alloc (.cells #[.pointer (some ⟨L, 0, none⟩)] 134) = v := ⟨_, rfl⟩
  have kv : Blk v L 199 #[.string { data := #[37, 70, 83, 76, 65, 88, 50, 52, 89, 50, 52, 42, 37, 37, 77, 79, 77, 77, 42, 37, 37, 65, 68, 68, 49, 48, 82, 44, 52, 88, 52, 42, 37, 68, 49, 48, 42, 88, 48, 89, 48, 68, 48, 51, 42, 77, 48, 50, 42] }, .int .i64 10, .int .u32 0, .int .i32 0, .int .u32 0, .int .i32 0, .slice none 0 0, .int .i64 0, .int .i64 0] := by rw [← ev]; exact hL.alloc _
  have kq : Blk v w.heap.size 134 #[.pointer (some ⟨L, 0, none⟩)] := by rw [← ev]; exact Blk.newAt rfl
  have ov : Only [L] w v := by rw [← ev]; exact (Only.refl _ _).alloc _
  have hne : w.heap.size ≠ L := by omega
  have HO := Lib.hid (once_c L w.heap.size v kv (kq.cell 0) hne)
  have cq := kq.cell
  have lq := kq.lt
  have KQ := Lib.hid kq
  have OV := Lib.hid ov
  have EV := Lib.hid ev
  have HLS := Lib.hid less_sq
  clear hL kv kq ov ev
  go_enter Tryz.func56, Tryz.ntmps56
  go_wp2_with fail
  rw [EV.out]
  go_wp2_with fail
  refine (HO.out).mono ?_
  rintro e z ⟨rfl, g, cap, gl, gp, cp, hk, ho, hon⟩
  have jq := hon.blk KQ.out (by simpa using hne)
  have z0 : z.cell? ⟨w.heap.size, 0, none⟩ = some (.pointer (some ⟨L, 0, none⟩)) := jq.cell 0
  have z6 : z.cell? ⟨L, 6, none⟩ = some (.slice (some ⟨g, 0, none⟩) 1 cap) := hk.cell 6
  have z7 : z.cell? ⟨L, 7, none⟩ = some (.int .i64 0) := hk.cell 7
  have z8 : z.cell? ⟨L, 8, none⟩ = some (.int .i64 0) := hk.cell 8
  have lz := jq.lt
  have lz2 := hk.lt
  have HZ := Lib.hid ho
  have OZ := Lib.hid (OV.out.trans hon)
  clear jq hk ho hon cq lq
  go_wp2_with fail
  go_region_held3 (fun w' => w'.cell? ⟨w.heap.size, 0, none⟩ = some (.pointer (some ⟨L, 0, none⟩)) ∧ w'.cell? ⟨L, 6, none⟩ = some (.slice (some ⟨g, 0, none⟩) 1 cap) ∧ w'.cell? ⟨L, 7, none⟩ = some (.int .i64 0) ∧ w'.cell? ⟨L, 8, none⟩ = some (.int .i64 0))
    (first | exact ⟨z0, z6, z7, z8⟩ | exact ⟨y0, y6, y7, y8⟩)
    (first | (go_at_call 57; (with_reducible refine (HLS.out _ gl 1 gp cp z.drew HZ.out.drew).mono ?_); rintro e y ⟨u1, gl2, gp2, cp2, rfl, ho2, hb⟩; have y0 := (hb.cell (p := ⟨w.heap.size, 0, none⟩) lz).trans z0; have y6 := (hb.cell (p := ⟨L, 6, none⟩) lz2).trans z6; have y7 := (hb.cell (p := ⟨L, 7, none⟩) lz2).trans z7; have y8 := (hb.cell (p := ⟨L, 8, none⟩) lz2).trans z8; have HY := Lib.hid ho2; have OY := Lib.hid (OZ.out.drew.below hb OZ.out.size); clear ho2 hb))
  all_goals
    go_wp2_with fail
    go_ret3
    exact ⟨u1, gl2, gp2, cp2, rfl, HY.out, OY.out⟩
def sqL : List (List Geo.Pt) := [[(-20000000, -20000000), (20000000, -20000000), (20000000, 20000000), (-20000000, 20000000)]]
theorem sq_walk (L : Value) : walkPx 100 0 ((reachL [((true, Geo.Sh.poly sqL), L)]).map (·.1)) (pxsOf (-10000000) (-10000000) 10000000 2 2) [] 0 = (some [(1, 1), (1, 1), (1, 1), (1, 1)], 4) := by kernel_rfl
theorem sq_ok : ShOk (Geo.Sh.poly sqL) := by
  refine ⟨fun c hc p hp => ?_, by decide, by decide⟩
  simp only [sqL, List.mem_cons, List.not_mem_nil, or_false] at hc
  subst hc
  simp only [List.mem_cons, List.not_mem_nil, or_false] at hp
  rcases hp with rfl | rfl | rfl | rfl <;> decide
theorem ObR.objs {w : World} {v : Value} {gl cl gp cp M : Nat} (h : ObR w v gl cl gp cp) (n1 : gl ≠ M) (n2 : gp ≠ M) (n3 : v.ownBlock ≠ some M) : ObjsAt [M] w v [((true, Geo.Sh.poly sqL), .slice (some ⟨gl, 0, none⟩) 1 cl)] := by
  have lgl := h.2.lt1
  have lgp := h.2.lt2
  obtain ⟨g, cap, he, _, hg⟩ := h.1.form (by omega)
  subst he
  refine ⟨⟨some ⟨g, 0, none⟩, cap, rfl, fun _ => ⟨g, rfl, ?_, hg, fun k j u hk hj hu => ?_⟩⟩, ?_⟩
  · simp [Value.ownBlock] at n3
    simpa using n3
  · simp only [List.length_cons, List.length_nil] at hk
    obtain rfl : k = 0 := by omega
    rw [h.1.cellAt (0 * 11 + j) (by omega)]
    exact hu
  · intro o ho
    simp only [List.mem_cons, List.not_mem_nil, or_false] at ho
    subst ho
    refine ⟨some ⟨gl, 0, none⟩, cl, rfl, fun _ => ⟨gl, rfl, by simpa using n1, lgl, fun i hi => ?_⟩⟩
    obtain rfl : i = 0 := by simp [sqL] at hi; omega
    refine ⟨.slice (some ⟨gp, 0, none⟩) 4 cp, h.2.1, some ⟨gp, 0, none⟩, cp, rfl, fun _ => ⟨gp, rfl, by simpa using n2, lgp, fun j hj => ?_⟩⟩
    have hj4 : j < 4 := hj
    rcases (show j = 0 ∨ j = 1 ∨ j = 2 ∨ j = 3 by omega) with rfl | rfl | rfl | rfl
    · exact ⟨h.2.2 0 _ rfl, h.2.2 1 _ rfl⟩
    · exact ⟨h.2.2 2 _ rfl, h.2.2 3 _ rfl⟩
    · exact ⟨h.2.2 4 _ rfl, h.2.2 5 _ rfl⟩
    · exact ⟨h.2.2 6 _ rfl, h.2.2 7 _ rfl⟩
theorem sq_vok : VOk (-10000000) (-10000000) 10000000 ((2 : Nat) : Int) ((2 : Nat) : Int) ((0 : Nat) : Int) 1 := by constructor <;> omega
def sqOnes (k : Nat) : List Value := List.replicate (2 * k) (.int .i64 1)
theorem sq_ones : sqOnes 4 = covC2 [(1, 1), (1, 1), (1, 1), (1, 1)] := by rfl
theorem rrender_sq2 (M : Nat) (v1 : Value) (gl cl gp cp : Nat) (w : World) (hO : ObR w v1 gl cl gp cp) (hM : Blk w M 133 #[.int .i64 100, .int .i64 0]) :
    Calls Tryz.prog 46 #[v1, .agg #[.int .i64 (-10000000), .int .i64 (-10000000), .int .i64 10000000, .int .i64 2, .int .i64 2, .int .i64 0], .pointer (some ⟨M, 0, none⟩)] w fun e w' => ∃ vr, e = .returned (.tuple #[vr, .int .i64 0]) ∧ w'.ownsRow w.heap.size 75 2 vr 4 (sqOnes 4) ∧ Only [M] w w' := by
  obtain ⟨n1, n2⟩ := hO.2.ne_meter hM
  have n3 := own_blk_ne hO.1 hM (by decide)
  refine (rrender_c 100 0 M (-10000000) (-10000000) 10000000 1 2 2 0 v1 _ w sq_vok (hO.objs n1 n2 n3) (by simp) (by
    intro o ho
    simp only [List.mem_cons, List.not_mem_nil, or_false] at ho
    subst ho
    exact sq_ok) hM (by omega) (by omega)).mono ?_
  rintro e w' ⟨r, a1, hw, hk, hon, hm⟩
  rw [sq_walk] at hw
  simp only [Prod.mk.injEq] at hw
  obtain ⟨rfl, rfl⟩ := hw
  obtain ⟨gv, cv, he, _, hown⟩ := hm
  exact ⟨_, he, by rw [sq_ones]; exact hown, hon⟩
theorem cover_c (g M : Nat) (w : World) (hG : Blk w g 34 #[.string { data := #[37, 70, 83, 76, 65, 88, 50, 52, 89, 50, 52, 42, 37, 37, 77, 79, 77, 77, 42, 37, 37, 65, 68, 68, 49, 48, 82, 44, 52, 88, 52, 42, 37, 68, 49, 48, 42, 88, 48, 89, 48, 68, 48, 51, 42, 77, 48, 50, 42] }, .int .i64 9, .int .i64 0, .int .i64 0, .int .i64 255, .bool false]) (hM : Blk w M 133 #[.int .i64 100, .int .i64 0]) :
    Calls Tryz.prog 31 #[.agg #[.int .i64 (-10000000), .int .i64 (-10000000), .int .i64 10000000, .int .i64 2, .int .i64 2, .int .i64 0, .slice (some ⟨g, 0, none⟩) 1 1, .slice none 0 0, .int .i64 0, .int .i64 0, .int .i64 0, .int .i64 10, .int .i64 100], .int .i64 0, .slice none 0 0, .pointer (some ⟨M, 0, none⟩)] w fun e w' => ∃ vr, e = .returned (.tuple #[vr, .agg #[.int .i64 0, .int .i64 0, .int .i64 0, .int .i64 0]]) ∧ w'.ownsRow w.heap.size 75 2 vr 4 (sqOnes 4) ∧ Only [M] w w' := by
  have cG := hG.cell
  have lG := hG.lt
  have lM := hM.lt
  have HM := Lib.hid hM
  have HN := Lib.hid newLayer_c
  have HO := Lib.hid objects_c
  have HR := Lib.hid rrender_sq2
  obtain ⟨u, eu⟩ : ∃ u, ((w.alloc (.cells #[.int .i64 (-10000000), .int .i64 (-10000000), .int .i64 10000000, .int .i64 2, .int .i64 2, .int .i64 0, .slice (some ⟨g, 0, none⟩) 1 1, .slice none 0 0, .int .i64 0, .int .i64 0, .int .i64 0, .int .i64 10, .int .i64 100] 31)).alloc (.cells #[.int .i64 0, .int .i64 0, .int .i64 0, .int .i64 0] 40)).alloc (.cells #[.string { data := #[37, 70, 83, 76, 65, 88, 50, 52, 89, 50, 52, 42, 37, 37, 77, 79, 77, 77, 42, 37, 37, 65, 68, 68, 49, 48, 82, 44, 52, 88, 52, 42, 37, 68, 49, 48, 42, 88, 48, 89, 48, 68, 48, 51, 42, 77, 48, 50, 42] }, .int .i64 9, .int .i64 0, .int .i64 0, .int .i64 255, .bool false] 34) = u := ⟨_, rfl⟩
  have B0 : Below w.heap.size w u := by rw [← eu]; exact blw
  have kj : Blk u w.heap.size 31 #[.int .i64 (-10000000), .int .i64 (-10000000), .int .i64 10000000, .int .i64 2, .int .i64 2, .int .i64 0, .slice (some ⟨g, 0, none⟩) 1 1, .slice none 0 0, .int .i64 0, .int .i64 0, .int .i64 0, .int .i64 10, .int .i64 100] := by rw [← eu]; exact bkw
  have kf : Blk u (w.heap.size + 1) 40 #[.int .i64 0, .int .i64 0, .int .i64 0, .int .i64 0] := by rw [← eu]; exact bkw
  have kl : Blk u (w.heap.size + 1 + 1) 34 #[.string { data := #[37, 70, 83, 76, 65, 88, 50, 52, 89, 50, 52, 42, 37, 37, 77, 79, 77, 77, 42, 37, 37, 65, 68, 68, 49, 48, 82, 44, 52, 88, 52, 42, 37, 68, 49, 48, 42, 88, 48, 89, 48, 68, 48, 51, 42, 77, 48, 50, 42] }, .int .i64 9, .int .i64 0, .int .i64 0, .int .i64 255, .bool false] := by rw [← eu]; exact bkw
  have km : Blk u M 133 #[.int .i64 100, .int .i64 0] := HM.out.below B0 lM
  have HJ := Lib.hid kj
  have HF := Lib.hid kf
  have HL := Lib.hid kl
  have HKM := Lib.hid km
  have HB0 := Lib.hid B0
  have EU := Lib.hid eu
  clear hG hM eu B0 kj kf kl km
  go_enter Tryz.func31, Tryz.ntmps31
  go_wp2_with fail
  rw [EU.out]
  refine (HN.out u).mono ?_
  rintro e w1 ⟨rfl, rfl⟩
  obtain ⟨v, ev⟩ : ∃ v, u.alloc (.cells #[.string { data := #[37, 70, 83, 76, 65, 88, 50, 52, 89, 50, 52, 42, 37, 37, 77, 79, 77, 77, 42, 37, 37, 65, 68, 68, 49, 48, 82, 44, 52, 88, 52, 42, 37, 68, 49, 48, 42, 88, 48, 89, 48, 68, 48, 51, 42, 77, 48, 50, 42] }, .int .i64 10, .int .u32 0, .int .i32 0, .int .u32 0, .int .i32 0, .slice none 0 0, .int .i64 0, .int .i64 0] 199) = v := ⟨_, rfl⟩
  have kL : Blk v u.heap.size 199 #[.string { data := #[37, 70, 83, 76, 65, 88, 50, 52, 89, 50, 52, 42, 37, 37, 77, 79, 77, 77, 42, 37, 37, 65, 68, 68, 49, 48, 82, 44, 52, 88, 52, 42, 37, 68, 49, 48, 42, 88, 48, 89, 48, 68, 48, 51, 42, 77, 48, 50, 42] }, .int .i64 10, .int .u32 0, .int .i32 0, .int .u32 0, .int .i32 0, .slice none 0 0, .int .i64 0, .int .i64 0] := by rw [← ev]; exact Blk.newAt rfl
  have oV : Only [] u v := by rw [← ev]; exact (Only.refl _ _).alloc _
  rw [ev]
  have OV := Lib.hid oV
  have KL := Lib.hid kL
  clear ev oV kL cG lG
  go_wp2_with fail
  refine (HO.out u.heap.size v KL.out).mono ?_
  rintro e z ⟨u1, gl, gp, cp, rfl, ho, hon⟩
  have oz : Only [u.heap.size] u z := (OV.out.mono (by simp)).trans hon
  have jj := oz.blk HJ.out (by have := HJ.out.lt; simp; omega)
  have jf := oz.blk HF.out (by have := HF.out.lt; simp; omega)
  have jl := oz.blk HL.out (by have := HL.out.lt; simp; omega)
  have jm := oz.blk HKM.out (by have := HKM.out.lt; simp; omega)
  have hBz : Below w.heap.size w z := HB0.out.trans (oz.toBelow HB0.out.size (by have := HB0.out.size; simp; omega))
  have cj := jj.cell
  have lj := jj.lt
  have cl := jl.cell
  have ll := jl.lt
  have JF := Lib.hid jf
  have JM := Lib.hid jm
  have HZ := Lib.hid ho
  have HBZ := Lib.hid hBz
  clear hon oz jj jf jl jm ho hBz
  go_wp2_with fail
  refine (HR.out M u1 gl 1 gp cp z HZ.out JM.out).mono ?_
  rintro e y ⟨vr, rfl, hv, hon⟩
  obtain ⟨rp, rc, rfl⟩ := own_form hv
  have yf := hon.blk JF.out (by simpa using JF.out.ne_ JM.out (by decide))
  have cf := yf.cell
  have ff := yf.frozen
  have lf := yf.lt
  have YF := Lib.hid yf
  have HV := Lib.hid hv
  have ON := Lib.hid hon
  clear yf hv hon cj lj cl ll
  go_wp2_with fail
  obtain ⟨x, ex⟩ : ∃ x, (((y.setCell ⟨w.heap.size + 1, 0, none⟩ (.int .i64 0)).setCell ⟨w.heap.size + 1, 1, none⟩ (.int .i64 0)).setCell ⟨w.heap.size + 1, 2, none⟩ (.int .i64 0)).setCell ⟨w.heap.size + 1, 3, none⟩ (.int .i64 0) = x := ⟨_, rfl⟩
  have kx : Blk x (w.heap.size + 1) 40 #[.int .i64 0, .int .i64 0, .int .i64 0, .int .i64 0] := by rw [← ex]; exact (((YF.out.set_ 0 _ rfl).set_ 1 _ rfl).set_ 2 _ rfl).set_ 3 _ rfl
  have ox : Only [w.heap.size + 1] y x := by rw [← ex]; exact ((((Only.refl _ _).setCell (by simp) _).setCell (by simp) _).setCell (by simp) _).setCell (by simp) _
  have hvx := own_mono (ox.own HV.out (fun b hb hm => by simp at hm; subst hm; exact own_blk_ne HV.out YF.out (by decide) hb)) HBZ.out.size
  have onx : Only [M] w x := ((Only.of_below HBZ.out (Nat.le_refl _) [M]).trans ON.out).then_ ox (by intro b hb; simp at hb; subst hb; right; omega)
  have cx := kx.cell
  rw [ex]
  clear cf ff lf ex
  exact bodyPost_ret (v := .tuple #[.slice rp 4 rc, .agg #[.int .i64 0, .int .i64 0, .int .i64 0, .int .i64 0]]) (by simp [results, Tryz.results31, go_sem, cx]) rfl ⟨.slice rp 4 rc, rfl, hvx, onx⟩
end Go.Proofs.YtfajckkbinbpiaaGreatDoor
