/- Walks: package plot: a text of ours is plotted. Walks: package plot: the file of the one square. Walks: what is done once: its parts. Walks: a layer is read once. Walks: the one pile is copied. Walks: what a layer holds. Walks: the group of the one object. Walks: the image of the one square. -/
import Derived.ChangeAlike
import Derived.Deep.Cut
import Derived.Deep.CutRange
import Derived.Deep.RegionHeld3
import Derived.Defers
import Derived.Laws.LoneSync
import Derived.Laws.Pointers
import Derived.RegionCalls
import Derived.RegionTactic
import Derived.Tactics
import Derived.Tactics2
import Derived.Test.YtfajckkbinbpiaaGreatDoorN01
import Derived.Test.YtfajckkbinbpiaaGreatDoorN33
import Derived.Test.YtfajckkbinbpiaaGreatDoorN35
import Derived.Test.YtfajckkbinbpiaaGreatDoorN37
import Derived.Test.YtfajckkbinbpiaaGreatDoorN40
namespace Go.Proofs.YtfajckkbinbpiaaGreatDoor
set_option maxRecDepth 100000
set_option maxHeartbeats 32000000
set_option linter.unusedVariables false
set_option linter.unusedSimpArgs false
open Go.RowKit
theorem file_r (w : World) :
    Calls Tryz.prog 13 #[.string { data := #[37, 70, 83, 76, 65, 88, 50, 52, 89, 50, 52, 42, 37, 37, 77, 79, 77, 77, 42, 37, 37, 65, 68, 68, 49, 48, 82, 44, 52, 88, 52, 42, 37, 68, 49, 48, 42, 88, 48, 89, 48, 68, 48, 51, 42, 77, 48, 50, 42] }, .int .i64 10] w fun e w' => ∃ v0 gl gp cp, e = .returned (.tuple #[v0, .int .i64 0, .int .i64 0]) ∧ ObR w' v0 gl 1 gp cp ∧ Below w.heap.size w w' := by
  have ho : ∀ g ∈ ([Gr.fs, .mo, .adr, .d10, .op3 [48] [48], .m02] : List Gr), g.Ok := by
    intro g hg
    simp only [List.mem_cons, List.not_mem_nil, or_false] at hg
    rcases hg with rfl | rfl | rfl | rfl | rfl | rfl
    · trivial
    · trivial
    · trivial
    · trivial
    · have hd : Digits [48] := by intro c hc; simp at hc; subst hc; decide
      exact ⟨⟨hd, by decide, by decide, by decide⟩, ⟨hd, by decide, by decide, by decide⟩⟩
    · trivial
  have h1 := parse_c [Gr.fs, .mo, .adr, .d10, .op3 [48] [48], .m02] (by simp) ho (by decide) (by decide) w
  have h2 := fun cs v B' w' hC hG => plot_r cs v B' w' hC hG
  obtain ⟨T, eT⟩ : ∃ T, bs (texts [Gr.fs, .mo, .adr, .d10, .op3 [48] [48], .m02]) = T := ⟨_, rfl⟩
  have eL : ({ data := #[37, 70, 83, 76, 65, 88, 50, 52, 89, 50, 52, 42, 37, 37, 77, 79, 77, 77, 42, 37, 37, 65, 68, 68, 49, 48, 82, 44, 52, 88, 52, 42, 37, 68, 49, 48, 42, 88, 48, 89, 48, 68, 48, 51, 42, 77, 48, 50, 42] } : ByteArray) = T := by rw [← eT]; rfl
  rw [eL]
  rw [eT] at h1
  have H1 := Lib.hid h1
  have H2 := Lib.hid h2
  clear h1 h2 ho eT eL
  go_enter Tryz.func13, Tryz.ntmps13
  go_wp2_with fail
  refine (H1.out).mono ?_
  rintro e w1 ⟨v, cs, rfl, hC, hG, hb⟩
  have H3 := Lib.hid (H2.out cs v _ w1 hC hG)
  have HB := Lib.hid hb
  clear hC hG hb
  go_wp2_with fail
  refine (H3.out).mono ?_
  rintro e w2 ⟨v0, gl, gp, cp, rfl, hv, hb⟩
  have HV := Lib.hid hv
  have HB2 := Lib.hid (HB.out.trans (hb.mono HB.out.size))
  clear hv hb
  go_wp2_with fail
  go_ret3
  exact ⟨v0, gl, gp, cp, rfl, HV.out, HB2.out⟩
theorem disable (w : World) : (callFunc 251 #[]).run Tryz.prog w = .ok (.value (.tuple #[])) w := run_call_mark0 Tryz.func251 (by kernel_rfl) (by kernel_rfl) (by kernel_rfl) .disable (by kernel_rfl) w
theorem enable (w : World) : (callFunc 253 #[]).run Tryz.prog w = .ok (.value (.tuple #[])) w := run_call_mark0 Tryz.func253 (by kernel_rfl) (by kernel_rfl) (by kernel_rfl) .enable (by kernel_rfl) w
theorem acquire (a : Addr) (w : World) : (callFunc 254 #[.pointer (some a)]).run Tryz.prog w = .ok (.value (.tuple #[])) w := run_call_marked Tryz.func254 (by kernel_rfl) (by kernel_rfl) (by kernel_rfl) .acquire (by kernel_rfl) a w
theorem releaseMerge (a : Addr) (w : World) : (callFunc 256 #[.pointer (some a)]).run Tryz.prog w = .ok (.value (.tuple #[])) w := run_call_marked Tryz.func256 (by kernel_rfl) (by kernel_rfl) (by kernel_rfl) .releaseMerge (by kernel_rfl) a w
theorem store_deferred (a : Addr) (x : Value) (u : FrameMode) (w : World) (hc : w.cell? a = some x) (hz : w.frozen? a = false) :
    CallsD Tryz.prog 185 #[.pointer (some a), .bool true] u w fun e u' w' => u' = u ∧ (e = .returned (.tuple #[]) ∧ w' = w.drew.setCell a (.int .u32 1)) := by
  have hc' : w.drew.cell? a = some x := by go_simp
  have hz' : w.drew.frozen? a = false := by go_simp
  have hst := run_call_store (P := Tryz.prog) Tryz.func219 (by kernel_rfl) (by kernel_rfl) (by kernel_rfl) (by kernel_rfl) (k := .u32) (y := 1) hc' hz'
  go_enter_d Tryz.func185, Tryz.ntmps185
  go_wp2
  go_region_calls
  all_goals (go_end0; exact ⟨rfl, rfl⟩)
theorem unlock_deferred (a : Addr) (u : FrameMode) (w : World) (hc : w.cell? a = some (.int .i32 1)) (hz : w.frozen? a = false) :
    CallsD Tryz.prog 184 #[.pointer (some a)] u w fun e u' w' => u' = u ∧ (e = .returned (.tuple #[]) ∧ w' = w.setCell a (.int .i32 0)) := by
  have hd := disable
  have he := enable
  have hr := releaseMerge
  have hadd := run_call_add (P := Tryz.prog) Tryz.func143 (by kernel_rfl) (by kernel_rfl) (by kernel_rfl) .i32 (by kernel_rfl) (y := -1) (s := 0) hc hz (by simp [go_sem]; rfl)
  have hcv := run_convert_to_unsafe (P := Tryz.prog) (src := 367) (dst := 370) Tryz.underlying367 Tryz.underlying370 (by kernel_rfl) hc
  go_enter_d Tryz.func184, Tryz.ntmps184
  go_wp2
  go_end0
  go_wp2
  all_goals (first | (go_end0; exact ⟨rfl, rfl⟩) | exact ⟨rfl, rfl⟩)
theorem lock_free (a : Addr) (w : World) (hc : w.cell? a = some (.int .i32 0)) (hz : w.frozen? a = false) :
    Calls Tryz.prog 183 #[.pointer (some a)] w fun e w' => e = .returned (.tuple #[]) ∧ w' = w.setCell a (.int .i32 1) := by
  have hd := disable
  have he := enable
  have ha := acquire
  have hcas := run_call_cas_hit (P := Tryz.prog) Tryz.func252 (by kernel_rfl) (by kernel_rfl) (by kernel_rfl) .i32 (by kernel_rfl) (y := 1) hc hz
  have hc' : (w.setCell a (.int .i32 1)).cell? a = some (.int .i32 1) := World.cell?_setCell_same w a _ hc
  have hcv := run_convert_to_unsafe (P := Tryz.prog) (src := 367) (dst := 370) Tryz.underlying367 Tryz.underlying370 (by kernel_rfl) hc'
  go_enter Tryz.func183, Tryz.ntmps183
  go_wp2
  first | go_end0 | (simp only [Exit.inBlock, Exit.then]; refine bodyPost_ret (results_none rfl _ _ _) rfl ?_) | refine bodyPost_ret (results_none rfl _ _ _) rfl ?_
  go_wp2
  all_goals (first | (go_end0; exact ⟨rfl, rfl⟩) | exact ⟨rfl, rfl⟩)
theorem bload (a : Addr) (w : World) (hc : w.cell? a = some (.int .u32 0)) : Calls Tryz.prog 137 #[.pointer (some a)] w fun e w' => e = .returned (.bool false) ∧ w' = w := by
  have hl := run_call_load (P := Tryz.prog) Tryz.func182 (by kernel_rfl) (by kernel_rfl) (by kernel_rfl) .u32 (by kernel_rfl) hc
  go_enter Tryz.func137, Tryz.ntmps137
  go_wp2
  go_ret
  exact ⟨rfl, rfl⟩
theorem add32 (a : Addr) (w : World) (hc : w.cell? a = some (.int .i32 0)) (hz : w.frozen? a = false) : Calls Tryz.prog 91 #[.pointer (some a), .int .i32 1] w fun e w' => e = .returned (.int .i32 1) ∧ w' = w.setCell a (.int .i32 1) := by
  have hadd := run_call_add (P := Tryz.prog) Tryz.func143 (by kernel_rfl) (by kernel_rfl) (by kernel_rfl) .i32 (by kernel_rfl) (y := 1) (s := 1) hc hz (by simp [go_sem]; rfl)
  go_enter Tryz.func91, Tryz.ntmps91
  go_wp2
  go_ret
  exact ⟨rfl, rfl⟩
theorem ObR.far {w : World} {v : Value} {gl cl gp cp b i : Nat} (h : ObR w v gl cl gp cp) (h1 : gl ≠ b) (h2 : gp ≠ b) (h3 : v.ownBlock ≠ some b) (u : Value) : ObR (w.setCell ⟨b, i, none⟩ u) v gl cl gp cp := ⟨own_far h.1 (by simpa using h3) _, h.2.far (by simpa using h1) (by simpa using h2) _⟩
theorem closure_c (L q : Nat) (w : World) (hL : Blk w L 199 #[.string { data := #[37, 70, 83, 76, 65, 88, 50, 52, 89, 50, 52, 42, 37, 37, 77, 79, 77, 77, 42, 37, 37, 65, 68, 68, 49, 48, 82, 44, 52, 88, 52, 42, 37, 68, 49, 48, 42, 88, 48, 89, 48, 68, 48, 51, 42, 77, 48, 50, 42] }, .int .i64 10, .int .u32 0, .int .i32 1, .int .u32 0, .int .i32 0, .slice none 0 0, .int .i64 0, .int .i64 0]) (hq : w.cell? ⟨q, 0, none⟩ = some (.pointer (some ⟨L, 0, none⟩))) (hne : q ≠ L) :
    Calls Tryz.prog 90 #[.pointer (some ⟨q, 0, none⟩)] w fun e w' => e = .returned (.tuple #[]) ∧ ∃ g cap gl gp cp, Blk w' L 199 #[.string { data := #[37, 70, 83, 76, 65, 88, 50, 52, 89, 50, 52, 42, 37, 37, 77, 79, 77, 77, 42, 37, 37, 65, 68, 68, 49, 48, 82, 44, 52, 88, 52, 42, 37, 68, 49, 48, 42, 88, 48, 89, 48, 68, 48, 51, 42, 77, 48, 50, 42] }, .int .i64 10, .int .u32 0, .int .i32 1, .int .u32 0, .int .i32 1, .slice (some ⟨g, 0, none⟩) 1 cap, .int .i64 0, .int .i64 0] ∧ ObR w' (.slice (some ⟨g, 0, none⟩) 1 cap) gl 1 gp cp ∧ Only [L] w w' := by
  have lL := hL.lt
  have lq := blk_of_cell hq
  have c0 : w.cell? ⟨L, 0, none⟩ = some (.string { data := #[37, 70, 83, 76, 65, 88, 50, 52, 89, 50, 52, 42, 37, 37, 77, 79, 77, 77, 42, 37, 37, 65, 68, 68, 49, 48, 82, 44, 52, 88, 52, 42, 37, 68, 49, 48, 42, 88, 48, 89, 48, 68, 48, 51, 42, 77, 48, 50, 42] }) := hL.cell 0
  have c1 : w.cell? ⟨L, 1, none⟩ = some (.int .i64 10) := hL.cell 1
  have HL := Lib.hid hL
  have HF := Lib.hid file_r
  clear hL
  go_enter Tryz.func90, Tryz.ntmps90
  go_wp2_with fail
  go_region_held3 (fun w' => w'.cell? ⟨q, 0, none⟩ = some (.pointer (some ⟨L, 0, none⟩)) ∧ w'.cell? ⟨L, 0, none⟩ = some (.string { data := #[37, 70, 83, 76, 65, 88, 50, 52, 89, 50, 52, 42, 37, 37, 77, 79, 77, 77, 42, 37, 37, 65, 68, 68, 49, 48, 82, 44, 52, 88, 52, 42, 37, 68, 49, 48, 42, 88, 48, 89, 48, 68, 48, 51, 42, 77, 48, 50, 42] }) ∧ w'.cell? ⟨L, 1, none⟩ = some (.int .i64 10))
    (first | exact ⟨hq, c0, c1⟩ | exact ⟨zq, z0, z1⟩ | (refine ⟨?_, ?_, ?_⟩ <;> (simp [World.cell?_setCell_other, zq, z0, z1, hne]; done)))
    (first | (go_at_call 13; (with_reducible refine (HF.out _).mono ?_); rintro e z ⟨v0, gl, gp, cp, rfl, ho, hb⟩; obtain ⟨g, cap, rfl, _, _⟩ := ho.form; have kz := HL.out.drew.below hb lL; have zq := (hb.cell (p := ⟨q, 0, none⟩) lq).trans hq; have z0 := (hb.cell (p := ⟨L, 0, none⟩) lL).trans c0; have z1 := (hb.cell (p := ⟨L, 1, none⟩) lL).trans c1; have zc := kz.cell; have zf := kz.frozen; have zl := kz.lt; have KZ := Lib.hid kz; have OZ := Lib.hid ho; have hNZ := ho.2.ne_blk (kz.cell 0) (by intro p n c h; cases h) (by intro h; cases h); have NZ := Lib.hid hNZ; have OO := Lib.hid ((Only.refl [L] w).drew.below hb (Nat.le_refl _)); clear hb ho kz hNZ))
  all_goals
    have own9 := own_blk_ne OZ.out.1 KZ.out (by decide)
    have OWN9 := Lib.hid own9
    clear own9
    go_wp2_with fail
    have K9 := ((KZ.out.set_ 6 (.slice (some ⟨g, 0, none⟩) 1 cap) rfl).set_ 7 (.int .i64 0) rfl).set_ 8 (.int .i64 0) rfl
    refine (add32 ⟨L, 5, none⟩ _ (K9.cell 5) (K9.frozen 5)).mono ?_
    rintro e w' ⟨rfl, rfl⟩
    go_wp2_with fail
    go_end0
    exact ⟨rfl, g, cap, gl, gp, cp, K9.set_ 5 (.int .i32 1) rfl, ((((OZ.out).far NZ.out.1 NZ.out.2 OWN9.out _).far NZ.out.1 NZ.out.2 OWN9.out _).far NZ.out.1 NZ.out.2 OWN9.out _).far NZ.out.1 NZ.out.2 OWN9.out _, by have := OO.out; exact onw⟩
theorem slow_c (L q : Nat) (w : World) (hL : Blk w L 199 #[.string { data := #[37, 70, 83, 76, 65, 88, 50, 52, 89, 50, 52, 42, 37, 37, 77, 79, 77, 77, 42, 37, 37, 65, 68, 68, 49, 48, 82, 44, 52, 88, 52, 42, 37, 68, 49, 48, 42, 88, 48, 89, 48, 68, 48, 51, 42, 77, 48, 50, 42] }, .int .i64 10, .int .u32 0, .int .i32 0, .int .u32 0, .int .i32 0, .slice none 0 0, .int .i64 0, .int .i64 0]) (hq : w.cell? ⟨q, 0, none⟩ = some (.pointer (some ⟨L, 0, none⟩))) (hne : q ≠ L) :
    Calls Tryz.prog 138 #[.pointer (some ⟨L, 2, none⟩), .func (.func 90) #[] #[.pointer (some ⟨q, 0, none⟩)]] w fun e w' => e = .returned (.tuple #[]) ∧ ∃ g cap gl gp cp, Blk w' L 199 #[.string { data := #[37, 70, 83, 76, 65, 88, 50, 52, 89, 50, 52, 42, 37, 37, 77, 79, 77, 77, 42, 37, 37, 65, 68, 68, 49, 48, 82, 44, 52, 88, 52, 42, 37, 68, 49, 48, 42, 88, 48, 89, 48, 68, 48, 51, 42, 77, 48, 50, 42] }, .int .i64 10, .int .u32 1, .int .i32 0, .int .u32 0, .int .i32 1, .slice (some ⟨g, 0, none⟩) 1 cap, .int .i64 0, .int .i64 0] ∧ ObR w' (.slice (some ⟨g, 0, none⟩) 1 cap) gl 1 gp cp ∧ Only [L] w w' := by
  have K1 : Blk (w.setCell ⟨L, 3, none⟩ (.int .i32 1)) L 199 #[.string { data := #[37, 70, 83, 76, 65, 88, 50, 52, 89, 50, 52, 42, 37, 37, 77, 79, 77, 77, 42, 37, 37, 65, 68, 68, 49, 48, 82, 44, 52, 88, 52, 42, 37, 68, 49, 48, 42, 88, 48, 89, 48, 68, 48, 51, 42, 77, 48, 50, 42] }, .int .i64 10, .int .u32 0, .int .i32 1, .int .u32 0, .int .i32 0, .slice none 0 0, .int .i64 0, .int .i64 0] := hL.set_ 3 _ rfl
  have hnot : ∀ (x : Bool) (w : World), (Op.unary .not (.bool x)).run Tryz.prog w = .ok (.bool (!x)) w := fun _ _ => rfl
  have c3 := hL.cell 3
  have f3 := hL.frozen 3
  have hq1 : (w.setCell ⟨L, 3, none⟩ (.int .i32 1)).cell? ⟨q, 0, none⟩ = some (.pointer (some ⟨L, 0, none⟩)) := (World.cell?_setCell_other _ _ _ _ (by intro h; injection h with h1 h2; first | exact hne h1 | exact hne h1.symm)).trans hq
  have HK1 := Lib.hid K1
  have HC := Lib.hid (closure_c L q _ K1 hq1 hne)
  clear hL K1 hq hq1
  go_enter_defers Tryz.func138, Tryz.ntmps138
  go_wp2_with (first | (go_at_call 183; refine (lock_free ⟨L, 3, none⟩ _ c3 f3).mono ?_; rintro e w' ⟨rfl, rfl⟩) | (go_at_call 137; refine (bload ⟨L, 2, none⟩ _ (HK1.out.cell 2)).mono ?_; rintro e w' ⟨rfl, rfl⟩))
  refine (HC.out).mono ?_
  rintro e z ⟨rfl, g, cap, gl, gp, cp, hk, ho, hon⟩
  have hn := ho.2.ne_blk (hk.cell 0) (by intro p n c h; cases h) (by intro h; cases h)
  have ho9 := own_blk_ne ho.1 hk (by decide)
  have kf := (hk.drew.set_ 2 (.int .u32 1) rfl).set_ 3 (.int .i32 0) rfl
  have of := ((ho.drew).far (i := 2) hn.1 hn.2 ho9 (.int .u32 1)).far (i := 3) hn.1 hn.2 ho9 (.int .i32 0)
  have onf : Only [L] w _ := ((((Only.refl [L] w).setCell (p := ⟨L, 3, none⟩) (by simp) (.int .i32 1)).trans hon).drew.setCell (p := ⟨L, 2, none⟩) (by simp) (.int .u32 1)).setCell (p := ⟨L, 3, none⟩) (by simp) (.int .i32 0)
  have k2 := hk.drew.set_ 2 (.int .u32 1) rfl
  have HF := Lib.hid (And.intro kf (And.intro of onf))
  have HK := Lib.hid hk
  have HK2 := Lib.hid k2
  clear hn ho9 kf of onf k2 hk ho hon
  go_wp2_with fail
  refine leaves_cons (f := 185) (args := #[.pointer (some ⟨L, 2, none⟩), .bool true]) (by simp) (by simp [go_sem]) ?_
  refine (store_deferred ⟨L, 2, none⟩ (.int .u32 0) .returning _ (HK.out.cell 2) (HK.out.frozen 2)).mono ?_
  rintro e u' w'' ⟨rfl, rfl, rfl⟩
  refine leaves_cons (f := 184) (args := #[.pointer (some ⟨L, 3, none⟩)]) (by simp [settle]) (by simp [go_sem]) ?_
  refine (unlock_deferred ⟨L, 3, none⟩ _ _ (HK2.out.cell 3) (HK2.out.frozen 3)).mono ?_
  rintro e u' w'' ⟨rfl, rfl, rfl⟩
  simp only [Leaves, settle]
  exact ⟨.tuple #[], results_none rfl _ _ _, rfl, g, cap, gl, gp, cp, HF.out.1, HF.out.2.1, HF.out.2.2⟩
theorem once_c (L q : Nat) (w : World) (hL : Blk w L 199 #[.string { data := #[37, 70, 83, 76, 65, 88, 50, 52, 89, 50, 52, 42, 37, 37, 77, 79, 77, 77, 42, 37, 37, 65, 68, 68, 49, 48, 82, 44, 52, 88, 52, 42, 37, 68, 49, 48, 42, 88, 48, 89, 48, 68, 48, 51, 42, 77, 48, 50, 42] }, .int .i64 10, .int .u32 0, .int .i32 0, .int .u32 0, .int .i32 0, .slice none 0 0, .int .i64 0, .int .i64 0]) (hq : w.cell? ⟨q, 0, none⟩ = some (.pointer (some ⟨L, 0, none⟩))) (hne : q ≠ L) :
    Calls Tryz.prog 86 #[.pointer (some ⟨L, 2, none⟩), .func (.func 90) #[] #[.pointer (some ⟨q, 0, none⟩)]] w fun e w' => e = .returned (.tuple #[]) ∧ ∃ g cap gl gp cp, Blk w' L 199 #[.string { data := #[37, 70, 83, 76, 65, 88, 50, 52, 89, 50, 52, 42, 37, 37, 77, 79, 77, 77, 42, 37, 37, 65, 68, 68, 49, 48, 82, 44, 52, 88, 52, 42, 37, 68, 49, 48, 42, 88, 48, 89, 48, 68, 48, 51, 42, 77, 48, 50, 42] }, .int .i64 10, .int .u32 1, .int .i32 0, .int .u32 0, .int .i32 1, .slice (some ⟨g, 0, none⟩) 1 cap, .int .i64 0, .int .i64 0] ∧ ObR w' (.slice (some ⟨g, 0, none⟩) 1 cap) gl 1 gp cp ∧ Only [L] w w' := by
  have HS := Lib.hid (slow_c L q w hL hq hne)
  have h2 := hL.cell 2
  have hnot : ∀ (x : Bool) (w : World), (Op.unary .not (.bool x)).run Tryz.prog w = .ok (.bool (!x)) w := fun _ _ => rfl
  clear hL hq hne
  go_enter Tryz.func86, Tryz.ntmps86
  go_wp2_with (first | (go_at_call 138; refine (HS.out).mono ?_; rintro e w' ⟨rfl, hR⟩) | (go_at_call 137; refine (bload ⟨L, 2, none⟩ _ h2).mono ?_; rintro e w' ⟨rfl, rfl⟩))
  go_end0
  exact ⟨rfl, hR⟩
theorem newLayer_c (w : World) : Calls Tryz.prog 55 #[.string { data := #[37, 70, 83, 76, 65, 88, 50, 52, 89, 50, 52, 42, 37, 37, 77, 79, 77, 77, 42, 37, 37, 65, 68, 68, 49, 48, 82, 44, 52, 88, 52, 42, 37, 68, 49, 48, 42, 88, 48, 89, 48, 68, 48, 51, 42, 77, 48, 50, 42] }, .int .i64 10] w fun e w' => e = .returned (.pointer (some ⟨w.heap.size, 0, none⟩)) ∧ w' = w.alloc (.cells #[.string { data := #[37, 70, 83, 76, 65, 88, 50, 52, 89, 50, 52, 42, 37, 37, 77, 79, 77, 77, 42, 37, 37, 65, 68, 68, 49, 48, 82, 44, 52, 88, 52, 42, 37, 68, 49, 48, 42, 88, 48, 89, 48, 68, 48, 51, 42, 77, 48, 50, 42] }, .int .i64 10, .int .u32 0, .int .i32 0, .int .u32 0, .int .i32 0, .slice none 0 0, .int .i64 0, .int .i64 0] 199) := by
  go_enter Tryz.func55, Tryz.ntmps55
  go_wp2
  go_ret
  exact ⟨rfl, rfl⟩
theorem less_sq (v1 : Value) (gl cl gp cp : Nat) (w : World) (hO : ObR w v1 gl cl gp cp) :
    Calls Tryz.prog 57 #[v1, .slice none 0 0] w fun e w' => ∃ u1 gl2 gp2 cp2, e = .returned u1 ∧ ObR w' u1 gl2 1 gp2 cp2 ∧ Below w.heap.size w w' := by
  obtain ⟨g1, cap1, rfl, lg1, a0_, a1_, a2_, a3_, a4_, a5_, a6_, a7_, a8_, a9_, a10_⟩ := hO.form
  have HO := Lib.hid hO
  clear hO
  obtain ⟨i48, hi48, hz0, hz1, hz2⟩ := info_parts info48
  have HI := Lib.hid (And.intro hi48 (And.intro hz0 (And.intro hz1 hz2)))
  have hZ : Hid ((Value.agg #[.bool false, .int .i64 0, .int .i64 0, .int .i64 0, .int .i64 0, .int .i64 0, .int .i64 0, .int .i64 0, .int .i64 0, .slice none 0 0, .slice none 0 0]).cells.size = 11) := Lib.hid (by kernel_rfl)
  clear hi48 hz0 hz1 hz2 a0_ a1_ a2_ a3_ a4_ a5_ a6_ a7_ a8_ a9_ a10_
  have hmk : ∀ w, (Instr.makeSlice 47 (.int .i64 0) (.int .i64 1)).run Tryz.prog w = .ok (.slice (some ⟨w.heap.size, 0, none⟩) 0 1) (w.alloc (.cells #[.bool false, .int .i64 0, .int .i64 0, .int .i64 0, .int .i64 0, .int .i64 0, .int .i64 0, .int .i64 0, .int .i64 0, .slice none 0 0, .slice none 0 0] 65)) := fun _ => by kernel_rfl
  go_enter Tryz.func57, Tryz.ntmps57
  go_wp2_with fail
  obtain ⟨u, eu⟩ : ∃ u, w.alloc (.cells #[.bool false, .int .i64 0, .int .i64 0, .int .i64 0, .int .i64 0, .int .i64 0, .int .i64 0, .int .i64 0, .int .i64 0, .slice none 0 0, .slice none 0 0] 65) = u := ⟨_, rfl⟩
  have B0 : Below w.heap.size w u := by rw [← eu]; exact blw
  have k0 : Blk u w.heap.size 65 #[.bool false, .int .i64 0, .int .i64 0, .int .i64 0, .int .i64 0, .int .i64 0, .int .i64 0, .int .i64 0, .int .i64 0, .slice none 0 0, .slice none 0 0] := by rw [← eu]; exact bkw
  have s0 := HO.out.below B0 (Nat.le_refl _)
  have o0 : u.ownsRow 0 65 11 (.slice (some ⟨w.heap.size, 0, none⟩) 0 1) 0 [] := ⟨rfl, .inr ⟨w.heap.size, 1, #[.bool false, .int .i64 0, .int .i64 0, .int .i64 0, .int .i64 0, .int .i64 0, .int .i64 0, .int .i64 0, .int .i64 0, .slice none 0 0, .slice none 0 0], rfl, Nat.zero_le _, k0, by omega, by decide, rfl, rfl⟩⟩
  obtain ⟨_, _, hq1, lg1', e0_, e1_, e2_, e3_, e4_, e5_, e6_, e7_, e8_, e9_, e10_⟩ := s0.form
  injection hq1 with hq1 hq2 hq3
  injection hq1 with hq1
  injection hq1 with hq1
  subst hq1 hq3
  rw [eu]
  refine wp_loop_rounds 2 ?_
  rw [rounds_succ]
  go_wp2_with fail
  obtain ⟨v, ev⟩ : ∃ v, u.alloc (.cells #[.bool true, .int .i64 2, .int .i64 0, .int .i64 0, .int .i64 0, .int .i64 0, .int .i64 0, .int .i64 0, .int .i64 0, .slice (some ⟨gl, 0, none⟩) 1 cl, .slice none 0 0] 65) = v := ⟨_, rfl⟩
  have Bv : Below w.heap.size w v := by rw [← ev]; exact B0.alloc B0.size _
  have kv0 : Blk v w.heap.size 65 #[.bool false, .int .i64 0, .int .i64 0, .int .i64 0, .int .i64 0, .int .i64 0, .int .i64 0, .int .i64 0, .int .i64 0, .slice none 0 0, .slice none 0 0] := by rw [← ev]; exact k0.alloc _
  have kvo : Blk v u.heap.size 65 #[.bool true, .int .i64 2, .int .i64 0, .int .i64 0, .int .i64 0, .int .i64 0, .int .i64 0, .int .i64 0, .int .i64 0, .slice (some ⟨gl, 0, none⟩) 1 cl, .slice none 0 0] := by rw [← ev]; exact Blk.newAt rfl
  have sv : ObR v (.slice (some ⟨g1, 0, none⟩) 1 cap1) gl cl gp cp := by rw [← ev]; exact s0.alloc _
  have ov : v.ownsRow 0 65 11 (.slice (some ⟨w.heap.size, 0, none⟩) 0 1) 0 [] := by rw [← ev]; exact o0.alloc _
  have cv := kvo.cell
  have lv := kvo.lt
  have lv0 := kv0.lt
  have KV0 := Lib.hid kv0
  have KVO := Lib.hid kvo
  have SV := Lib.hid sv
  have OV := Lib.hid ov
  have BV := Lib.hid Bv
  have bvs := Bv.size
  rw [ev]
  clear ev
  clear eu k0 s0 o0 B0 kv0 kvo sv ov Bv hmk
  go_region_law (first | (refine step_append_lies _ rfl (.tmp 22) (.tmp 29) 47 rfl 0 65 i48 _ 11 120 Tryz.underlying47 HI.out.1 HI.out.2.1 HI.out.2.2.1 HI.out.2.2.2 hZ.out (by decide) (.slice (some ⟨w.heap.size, 0, none⟩) 0 1) 0 [] (by simp [Act.eval, Act.put]) OZ.out ⟨z.heap.size, 0, none⟩ 1 1 [.bool true, .int .i64 2, .int .i64 0, .int .i64 0, .int .i64 0, .int .i64 0, .int .i64 0, .int .i64 0, .int .i64 0, .slice (some ⟨gl2, 0, none⟩) 1 1, .slice none 0 0] (by simp [Act.eval, Act.put]) rfl HNZ.out ob1 (by decide) (by decide) (by decide) (Nat.zero_le _) _ rfl ?_; intro q cq w4 hown hgrow hat hlt) | (go_simp; go_at_call 89; refine (copy_sq gl cl gp cp _ SV.out.2.drew).mono ?_; rintro e z ⟨gl2, gp2, cp2, rfl, hs2, hb⟩; have kz := KVO.out.drew.below hb lv; have cz := kz.cell; have lz := kz.lt; have kz0 := KV0.out.drew.below hb lv0; have OZ := Lib.hid ((own_below OV.out.drew hb (Nat.le_refl _)).alloc (.cells #[.bool true, .int .i64 2, .int .i64 0, .int .i64 0, .int .i64 0, .int .i64 0, .int .i64 0, .int .i64 0, .int .i64 0, .slice (some ⟨gl2, 0, none⟩) 1 1, .slice none 0 0] 65)); have hnz : ∀ j v, ([.bool true, .int .i64 2, .int .i64 0, .int .i64 0, .int .i64 0, .int .i64 0, .int .i64 0, .int .i64 0, .int .i64 0, .slice (some ⟨gl2, 0, none⟩) 1 1, .slice none 0 0] : List Value)[j]? = some v → (z.alloc (.cells #[.bool true, .int .i64 2, .int .i64 0, .int .i64 0, .int .i64 0, .int .i64 0, .int .i64 0, .int .i64 0, .int .i64 0, .slice (some ⟨gl2, 0, none⟩) 1 1, .slice none 0 0] 65)).cell? ((⟨z.heap.size, 0, none⟩ : Addr).add j) = some v := World.news_of_block (cs := #[.bool true, .int .i64 2, .int .i64 0, .int .i64 0, .int .i64 0, .int .i64 0, .int .i64 0, .int .i64 0, .int .i64 0, .slice (some ⟨gl2, 0, none⟩) 1 1, .slice none 0 0]) (Blk.newAt (w := z) rfl); have HNZ := Lib.hid hnz; clear hnz; have SZ := Lib.hid hs2; have NZ := Lib.hid (hs2.ne_blk (b := w.heap.size) (kz0.cell 0) (by intro p n c h; cases h) (by intro h; cases h)); have HBZ := Lib.hid (BV.out.drew.trans (hb.mono BV.out.size)); clear hb hs2 kz kz0))
  all_goals
    have hS4 : SqAt w4 gl2 gp2 cp2 := (SZ.out.alloc (.cells #[.bool true, .int .i64 2, .int .i64 0, .int .i64 0, .int .i64 0, .int .i64 0, .int .i64 0, .int .i64 0, .int .i64 0, .slice (some ⟨gl2, 0, none⟩) 1 1, .slice none 0 0] 65)).grown hgrow (by simpa [Value.ownBlock] using NZ.out.1) (by simpa [Value.ownBlock] using NZ.out.2)
    have hb2x : Below w.heap.size w (z.alloc (.cells #[.bool true, .int .i64 2, .int .i64 0, .int .i64 0, .int .i64 0, .int .i64 0, .int .i64 0, .int .i64 0, .int .i64 0, .slice (some ⟨gl2, 0, none⟩) 1 1, .slice none 0 0] 65)) := HBZ.out.alloc HBZ.out.size _
    have hB4 : Below w.heap.size w w4 := Below.grown hb2x hgrow (by have := HBZ.out.size; simp; omega) (by intro b hb; simp [Value.ownBlock] at hb; omega)
    have HW4 := Lib.hid hown
    have HS4 := Lib.hid hS4
    have HB4 := Lib.hid hB4
    clear hS4 hb2x hB4 hown hgrow hat hlt
    go_wp2_with fail
    rw [rounds_succ]
    go_wp2_with fail
    refine wp_loop_rounds 1 ?_
    rw [rounds_succ]
    go_wp2_with fail
    go_ret
    exact ⟨_, gl2, gp2, cp2, rfl, ⟨HW4.out, HS4.out⟩, HB4.out⟩
theorem objects_c (L : Nat) (w : World) (hL : Blk w L 199 #[.string { data := #[37, 70, 83, 76, 65, 88, 50, 52, 89, 50, 52, 42, 37, 37, 77, 79, 77, 77, 42, 37, 37, 65, 68, 68, 49, 48, 82, 44, 52, 88, 52, 42, 37, 68, 49, 48, 42, 88, 48, 89, 48, 68, 48, 51, 42, 77, 48, 50, 42] }, .int .i64 10, .int .u32 0, .int .i32 0, .int .u32 0, .int .i32 0, .slice none 0 0, .int .i64 0, .int .i64 0]) :
    Calls Tryz.prog 56 #[.pointer (some ⟨L, 0, none⟩)] w fun e w' => ∃ u1 gl gp cp, e = .returned (.tuple #[u1, .int .i64 0, .int .i64 0]) ∧ ObR w' u1 gl 1 gp cp ∧ Only [L] w w' := by
  have lL := hL.lt
  obtain ⟨v, ev⟩ : ∃ v, w.alloc (.cells #[.pointer (some ⟨L, 0, none⟩)] 134) = v := ⟨_, rfl⟩
  have kv : Blk v L 199 #[.string { data := #[37, 70, 83, 76, 65, 88, 50, 52, 89, 50, 52, 42, 37, 37, 77, 79, 77, 77, 42, 37, 37, 65, 68, 68, 49, 48, 82, 44, 52, 88, 52, 42, 37, 68, 49, 48, 42, 88, 48, 89, 48, 68, 48, 51, 42, 77, 48, 50, 42] }, .int .i64 10, .int .u32 0, .int .i32 0, .int .u32 0, .int .i32 0, .slice none 0 0, .int .i64 0, .int .i64 0] := by rw [← ev]; exact hL.alloc _
  have kq : Blk v w.heap.size 134 #[.pointer (some ⟨L, 0, none⟩)] := by rw [← ev]; exact Blk.newAt rfl
  have ov : Only [L] w v := by rw [← ev]; exact (Only.refl _ _).alloc _
  have hne : w.heap.size ≠ L := by omega
  have HO := Lib.hid (once_c L w.heap.size v kv (kq.cell 0) hne)
  have cq := kq.cell
  have lq := kq.lt
  have KQ := Lib.hid kq
  have OV := Lib.hid ov
  have EV := Lib.hid ev
  have HLS := Lib.hid less_sq
  clear hL kv kq ov ev
  go_enter Tryz.func56, Tryz.ntmps56
  go_wp2_with fail
  rw [EV.out]
  go_wp2_with fail
  refine (HO.out).mono ?_
  rintro e z ⟨rfl, g, cap, gl, gp, cp, hk, ho, hon⟩
  have jq := hon.blk KQ.out (by simpa using hne)
  have z0 : z.cell? ⟨w.heap.size, 0, none⟩ = some (.pointer (some ⟨L, 0, none⟩)) := jq.cell 0
  have z6 : z.cell? ⟨L, 6, none⟩ = some (.slice (some ⟨g, 0, none⟩) 1 cap) := hk.cell 6
  have z7 : z.cell? ⟨L, 7, none⟩ = some (.int .i64 0) := hk.cell 7
  have z8 : z.cell? ⟨L, 8, none⟩ = some (.int .i64 0) := hk.cell 8
  have lz := jq.lt
  have lz2 := hk.lt
  have HZ := Lib.hid ho
  have OZ := Lib.hid (OV.out.trans hon)
  clear jq hk ho hon cq lq
  go_wp2_with fail
  go_region_held3 (fun w' => w'.cell? ⟨w.heap.size, 0, none⟩ = some (.pointer (some ⟨L, 0, none⟩)) ∧ w'.cell? ⟨L, 6, none⟩ = some (.slice (some ⟨g, 0, none⟩) 1 cap) ∧ w'.cell? ⟨L, 7, none⟩ = some (.int .i64 0) ∧ w'.cell? ⟨L, 8, none⟩ = some (.int .i64 0))
    (first | exact ⟨z0, z6, z7, z8⟩ | exact ⟨y0, y6, y7, y8⟩)
    (first | (go_at_call 57; (with_reducible refine (HLS.out _ gl 1 gp cp z.drew HZ.out.drew).mono ?_); rintro e y ⟨u1, gl2, gp2, cp2, rfl, ho2, hb⟩; have y0 := (hb.cell (p := ⟨w.heap.size, 0, none⟩) lz).trans z0; have y6 := (hb.cell (p := ⟨L, 6, none⟩) lz2).trans z6; have y7 := (hb.cell (p := ⟨L, 7, none⟩) lz2).trans z7; have y8 := (hb.cell (p := ⟨L, 8, none⟩) lz2).trans z8; have HY := Lib.hid ho2; have OY := Lib.hid (OZ.out.drew.below hb OZ.out.size); clear ho2 hb))
  all_goals
    go_wp2_with fail
    go_ret3
    exact ⟨u1, gl2, gp2, cp2, rfl, HY.out, OY.out⟩
def ones (k : Nat) : List Value := List.replicate (2 * k) (.int .i64 1)
theorem own_own_ne2 {w : World} {B e s n B' e' s' n' b : Nat} {v v' : Value} {xs xs' : List Value} (h : w.ownsRow B e s v n xs) (h' : w.ownsRow B' e' s' v' n' xs') (hne : e ≠ e') (hb : v.ownBlock = some b) : v'.ownBlock ≠ some b := by
  intro hb'
  rcases h.2 with ⟨h1, _⟩ | ⟨g, cap, cur, h1, _, h2, _⟩
  · rw [h1] at hb; cases hb
  · rw [h1] at hb
    simp [Value.ownBlock] at hb
    subst hb
    rcases h'.2 with ⟨h3, _⟩ | ⟨g', cap', cur', h3, _, h4, _⟩
    · rw [h3] at hb'; cases hb'
    · rw [h3] at hb'
      simp [Value.ownBlock] at hb'
      subst hb'
      rw [h2] at h4
      injection h4 with h4
      injection h4 with h4 h5
      exact hne h5
structure RInv (w : World) (n0 bG M : Nat) (u1 u2 : Value) (gl cl gp cp : Nat) (vr : Value) (k : Nat) (j : Int) (W : World) : Prop where
  kv : Blk W n0 27 #[.int .i64 (-10000000), .int .i64 (-10000000), .int .i64 10000000, .int .i64 2, .int .i64 2, .int .i64 0]
  kg : Blk W bG 169 #[u1, u2]
  own : W.ownsRow w.heap.size 75 2 vr k (ones k)
  km : Blk W M 133 #[.int .i64 100, .int .i64 j]
  ob : ObR W u1 gl cl gp cp
  ex : ExR W u2
  om : Only [M] w W
  lgl : gl < w.heap.size
  lgp : gp < w.heap.size
  lM : M < w.heap.size
  n1 : gl ≠ M
  n2 : gp ≠ M
section
variable {w W W' : World} {n0 bG M : Nat} {u1 u2 vr : Value} {gl cl gp cp k : Nat} {j : Int}
theorem RInv.below (h : RInv w n0 bG M u1 u2 gl cl gp cp vr k j W) (hb : Below W.heap.size W W') : RInv w n0 bG M u1 u2 gl cl gp cp vr k j W' :=
  ⟨h.kv.below hb h.kv.lt, h.kg.below hb h.kg.lt, own_below h.own hb (Nat.le_refl _), h.km.below hb h.km.lt, h.ob.below hb (Nat.le_refl _), h.ex.below hb (Nat.le_refl _), h.om.below hb h.om.size, h.lgl, h.lgp, h.lM, h.n1, h.n2⟩
theorem RInv.alloc (h : RInv w n0 bG M u1 u2 gl cl gp cp vr k j W) (o : Obj) : RInv w n0 bG M u1 u2 gl cl gp cp vr k j (W.alloc o) := h.below ((Below.refl _ _).alloc (Nat.le_refl _) o)
theorem RInv.drew (h : RInv w n0 bG M u1 u2 gl cl gp cp vr k j W) : RInv w n0 bG M u1 u2 gl cl gp cp vr k j W.drew := h.below (Below.refl _ _).drew
theorem RInv.meter {j' : Int} (h : RInv w n0 bG M u1 u2 gl cl gp cp vr k j W) (ho : Only [M] W W') (hk : Blk W' M 133 #[.int .i64 100, .int .i64 j']) : RInv w n0 bG M u1 u2 gl cl gp cp vr k j' W' :=
  ⟨ho.blk h.kv (by simpa using h.kv.ne_ h.km (by decide)), ho.blk h.kg (by simpa using h.kg.ne_ h.km (by decide)), ho.own h.own (fun b hb hm => by simp at hm; subst hm; exact own_blk_ne h.own h.km (by decide) hb), hk,
   h.ob.only ho (by simpa using h.n1) (by simpa using h.n2) (fun b hb hm => by simp at hm; subst hm; exact own_blk_ne h.ob.1 h.km (by decide) hb),
   ho.own h.ex (fun b hb hm => by simp at hm; subst hm; exact own_blk_ne h.ex h.km (by decide) hb), h.om.trans ho, h.lgl, h.lgp, h.lM, h.n1, h.n2⟩
theorem RInv.put {v' : Value} (h : RInv w n0 bG M u1 u2 gl cl gp cp vr k j W) (hg : W.grownBy W' vr.ownBlock) (hw : W'.ownsRow w.heap.size 75 2 v' (k + 1) (ones (k + 1))) : RInv w n0 bG M u1 u2 gl cl gp cp v' (k + 1) j W' := by
  have hge : ∀ b, vr.ownBlock = some b → w.heap.size ≤ b := fun b hb => own_ge h.own hb
  have ne : ∀ {g : Nat} {t : TypeId} {cs : Array Value}, Blk W g t cs → t ≠ 75 → some g ≠ vr.ownBlock := fun hk ht e => own_blk_ne h.own hk (fun e => ht e.symm) e.symm
  refine ⟨h.kv.grown hg (ne h.kv (by decide)), h.kg.grown hg (ne h.kg (by decide)), hw, h.km.grown hg (ne h.km (by decide)), ⟨?_, h.ob.2.grown hg ?_ ?_⟩, ?_, h.om.grown hg (fun b hb => .inr (hge b hb)), h.lgl, h.lgp, h.lM, h.n1, h.n2⟩
  · exact own_same h.ob.1 fun b hb => hg.block b (own_lt h.ob.1 hb) (fun e => own_own_ne2 h.ob.1 h.own (by decide) hb e.symm)
  · intro e; have := hge _ e.symm; have := h.lgl; omega
  · intro e; have := hge _ e.symm; have := h.lgp; omega
  · exact own_same h.ex fun b hb => hg.block b (own_lt h.ex hb) (fun e => own_own_ne2 h.ex h.own (by decide) hb e.symm)
end
structure RRow (bR : Nat) (r1 r2 : Value) (gl cl gp cp : Nat) (W : World) : Prop where
  kr : Blk W bR 169 #[r1, r2]
  hr : ObR W r1 gl cl gp cp
  hx : ExR W r2
section
variable {w W W' : World} {n0 bG M bR : Nat} {u1 u2 r1 r2 vr : Value} {gl cl gp cp k : Nat} {j : Int}
theorem RRow.below (h : RRow bR r1 r2 gl cl gp cp W) (hb : Below W.heap.size W W') : RRow bR r1 r2 gl cl gp cp W' := ⟨h.kr.below hb h.kr.lt, h.hr.below hb (Nat.le_refl _), h.hx.below hb (Nat.le_refl _)⟩
theorem RRow.alloc (h : RRow bR r1 r2 gl cl gp cp W) (o : Obj) : RRow bR r1 r2 gl cl gp cp (W.alloc o) := h.below ((Below.refl _ _).alloc (Nat.le_refl _) o)
theorem RRow.drew (h : RRow bR r1 r2 gl cl gp cp W) : RRow bR r1 r2 gl cl gp cp W.drew := h.below (Below.refl _ _).drew
theorem RRow.meter (h : RRow bR r1 r2 gl cl gp cp W) (I : RInv w n0 bG M u1 u2 gl cl gp cp vr k j W) (ho : Only [M] W W') : RRow bR r1 r2 gl cl gp cp W' :=
  ⟨ho.blk h.kr (by simpa using h.kr.ne_ I.km (by decide)), h.hr.only ho (by simpa using I.n1) (by simpa using I.n2) (fun b hb hm => by simp at hm; subst hm; exact own_blk_ne h.hr.1 I.km (by decide) hb), ho.own h.hx (fun b hb hm => by simp at hm; subst hm; exact own_blk_ne h.hx I.km (by decide) hb)⟩
theorem RRow.put (h : RRow bR r1 r2 gl cl gp cp W) (I : RInv w n0 bG M u1 u2 gl cl gp cp vr k j W) (hg : W.grownBy W' vr.ownBlock) : RRow bR r1 r2 gl cl gp cp W' := by
  have hge : ∀ b, vr.ownBlock = some b → w.heap.size ≤ b := fun b hb => own_ge I.own hb
  refine ⟨h.kr.grown hg (fun e => own_blk_ne I.own h.kr (by decide) e.symm), ⟨?_, h.hr.2.grown hg ?_ ?_⟩, ?_⟩
  · exact own_same h.hr.1 fun b hb => hg.block b (own_lt h.hr.1 hb) (fun e => own_own_ne2 h.hr.1 I.own (by decide) hb e.symm)
  · intro e; have := hge _ e.symm; have := I.lgl; omega
  · intro e; have := hge _ e.symm; have := I.lgp; omega
  · exact own_same h.hx fun b hb => hg.block b (own_lt h.hx hb) (fun e => own_own_ne2 h.hx I.own (by decide) hb e.symm)
end
theorem RInv.one {w W W' : World} {n0 bG M A : Nat} {u1 u2 vr : Value} {gl cl gp cp k : Nat} {j : Int} {cs : Array Value} (h : RInv w n0 bG M u1 u2 gl cl gp cp vr k j W) (ho : Only [A] W W') (kA : Blk W A 75 cs) (hne : vr.ownBlock ≠ some A) (hge : w.heap.size ≤ A) : RInv w n0 bG M u1 u2 gl cl gp cp vr k j W' :=
  ⟨ho.blk h.kv (by simpa using h.kv.ne_ kA (by decide)), ho.blk h.kg (by simpa using h.kg.ne_ kA (by decide)), ho.own h.own (fun b hb hm => by simp at hm; subst hm; exact hne hb), ho.blk h.km (by simpa using h.km.ne_ kA (by decide)),
   h.ob.only ho (by have := h.lgl; simp; omega) (by have := h.lgp; simp; omega) (fun b hb hm => by simp at hm; subst hm; exact own_blk_ne h.ob.1 kA (by decide) hb),
   ho.own h.ex (fun b hb hm => by simp at hm; subst hm; exact own_blk_ne h.ex kA (by decide) hb), h.om.then_ ho (by intro b hb; simp at hb; subst hb; right; exact hge), h.lgl, h.lgp, h.lM, h.n1, h.n2⟩
theorem RRow.one {w W W' : World} {n0 bG M A bR : Nat} {u1 u2 r1 r2 vr : Value} {gl cl gp cp k : Nat} {j : Int} {cs : Array Value} (h : RRow bR r1 r2 gl cl gp cp W) (I : RInv w n0 bG M u1 u2 gl cl gp cp vr k j W) (ho : Only [A] W W') (kA : Blk W A 75 cs) (hge : w.heap.size ≤ A) : RRow bR r1 r2 gl cl gp cp W' :=
  ⟨ho.blk h.kr (by simpa using h.kr.ne_ kA (by decide)), h.hr.only ho (by have := I.lgl; simp; omega) (by have := I.lgp; simp; omega) (fun b hb hm => by simp at hm; subst hm; exact own_blk_ne h.hr.1 kA (by decide) hb), ho.own h.hx (fun b hb hm => by simp at hm; subst hm; exact own_blk_ne h.hx kA (by decide) hb)⟩
end Go.Proofs.YtfajckkbinbpiaaGreatDoor
