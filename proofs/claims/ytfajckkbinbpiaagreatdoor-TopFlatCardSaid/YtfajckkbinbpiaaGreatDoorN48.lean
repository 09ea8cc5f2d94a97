/- Walks: a layer of the board, the one of the disc that is drawn in the end. Walk: the disc that is drawn in the end. -/
import Derived.Test.YtfajckkbinbpiaaGreatDoorN33
import Derived.Test.YtfajckkbinbpiaaGreatDoorN35
import Derived.Test.YtfajckkbinbpiaaGreatDoorN41
import Derived.Test.YtfajckkbinbpiaaGreatDoorN46
import Derived.Test.YtfajckkbinbpiaaGreatDoorN47
namespace Go.Proofs.YtfajckkbinbpiaaGreatDoor
set_option maxRecDepth 100000
set_option maxHeartbeats 32000000
set_option linter.unusedVariables false
set_option linter.unusedSimpArgs false
open Go.RowKit
def sqL : List (List Geo.Pt) := [[(-20000000, -20000000), (20000000, -20000000), (20000000, 20000000), (-20000000, 20000000)]]
theorem sq_walk (L : Value) : walkPx 100 0 ((reachL [((true, Geo.Sh.poly sqL), L)]).map (·.1)) (pxsOf (-10000000) (-10000000) 10000000 2 2) [] 0 = (some [(1, 1), (1, 1), (1, 1), (1, 1)], 4) := by kernel_rfl
theorem sq_ok : ShOk (Geo.Sh.poly sqL) := by
  refine ⟨fun c hc p hp => ?_, by decide, by decide⟩
  simp only [sqL, List.mem_cons, List.not_mem_nil, or_false] at hc
  subst hc
  simp only [List.mem_cons, List.not_mem_nil, or_false] at hp
  rcases hp with rfl | rfl | rfl | rfl <;> decide
theorem ObR.objs {w : World} {v : Value} {gl cl gp cp M : Nat} (h : ObR w v gl cl gp cp) (n1 : gl ≠ M) (n2 : gp ≠ M) (n3 : v.ownBlock ≠ some M) : ObjsAt [M] w v [((true, Geo.Sh.poly sqL), .slice (some ⟨gl, 0, none⟩) 1 cl)] := by
  have lgl := h.2.lt1
  have lgp := h.2.lt2
  obtain ⟨g, cap, he, _, hg⟩ := h.1.form (by omega)
  subst he
  refine ⟨⟨some ⟨g, 0, none⟩, cap, rfl, fun _ => ⟨g, rfl, ?_, hg, fun k j u hk hj hu => ?_⟩⟩, ?_⟩
  · simp [Value.ownBlock] at n3
    simpa using n3
  · simp only [List.length_cons, List.length_nil] at hk
    obtain rfl : k = 0 := by omega
    rw [h.1.cellAt (0 * 11 + j) (by omega)]
    exact hu
  · intro o ho
    simp only [List.mem_cons, List.not_mem_nil, or_false] at ho
    subst ho
    refine ⟨some ⟨gl, 0, none⟩, cl, rfl, fun _ => ⟨gl, rfl, by simpa using n1, lgl, fun i hi => ?_⟩⟩
    obtain rfl : i = 0 := by simp [sqL] at hi; omega
    refine ⟨.slice (some ⟨gp, 0, none⟩) 4 cp, h.2.1, some ⟨gp, 0, none⟩, cp, rfl, fun _ => ⟨gp, rfl, by simpa using n2, lgp, fun j hj => ?_⟩⟩
    have hj4 : j < 4 := hj
    rcases (show j = 0 ∨ j = 1 ∨ j = 2 ∨ j = 3 by omega) with rfl | rfl | rfl | rfl
    · exact ⟨h.2.2 0 _ rfl, h.2.2 1 _ rfl⟩
    · exact ⟨h.2.2 2 _ rfl, h.2.2 3 _ rfl⟩
    · exact ⟨h.2.2 4 _ rfl, h.2.2 5 _ rfl⟩
    · exact ⟨h.2.2 6 _ rfl, h.2.2 7 _ rfl⟩
theorem sq_vok : VOk (-10000000) (-10000000) 10000000 ((2 : Nat) : Int) ((2 : Nat) : Int) ((0 : Nat) : Int) 1 := by constructor <;> omega
def sqOnes (k : Nat) : List Value := List.replicate (2 * k) (.int .i64 1)
theorem sq_ones : sqOnes 4 = covC2 [(1, 1), (1, 1), (1, 1), (1, 1)] := by rfl
theorem rrender_sq2 (M : Nat) (v1 : Value) (gl cl gp cp : Nat) (w : World) (hO : ObR w v1 gl cl gp cp) (hM : Blk w M 133 #[.int .i64 100, .int .i64 0]) :
    Calls Tryz.prog 46 #[v1, .agg #[.int .i64 (-10000000), .int .i64 (-10000000), .int .i64 10000000, .int .i64 2, .int .i64 2, .int .i64 0], .pointer (some ⟨M, 0, none⟩)] w fun e w' => ∃ vr, e = .returned (.tuple #[vr, .int .i64 0]) ∧ w'.ownsRow w.heap.size 75 2 vr 4 (sqOnes 4) ∧ Only [M] w w' := by
  obtain ⟨n1, n2⟩ := hO.2.ne_meter hM
  have n3 := own_blk_ne hO.1 hM (by decide)
  refine (rrender_c 100 0 M (-10000000) (-10000000) 10000000 1 2 2 0 v1 _ w sq_vok (hO.objs n1 n2 n3) (by simp) (by
    intro o ho
    simp only [List.mem_cons, List.not_mem_nil, or_false] at ho
    subst ho
    exact sq_ok) hM (by omega) (by omega)).mono ?_
  rintro e w' ⟨r, a1, hw, hk, hon, hm⟩
  rw [sq_walk] at hw
  simp only [Prod.mk.injEq] at hw
  obtain ⟨rfl, rfl⟩ := hw
  obtain ⟨gv, cv, he, _, hown⟩ := hm
  exact ⟨_, he, by rw [sq_ones]; exact hown, hon⟩
theorem cover_c (g M : Nat) (w : World) (hG : Blk w g 34 #[.string { data := #[37, 70, 83, 76, 65, 88, 50, 52, 89, 50, 52, 42, 37, 37, 77, 79, 77, 77, 42, 37, 37, 65, 68, 68, 49, 48, 82, 44, 52, 88, 52, 42, 37, 68, 49, 48, 42, 88, 48, 89, 48, 68, 48, 51, 42, 77, 48, 50, 42] }, .int .i64 9, .int .i64 0, .int .i64 0, .int .i64 255, .bool false]) (hM : Blk w M 133 #[.int .i64 100, .int .i64 0]) :
    Calls Tryz.prog 31 #[.agg #[.int .i64 (-10000000), .int .i64 (-10000000), .int .i64 10000000, .int .i64 2, .int .i64 2, .int .i64 0, .slice (some ⟨g, 0, none⟩) 1 1, .slice none 0 0, .int .i64 0, .int .i64 0, .int .i64 0, .int .i64 10, .int .i64 100], .int .i64 0, .slice none 0 0, .pointer (some ⟨M, 0, none⟩)] w fun e w' => ∃ vr, e = .returned (.tuple #[vr, .agg #[.int .i64 0, .int .i64 0, .int .i64 0, .int .i64 0]]) ∧ w'.ownsRow w.heap.size 75 2 vr 4 (sqOnes 4) ∧ Only [M] w w' := by
  have cG := hG.cell
  have lG := hG.lt
  have lM := hM.lt
  have HM := Lib.hid hM
  have HN := Lib.hid newLayer_c
  have HO := Lib.hid objects_c
  have HR := Lib.hid rrender_sq2
  obtain ⟨u, eu⟩ : ∃ u, ((w.alloc (.cells #[.int .i64 (-10000000), .int .i64 (-10000000), .int .i64 10000000, .int .i64 2, .int .i64 2, .int .i64 0, .slice (some ⟨g, 0, none⟩) 1 1, .slice none 0 0, .int .i64 0, .int .i64 0, .int .i64 0, .int .i64 10, .int .i64 100] 31)).alloc (.cells #[.int .i64 0, .int .i64 0, .int .i64 0, .int .i64 0] 40)).alloc (.cells #[.string { data := #[37, 70, 83, 76, 65, 88, 50, 52, 89, 50, 52, 42, 37, 37, 77, 79, 77, 77, 42, 37, 37, 65, 68, 68, 49, 48, 82, 44, 52, 88, 52, 42, 37, 68, 49, 48, 42, 88, 48, 89, 48, 68, 48, 51, 42, 77, 48, 50, 42] }, .int .i64 9, .int .i64 0, .int .i64 0, .int .i64 255, .bool false] 34) = u := ⟨_, rfl⟩
  have B0 : Below w.heap.size w u := by rw [← eu]; exact blw
  have kj : Blk u w.heap.size 31 #[.int .i64 (-10000000), .int .i64 (-10000000), .int .i64 10000000, .int .i64 2, .int .i64 2, .int .i64 0, .slice (some ⟨g, 0, none⟩) 1 1, .slice none 0 0, .int .i64 0, .int .i64 0, .int .i64 0, .int .i64 10, .int .i64 100] := by rw [← eu]; exact bkw
  have kf : Blk u (w.heap.size + 1) 40 #[.int .i64 0, .int .i64 0, .int .i64 0, .int .i64 0] := by rw [← eu]; exact bkw
  have kl : Blk u (w.heap.size + 1 + 1) 34 #[.string { data := #[37, 70, 83, 76, 65, 88, 50, 52, 89, 50, 52, 42, 37, 37, 77, 79, 77, 77, 42, 37, 37, 65, 68, 68, 49, 48, 82, 44, 52, 88, 52, 42, 37, 68, 49, 48, 42, 88, 48, 89, 48, 68, 48, 51, 42, 77, 48, 50, 42] }, .int .i64 9, .int .i64 0, .int .i64 0, .int .i64 255, .bool false] := by rw [← eu]; exact bkw
  have km : Blk u M 133 #[.int .i64 100, .int .i64 0] := HM.out.below B0 lM
  have HJ := Lib.hid kj
  have HF := Lib.hid kf
  have HL := Lib.hid kl
  have HKM := Lib.hid km
  have HB0 := Lib.hid B0
  have EU := Lib.hid eu
  clear hG hM eu B0 kj kf kl km
  go_enter Tryz.func31, Tryz.ntmps31
  go_wp2_with fail
  rw [EU.out]
  refine (HN.out u).mono ?_
  rintro e w1 ⟨rfl, rfl⟩
  obtain ⟨v, ev⟩ : ∃ v, u.alloc (.cells #[.string { data := #[37, 70, 83, 76, 65, 88, 50, 52, 89, 50, 52, 42, 37, 37, 77, 79, 77, 77, 42, 37, 37, 65, 68, 68, 49, 48, 82, 44, 52, 88, 52, 42, 37, 68, 49, 48, 42, 88, 48, 89, 48, 68, 48, 51, 42, 77, 48, 50, 42] }, .int .i64 10, .int .u32 0, .int .i32 0, .int .u32 0, .int .i32 0, .slice none 0 0, .int .i64 0, .int .i64 0] 199) = v := ⟨_, rfl⟩
  have kL : Blk v u.heap.size 199 #[.string { data := #[37, 70, 83, 76, 65, 88, 50, 52, 89, 50, 52, 42, 37, 37, 77, 79, 77, 77, 42, 37, 37, 65, 68, 68, 49, 48, 82, 44, 52, 88, 52, 42, 37, 68, 49, 48, 42, 88, 48, 89, 48, 68, 48, 51, 42, 77, 48, 50, 42] }, .int .i64 10, .int .u32 0, .int .i32 0, .int .u32 0, .int .i32 0, .slice none 0 0, .int .i64 0, .int .i64 0] := by rw [← ev]; exact Blk.newAt rfl
  have oV : Only [] u v := by rw [← ev]; exact (Only.refl _ _).alloc _
  rw [ev]
  have OV := Lib.hid oV
  have KL := Lib.hid kL
  clear ev oV kL cG lG
  go_wp2_with fail
  refine (HO.out u.heap.size v KL.out).mono ?_
  rintro e z ⟨u1, gl, gp, cp, rfl, ho, hon⟩
  have oz : Only [u.heap.size] u z := (OV.out.mono (by simp)).trans hon
  have jj := oz.blk HJ.out (by have := HJ.out.lt; simp; omega)
  have jf := oz.blk HF.out (by have := HF.out.lt; simp; omega)
  have jl := oz.blk HL.out (by have := HL.out.lt; simp; omega)
  have jm := oz.blk HKM.out (by have := HKM.out.lt; simp; omega)
  have hBz : Below w.heap.size w z := HB0.out.trans (oz.toBelow HB0.out.size (by have := HB0.out.size; simp; omega))
  have cj := jj.cell
  have lj := jj.lt
  have cl := jl.cell
  have ll := jl.lt
  have JF := Lib.hid jf
  have JM := Lib.hid jm
  have HZ := Lib.hid ho
  have HBZ := Lib.hid hBz
  clear hon oz jj jf jl jm ho hBz
  go_wp2_with fail
  refine (HR.out M u1 gl 1 gp cp z HZ.out JM.out).mono ?_
  rintro e y ⟨vr, rfl, hv, hon⟩
  obtain ⟨rp, rc, rfl⟩ := own_form hv
  have yf := hon.blk JF.out (by simpa using JF.out.ne_ JM.out (by decide))
  have cf := yf.cell
  have ff := yf.frozen
  have lf := yf.lt
  have YF := Lib.hid yf
  have HV := Lib.hid hv
  have ON := Lib.hid hon
  clear yf hv hon cj lj cl ll
  go_wp2_with fail
  obtain ⟨x, ex⟩ : ∃ x, (((y.setCell ⟨w.heap.size + 1, 0, none⟩ (.int .i64 0)).setCell ⟨w.heap.size + 1, 1, none⟩ (.int .i64 0)).setCell ⟨w.heap.size + 1, 2, none⟩ (.int .i64 0)).setCell ⟨w.heap.size + 1, 3, none⟩ (.int .i64 0) = x := ⟨_, rfl⟩
  have kx : Blk x (w.heap.size + 1) 40 #[.int .i64 0, .int .i64 0, .int .i64 0, .int .i64 0] := by rw [← ex]; exact (((YF.out.set_ 0 _ rfl).set_ 1 _ rfl).set_ 2 _ rfl).set_ 3 _ rfl
  have ox : Only [w.heap.size + 1] y x := by rw [← ex]; exact ((((Only.refl _ _).setCell (by simp) _).setCell (by simp) _).setCell (by simp) _).setCell (by simp) _
  have hvx := own_mono (ox.own HV.out (fun b hb hm => by simp at hm; subst hm; exact own_blk_ne HV.out YF.out (by decide) hb)) HBZ.out.size
  have onx : Only [M] w x := ((Only.of_below HBZ.out (Nat.le_refl _) [M]).trans ON.out).then_ ox (by intro b hb; simp at hb; subst hb; right; omega)
  have cx := kx.cell
  rw [ex]
  clear cf ff lf ex
  exact bodyPost_ret (v := .tuple #[.slice rp 4 rc, .agg #[.int .i64 0, .int .i64 0, .int .i64 0, .int .i64 0]]) (by simp [results, Tryz.results31, go_sem, cx]) rfl ⟨.slice rp 4 rc, rfl, hvx, onx⟩
theorem sq_bytes : pixB (ovT 0 0 0 9 0 0 255 ((4 ^ 0 : Nat) : Int) [(1, 1), (1, 1), (1, 1), (1, 1)]) 12 = [.int .u8 9, .int .u8 0, .int .u8 0, .int .u8 9, .int .u8 0, .int .u8 0, .int .u8 9, .int .u8 0, .int .u8 0, .int .u8 9, .int .u8 0, .int .u8 0] := by rfl
theorem render_c (g : Nat) (w : World) (hG : Blk w g 34 #[.string { data := #[37, 70, 83, 76, 65, 88, 50, 52, 89, 50, 52, 42, 37, 37, 77, 79, 77, 77, 42, 37, 37, 65, 68, 68, 49, 48, 82, 44, 52, 88, 52, 42, 37, 68, 49, 48, 42, 88, 48, 89, 48, 68, 48, 51, 42, 77, 48, 50, 42] }, .int .i64 9, .int .i64 0, .int .i64 0, .int .i64 255, .bool false]) :
    Calls Tryz.prog 9 #[.agg #[.int .i64 (-10000000), .int .i64 (-10000000), .int .i64 10000000, .int .i64 2, .int .i64 2, .int .i64 0, .slice (some ⟨g, 0, none⟩) 1 1, .slice none 0 0, .int .i64 0, .int .i64 0, .int .i64 0, .int .i64 10, .int .i64 100]] w fun e w' => ∃ vp, e = .returned (.tuple #[.agg #[.int .i64 2, .int .i64 2, .bool true, vp], .agg #[.int .i64 0, .int .i64 0, .int .i64 0, .int .i64 0]]) ∧ w'.ownsRow w.heap.size 5 1 vp 12 [.int .u8 9, .int .u8 0, .int .u8 0, .int .u8 9, .int .u8 0, .int .u8 0, .int .u8 9, .int .u8 0, .int .u8 0, .int .u8 9, .int .u8 0, .int .u8 0] ∧ Below w.heap.size w w' := by
  have h := brender_ok (-10000000) (-10000000) 10000000 1 2 2 0 g 0 0 0 10 100 9 0 0 255 { data := #[37, 70, 83, 76, 65, 88, 50, 52, 89, 50, 52, 42, 37, 37, 77, 79, 77, 77, 42, 37, 37, 65, 68, 68, 49, 48, 82, 44, 52, 88, 52, 42, 37, 68, 49, 48, 42, 88, 48, 89, 48, 68, 48, 51, 42, 77, 48, 50, 42] } [(1, 1), (1, 1), (1, 1), (1, 1)] w sq_vok (by constructor <;> omega) (by constructor <;> omega) (by constructor <;> omega) (by constructor <;> omega) (by constructor <;> omega) (by constructor <;> omega) (by constructor <;> omega) hG
    (fun w M hL hM => (cover_c g M w hL hM).mono (by
      rintro e w' ⟨vr, h1, h2, h3⟩
      exact ⟨vr, h1, by rw [sq_ones] at h2; exact h2, h3⟩)) rfl (by
      intro c hc
      simp only [List.mem_cons, List.not_mem_nil, or_false, or_self] at hc
      subst hc
      decide)
  exact h.mono (by
    rintro e w' ⟨gp, cp, h1, h2, h3⟩
    exact ⟨_, h1, by rw [← sq_bytes]; exact h2, h3⟩)
theorem awake_c (w : World) : Calls Tryz.prog 11 #[] w fun e w' => e = .returned (.bool true) ∧ Below w.heap.size w w' := by
  obtain ⟨u, eu⟩ : ∃ u, (w.alloc (.cells #[.string { data := #[37, 70, 83, 76, 65, 88, 50, 52, 89, 50, 52, 42, 37, 37, 77, 79, 77, 77, 42, 37, 37, 65, 68, 68, 49, 48, 82, 44, 52, 88, 52, 42, 37, 68, 49, 48, 42, 88, 48, 89, 48, 68, 48, 51, 42, 77, 48, 50, 42] }, .int .i64 9, .int .i64 0, .int .i64 0, .int .i64 255, .bool false] 34)).alloc (.cells #[.int .i64 (-10000000), .int .i64 (-10000000), .int .i64 10000000, .int .i64 2, .int .i64 2, .int .i64 0, .slice (some ⟨w.heap.size, 0, none⟩) 1 1, .slice none 0 0, .int .i64 0, .int .i64 0, .int .i64 0, .int .i64 10, .int .i64 100] 31) = u := ⟨_, rfl⟩
  have om : Below w.heap.size w u := by rw [← eu]; exact blw
  have kG : Blk u w.heap.size 34 #[.string { data := #[37, 70, 83, 76, 65, 88, 50, 52, 89, 50, 52, 42, 37, 37, 77, 79, 77, 77, 42, 37, 37, 65, 68, 68, 49, 48, 82, 44, 52, 88, 52, 42, 37, 68, 49, 48, 42, 88, 48, 89, 48, 68, 48, 51, 42, 77, 48, 50, 42] }, .int .i64 9, .int .i64 0, .int .i64 0, .int .i64 255, .bool false] := by rw [← eu]; exact bkw
  have EU := Lib.hid eu
  have HR := Lib.hid (render_c w.heap.size u kG)
  clear eu kG
  go_enter Tryz.func11, Tryz.ntmps11
  go_wp2_with fail
  rw [EU.out]
  refine (HR.out).mono ?_
  rintro e z ⟨vp, rfl, hv, hb⟩
  obtain ⟨gp, cp, rfl, _, lgp⟩ := hv.form (by omega)
  have p0 : z.cell? ⟨gp, 0, none⟩ = some (.int .u8 9) := by rw [hv.cellAt 0 (by omega)]; rfl
  have p1 : z.cell? ⟨gp, 1, none⟩ = some (.int .u8 0) := by rw [hv.cellAt 1 (by omega)]; rfl
  have p9 : z.cell? ⟨gp, 9, none⟩ = some (.int .u8 9) := by rw [hv.cellAt 9 (by omega)]; rfl
  have lgp2 : gp < z.heap.size + 1 := by omega
  have hB : Below w.heap.size w z := om.trans (hb.mono om.size)
  have hs := hB.size
  clear hv hb om
  go_wp2_with fail
  go_ret
  exact ⟨rfl, by exact blw⟩
end Go.Proofs.YtfajckkbinbpiaaGreatDoor
