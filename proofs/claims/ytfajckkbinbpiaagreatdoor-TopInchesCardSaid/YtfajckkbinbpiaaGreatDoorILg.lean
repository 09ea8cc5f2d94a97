/- Walk: the cover of a layer without contours. -/
import Derived.Test.YtfajckkbinbpiaaGreatDoorJ27
import Derived.Test.YtfajckkbinbpiaaGreatDoorJ34
import Derived.Test.YtfajckkbinbpiaaGreatDoorJ35
import Derived.Test.YtfajckkbinbpiaaGreatDoorJ40
namespace Go.Proofs.YtfajckkbinbpiaaGreatDoor
open Go.RowKit
set_option linter.unusedVariables false
set_option linter.unusedSimpArgs false

/-- A drawn thing as an object. -/
def IOb.sh : IOb → Geo.Sh
  | .disc x y => .disc x y 6350000
  | .line x y a b => .line x y a b 6350000
def IOb.obj (o : IOb) : Obj2 := ((true, o.sh), .slice none 0 0)
def IOb.Ok : IOb → Prop
  | .disc x y => (0 ≤ x ∧ x ≤ 230000000) ∧ (0 ≤ y ∧ y ≤ 230000000)
  | .line x y a b => (0 ≤ x ∧ x ≤ 230000000) ∧ (0 ≤ y ∧ y ≤ 230000000) ∧ (0 ≤ a ∧ a ≤ 230000000) ∧ (0 ≤ b ∧ b ≤ 230000000)
theorem IOb.cells_obj (o : IOb) : oCells o.obj = o.cells := by cases o <;> rfl
theorem iocells_obj (L : List IOb) : (L.map IOb.obj).flatMap oCells = iocells L := by
  rw [List.flatMap_map]
  unfold iocells
  congr 1
  funext o
  exact o.cells_obj
theorem IOb.shok {o : IOb} (h : o.Ok) : ShOk o.sh := by
  cases o with
  | disc x y =>
    obtain ⟨⟨h1, h2⟩, h3, h4⟩ := h
    exact ⟨⟨by omega, by omega⟩, ⟨by omega, by omega⟩, by omega, by omega⟩
  | line x y a b =>
    obtain ⟨⟨h1, h2⟩, ⟨h3, h4⟩, ⟨h5, h6⟩, h7, h8⟩ := h
    exact ⟨⟨by omega, by omega⟩, ⟨by omega, by omega⟩, ⟨by omega, by omega⟩, ⟨by omega, by omega⟩, by omega, by omega⟩
theorem iobjs_at {w : World} {B M : Nat} {v : Value} {L : List IOb} {t : TypeId} {cs : Array Value} (h : w.ownsRow B 65 11 v L.length (iocells L)) (hM : Blk w M t cs) (ht : 65 ≠ t) : ObjsAt [M] w v (L.map IOb.obj) := by
  have hne := own_blk_ne h hM ht
  obtain ⟨p, c, rfl⟩ := own_form h
  refine ⟨⟨p, c, by simp, fun hn => ?_⟩, fun o ho => ?_⟩
  · obtain ⟨g, cap, he, _, hg⟩ := h.form (by simpa using hn)
    injection he with he1 he2 he3
    subst he1 he3
    refine ⟨g, rfl, by simpa [Value.ownBlock] using hne, hg, fun k j u hk hj hu => ?_⟩
    rw [List.length_map] at hk
    rw [iocells_obj] at hu
    rw [h.cellAt (k * 11 + j) (by omega)]
    exact hu
  · obtain ⟨a, _, rfl⟩ := List.mem_map.1 ho
    cases a <;> exact True.intro
set_option maxRecDepth 100000 in
set_option maxHeartbeats 16000000 in
theorem cover_i (X Y P k : Int) (W H n : Nat) (g : Nat) (k0 k1 k2 ob st : Int) (cr cg cb al : Int) (T : ByteArray) (L : List IOb) (M : Nat) (most : Int) (w : World) (hv : VOk X Y P W H n k) (hF : ∀ w, Calls Tryz.prog 13 #[.string T, .int .i64 ob] w fun e w' => ∃ v0, e = .returned (.tuple #[v0, .int .i64 0, .int .i64 0]) ∧ w'.ownsRow w.heap.size 65 11 v0 L.length (iocells L) ∧ Below w.heap.size w w') (hl : L.length ≤ 1000) (hs : ∀ o ∈ L, o.Ok) (hG : Blk w g 34 #[.string T, .int .i64 cr, .int .i64 cg, .int .i64 cb, .int .i64 al, .bool false]) (hM : Blk w M 133 #[.int .i64 most, .int .i64 0]) :
    Calls Tryz.prog 31 #[.agg #[.int .i64 X, .int .i64 Y, .int .i64 P, .int .i64 (W : Int), .int .i64 (H : Int), .int .i64 (n : Int), .slice (some ⟨g, 0, none⟩) 1 1, .slice none 0 0, .int .i64 k0, .int .i64 k1, .int .i64 k2, .int .i64 ob, .int .i64 st], .int .i64 0, .slice none 0 0, .pointer (some ⟨M, 0, none⟩)] w fun e w' => ∃ r a1, walkPx most n ((reachL (L.map IOb.obj)).map (·.1)) (pxsOf X Y P W H) [] 0 = (r, a1) ∧ Only [M] w w' ∧
      (match r with
      | none => e = .returned (.tuple #[.slice none 0 0, .agg #[.int .i64 1, .int .i64 0, .int .i64 0, .int .i64 6]])
      | some acc => ∃ vr, e = .returned (.tuple #[vr, .agg #[.int .i64 0, .int .i64 0, .int .i64 0, .int .i64 0]]) ∧ acc.length = W * H ∧ w'.ownsRow w.heap.size 75 2 vr (W * H) (covC2 acc)) := by
  have cG := hG.cell
  have lG := hG.lt
  have lM := hM.lt
  have HM := Lib.hid hM
  have HN := Lib.hid (fun w => inewLayer_c T ob w)
  have HO := Lib.hid (iobjects_c T ob L.length (iocells L) hF (fun v w h => less_i v L w h hl))
  have HR := Lib.hid (fun v w h1 h2 => rrender_c most 0 M X Y P k W H n v (L.map IOb.obj) w hv h1 (by simp; omega) (by
    intro o ho
    obtain ⟨a, ha, rfl⟩ := List.mem_map.1 ho
    exact IOb.shok (hs a ha)) h2 (by omega) (by omega))
  obtain ⟨WR, eWR⟩ : ∃ x, walkPx most n ((reachL (L.map IOb.obj)).map (·.1)) (pxsOf X Y P W H) [] 0 = x := ⟨_, rfl⟩
  rw [eWR] at HR ⊢
  obtain ⟨XS, eXS⟩ : ∃ x, iocells L = x := ⟨_, rfl⟩
  have HAT := Lib.hid (fun (w : World) B v h h2 => @iobjs_at w B M v L 133 #[.int .i64 most, .int .i64 0] h h2 (by decide))
  obtain ⟨u, eu⟩ : ∃ u, ((w.alloc (.cells #[.int .i64 X, .int .i64 Y, .int .i64 P, .int .i64 (W : Int), .int .i64 (H : Int), .int .i64 (n : Int), .slice (some ⟨g, 0, none⟩) 1 1, .slice none 0 0, .int .i64 k0, .int .i64 k1, .int .i64 k2, .int .i64 ob, .int .i64 st] 31)).alloc (.cells #[.int .i64 0, .int .i64 0, .int .i64 0, .int .i64 0] 40)).alloc (.cells #[.string T, .int .i64 cr, .int .i64 cg, .int .i64 cb, .int .i64 al, .bool false] 34) = u := ⟨_, rfl⟩
  have B0 : Below w.heap.size w u := by rw [← eu]; (repeat' (first | (with_reducible exact Below.refl _ _) | (with_reducible assumption) | (with_reducible refine below_drewN ?_ _) | (with_reducible refine Below.drew ?_) | (with_reducible refine Below.alloc ?_ ?_ _) | (with_reducible refine Below.setCell ?_ ?_ _) | omega | (simp; done) | (simp; omega)))
  have kj : Blk u w.heap.size 31 #[.int .i64 X, .int .i64 Y, .int .i64 P, .int .i64 (W : Int), .int .i64 (H : Int), .int .i64 (n : Int), .slice (some ⟨g, 0, none⟩) 1 1, .slice none 0 0, .int .i64 k0, .int .i64 k1, .int .i64 k2, .int .i64 ob, .int .i64 st] := by rw [← eu]; (repeat' (first | (with_reducible assumption) | (with_reducible exact Blk.new _ _ _) | (exact Blk.newAt (by first | rfl | (simp; done) | omega)) | (with_reducible refine Blk.drewN ?_ _) | (with_reducible refine Blk.drew ?_) | (with_reducible refine Blk.alloc ?_ _) | (with_reducible apply Blk.set_) | (with_reducible refine Blk.far ?_ ?_ _) | rfl | omega | (simp; done) | (simp; omega)))
  have kf : Blk u (w.heap.size + 1) 40 #[.int .i64 0, .int .i64 0, .int .i64 0, .int .i64 0] := by rw [← eu]; (repeat' (first | (with_reducible assumption) | (with_reducible exact Blk.new _ _ _) | (exact Blk.newAt (by first | rfl | (simp; done) | omega)) | (with_reducible refine Blk.drewN ?_ _) | (with_reducible refine Blk.drew ?_) | (with_reducible refine Blk.alloc ?_ _) | (with_reducible apply Blk.set_) | (with_reducible refine Blk.far ?_ ?_ _) | rfl | omega | (simp; done) | (simp; omega)))
  have kl : Blk u (w.heap.size + 1 + 1) 34 #[.string T, .int .i64 cr, .int .i64 cg, .int .i64 cb, .int .i64 al, .bool false] := by rw [← eu]; (repeat' (first | (with_reducible assumption) | (with_reducible exact Blk.new _ _ _) | (exact Blk.newAt (by first | rfl | (simp; done) | omega)) | (with_reducible refine Blk.drewN ?_ _) | (with_reducible refine Blk.drew ?_) | (with_reducible refine Blk.alloc ?_ _) | (with_reducible apply Blk.set_) | (with_reducible refine Blk.far ?_ ?_ _) | rfl | omega | (simp; done) | (simp; omega)))
  have km : Blk u M 133 #[.int .i64 most, .int .i64 0] := HM.out.below B0 lM
  have HJ := Lib.hid kj
  have HFF := Lib.hid kf
  have HL := Lib.hid kl
  have HKM := Lib.hid km
  have HB0 := Lib.hid B0
  have EU := Lib.hid eu
  clear hG hM eu B0 kj kf kl km hF hs eWR hv eXS
  go_enter Tryz.func31, Tryz.ntmps31
  go_wp2_with fail
  rw [EU.out]
  refine (HN.out u).mono ?_
  rintro e w1 ⟨rfl, rfl⟩
  obtain ⟨v, ev⟩ : ∃ v, u.alloc (.cells #[.string T, .int .i64 ob, .int .u32 0, .int .i32 0, .int .u32 0, .int .i32 0, .slice none 0 0, .int .i64 0, .int .i64 0] 199) = v := ⟨_, rfl⟩
  have kL : Blk v u.heap.size 199 #[.string T, .int .i64 ob, .int .u32 0, .int .i32 0, .int .u32 0, .int .i32 0, .slice none 0 0, .int .i64 0, .int .i64 0] := by rw [← ev]; exact Blk.newAt rfl
  have oV : Only [] u v := by rw [← ev]; exact (Only.refl _ _).alloc _
  rw [ev]
  have OV := Lib.hid oV
  have KL := Lib.hid kL
  clear ev oV kL cG lG
  go_wp2_with fail
  refine (HO.out u.heap.size v KL.out).mono ?_
  rintro e z ⟨u1, rfl, ho, hon⟩
  have oz : Only [u.heap.size] u z := (OV.out.mono (by simp)).trans hon
  have jj := oz.blk HJ.out (by have := HJ.out.lt; simp; omega)
  have jf := oz.blk HFF.out (by have := HFF.out.lt; simp; omega)
  have jl := oz.blk HL.out (by have := HL.out.lt; simp; omega)
  have jm := oz.blk HKM.out (by have := HKM.out.lt; simp; omega)
  have hBz : Below w.heap.size w z := HB0.out.trans (oz.toBelow HB0.out.size (by have := HB0.out.size; simp; omega))
  have hat := HAT.out z _ u1 ho jm
  have cj := jj.cell
  have lj := jj.lt
  have cl := jl.cell
  have ll := jl.lt
  have JF := Lib.hid jf
  have JM := Lib.hid jm
  have HZ := Lib.hid hat
  have HBZ := Lib.hid hBz
  clear hon oz jj jf jl jm ho hBz hat
  go_wp2_with fail
  refine (HR.out u1 z HZ.out JM.out).mono ?_
  rintro e y ⟨r, a1, hw, _, hon, hm⟩
  have yf := hon.blk JF.out (by simpa using JF.out.ne_ JM.out (by decide))
  have cf := yf.cell
  have ff := yf.frozen
  have lf := yf.lt
  have YF := Lib.hid yf
  have ON := Lib.hid hon
  have HW := Lib.hid hw
  clear yf hon cj lj cl ll hw
  cases r with
  | none =>
    simp only [] at hm
    subst hm
    go_wp2_with fail
    obtain ⟨x, ex⟩ : ∃ x, (((y.setCell ⟨w.heap.size + 1, 0, none⟩ (.int .i64 1)).setCell ⟨w.heap.size + 1, 1, none⟩ (.int .i64 0)).setCell ⟨w.heap.size + 1, 2, none⟩ (.int .i64 0)).setCell ⟨w.heap.size + 1, 3, none⟩ (.int .i64 6) = x := ⟨_, rfl⟩
    have kx : Blk x (w.heap.size + 1) 40 #[.int .i64 1, .int .i64 0, .int .i64 0, .int .i64 6] := by rw [← ex]; exact (((YF.out.set_ 0 _ rfl).set_ 1 _ rfl).set_ 2 _ rfl).set_ 3 _ rfl
    have ox : Only [w.heap.size + 1] y x := by rw [← ex]; exact ((((Only.refl _ _).setCell (by simp) _).setCell (by simp) _).setCell (by simp) _).setCell (by simp) _
    have onx : Only [M] w x := ((Only.of_below HBZ.out (Nat.le_refl _) [M]).trans ON.out).then_ ox (by intro b hb; simp at hb; subst hb; right; omega)
    have cx := kx.cell
    rw [ex]
    clear cf ff lf ex
    exact bodyPost_ret (v := .tuple #[.slice none 0 0, .agg #[.int .i64 1, .int .i64 0, .int .i64 0, .int .i64 6]]) (by simp [results, Tryz.results31, go_sem, cx]) rfl ⟨none, a1, HW.out, onx, rfl⟩
  | some acc =>
    obtain ⟨rp, rc, rfl, hlen, hv2⟩ := hm
    have HV := Lib.hid hv2
    have HLN := Lib.hid hlen
    obtain ⟨NN, eNN⟩ : ∃ x, acc.length = x := ⟨_, rfl⟩
    have ENN := Lib.hid eNN
    rw [eNN]
    clear hv2 hlen eNN
    go_wp2_with fail
    obtain ⟨x, ex⟩ : ∃ x, (((y.setCell ⟨w.heap.size + 1, 0, none⟩ (.int .i64 0)).setCell ⟨w.heap.size + 1, 1, none⟩ (.int .i64 0)).setCell ⟨w.heap.size + 1, 2, none⟩ (.int .i64 0)).setCell ⟨w.heap.size + 1, 3, none⟩ (.int .i64 0) = x := ⟨_, rfl⟩
    have kx : Blk x (w.heap.size + 1) 40 #[.int .i64 0, .int .i64 0, .int .i64 0, .int .i64 0] := by rw [← ex]; exact (((YF.out.set_ 0 _ rfl).set_ 1 _ rfl).set_ 2 _ rfl).set_ 3 _ rfl
    have ox : Only [w.heap.size + 1] y x := by rw [← ex]; exact ((((Only.refl _ _).setCell (by simp) _).setCell (by simp) _).setCell (by simp) _).setCell (by simp) _
    have hvx := own_mono (ox.own HV.out (fun b hb hm => by simp at hm; subst hm; exact own_blk_ne HV.out YF.out (by decide) hb)) HBZ.out.size
    have onx : Only [M] w x := ((Only.of_below HBZ.out (Nat.le_refl _) [M]).trans ON.out).then_ ox (by intro b hb; simp at hb; subst hb; right; omega)
    have cx := kx.cell
    rw [ex]
    clear cf ff lf ex
    refine bodyPost_ret (v := .tuple #[.slice (some ⟨rp, 0, none⟩) NN rc, .agg #[.int .i64 0, .int .i64 0, .int .i64 0, .int .i64 0]]) (by simp [results, Tryz.results31, go_sem, cx]) rfl ⟨some acc, a1, HW.out, onx, _, rfl, HLN.out, ?_⟩
    rw [← HLN.out]
    first | exact hvx | (rw [← ENN.out]; exact hvx)
end Go.Proofs.YtfajckkbinbpiaaGreatDoor
