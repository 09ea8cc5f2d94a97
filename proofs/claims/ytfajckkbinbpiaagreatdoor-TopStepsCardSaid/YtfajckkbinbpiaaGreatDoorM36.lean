/- What the commands of the statement do to a plotter. -/
import Derived.Test.YtfajckkbinbpiaaGreatDoorM12
namespace Go.Proofs.YtfajckkbinbpiaaGreatDoor
open Go.RowKit
set_option linter.unusedVariables false
set_option linter.unusedSimpArgs false

/-- What a command does. -/
def St.act (s : St) : Gr → St
  | .fs => { s with fmt := true }
  | .mo => { s with unit := 1 }
  | .adc => { s with a10 := true }
  | .adr => s
  | .d10 => { s with pick := 10 }
  | .d20 => { s with pick := 20 }
  | .m02 => { s with ended := true }
  | .lpc => { s with dark := false }
  | .lpd => { s with dark := true }
  | .ab => { s with lev := some ⟨false, 20, 0, 0, 0, 0, []⟩ }
  | .abe => match s.lev with
    | some v => { s with blk := some v.objs, lev := none }
    | none => s
  | .sr n m x y => { s with lev := some ⟨true, 0, ((n.toNat - 48 : Nat) : Int), ((m.toNat - 48 : Nat) : Int), stepOf x, stepOf y, []⟩ }
  | .sre => match s.lev with
    | some v => { s with lev := none }.puts (copies v.objs v.bx v.by_ v.m.toNat v.n.toNat)
    | none => s
  | .op2 a b => { s with x := coordOf a, y := coordOf b }
  | .op3 a b =>
    let t := if s.pick = 10 then s.puts [⟨s.dark, coordOf a, coordOf b⟩] else s.puts ((s.blk.getD []).map fun o => ⟨o.dark == s.dark, o.x + coordOf a, o.y + coordOf b⟩)
    { t with x := coordOf a, y := coordOf b }
/-- When a command of ours may stand there. -/
def St.may (s : St) : Gr → Prop
  | .fs => s = St.start
  | .mo => s = { St.start with fmt := true }
  | .adc => s = { St.start with fmt := true, unit := 1 }
  | .adr => False
  | .d10 => s = { St.start with fmt := true, unit := 1, a10 := true }
  | g => (s.unit = 1 ∧ s.fmt = true ∧ s.a10 = true ∧ s.ended = false) ∧ match g with
    | .d20 => s.blk.isSome = true
    | .m02 => s.lev = none
    | .ab => s.lev = none ∧ s.blk = none ∧ s.base = [] ∧ s.made = 0
    | .abe => s.base = [] ∧ s.blk = none ∧ ∃ v, s.lev = some v ∧ v.step = false ∧ v.code = 20
    | .sr n m x y => (s.lev = none ∧ s.base = [] ∧ s.made = 0) ∧ (1 ≤ n.toNat - 48 ∧ n.toNat - 48 ≤ 4) ∧ (1 ≤ m.toNat - 48 ∧ m.toNat - 48 ≤ 4) ∧ x.toNat - 48 ≤ 7 ∧ y.toNat - 48 ≤ 7
    | .sre => s.base = [] ∧ ∃ v, s.lev = some v ∧ v.step = true ∧ v.code = 0 ∧ (1 ≤ v.n ∧ v.n ≤ 4) ∧ (1 ≤ v.m ∧ v.m ≤ 4) ∧ (0 ≤ v.bx ∧ v.bx ≤ 70000000) ∧ (0 ≤ v.by_ ∧ v.by_ ≤ 70000000) ∧ v.objs.length ≤ 12 ∧ s.made ≤ 12 ∧ ∀ o ∈ v.objs, (0 ≤ o.x ∧ o.x ≤ 4095000) ∧ (0 ≤ o.y ∧ o.y ≤ 4095000)
    | .op3 a b => (numV a ≤ 230000 ∧ numV b ≤ 230000) ∧ (s.base.length ≤ 5000 ∧ ∀ v, s.lev = some v → v.objs.length ≤ 5000) ∧ (s.lev.isSome = true → s.base = [] ∧ s.blk = none) ∧ (s.pick = 10 ∧ s.made < 1000 ∨ s.pick = 20 ∧ s.lev = none ∧ ∃ l, s.blk = some l ∧ s.made + l.length ≤ 1000 ∧ ∀ o ∈ l, (0 ≤ o.x ∧ o.x ≤ 4095000) ∧ (0 ≤ o.y ∧ o.y ≤ 4095000))
    | _ => True
inductive St.Runs : St → List Gr → St → Prop
  | nil {s : St} : St.Runs s [] s
  | cons {s t : St} {g : Gr} {gs : List Gr} : s.may g → St.Runs (s.act g) gs t → St.Runs s (g :: gs) t
end Go.Proofs.YtfajckkbinbpiaaGreatDoor
