/- What can be read of the laws' arguments, by program (law.py). -/
import Derived.Test.YtlemonjnolciiaaGreatDoorAtPX
import Derived.Test.YtlemonjnolciiaaGreatDoorT
import Derived.Test.YtlemonjnolciiaaGreatDoorOk
set_option linter.unusedVariables false
set_option maxRecDepth 100000
namespace AT
open Go Go.RowKit Go.Proofs
theorem co5 : Tryz.prog.cellsOf 5 = 1 := by kernel_rfl
theorem rd5 : Rd Tryz.prog 5 (By) ok_By := rd_by Tryz.underlying5
theorem rd22 : Rd Tryz.prog 22 (List By) ok_ByS := rd_list Tryz.underlying22 co5 rd5
abbrev c32 : Char := Char.ofNat (nat_lit 32)
abbrev c46 : Char := Char.ofNat (nat_lit 46)
abbrev c47 : Char := Char.ofNat (nat_lit 47)
abbrev c48 : Char := Char.ofNat (nat_lit 48)
abbrev c55 : Char := Char.ofNat (nat_lit 55)
abbrev c56 : Char := Char.ofNat (nat_lit 56)
abbrev c57 : Char := Char.ofNat (nat_lit 57)
abbrev c70 : Char := Char.ofNat (nat_lit 70)
abbrev c84 : Char := Char.ofNat (nat_lit 84)
abbrev c97 : Char := Char.ofNat (nat_lit 97)
abbrev c101 : Char := Char.ofNat (nat_lit 101)
abbrev c103 : Char := Char.ofNat (nat_lit 103)
abbrev c108 : Char := Char.ofNat (nat_lit 108)
abbrev c109 : Char := Char.ofNat (nat_lit 109)
abbrev c110 : Char := Char.ofNat (nat_lit 110)
abbrev c111 : Char := Char.ofNat (nat_lit 111)
abbrev c112 : Char := Char.ofNat (nat_lit 112)
abbrev c115 : Char := Char.ofNat (nat_lit 115)
abbrev c116 : Char := Char.ofNat (nat_lit 116)
abbrev c119 : Char := Char.ofNat (nat_lit 119)
abbrev c120 : Char := Char.ofNat (nat_lit 120)
theorem head : behindMainWord (wordsSigns Tryz.prog.initOrder.toList) = "cut".toList :: wordsSigns [c97,c116,c32,c108,c111,c111,c112,c46,c101,c120,c97,c109,c112,c108,c101,c47,c103,c48,c48,c56,c57,c55,c47,c108,c97,c119,c115,c46,c70,c110,c84,c101,c120,c116,c115] := head_of _ "452536158d3bd52eb08514ad34f79804db294d4c37776dcbdf6f950e20c6a1bd".toList _ (by kernel_rfl) (by decide +kernel) (by decide +kernel)
theorem makes : Tryz.prog.make = some .cut := make_of head
theorem lifts : Tryz.prog.liftsFinal = false := lifts_of head
theorem enter_door {P : Program} {R} (h : behindMainWord (wordsSigns P.initOrder.toList) = "cut".toList :: R) (a : P.laysLater = false) (b : P.bearsReflect = false) (c : P.doorFits [] = true) : P.mayEnter = true := by
  have e : stripLifts liftWords ("cut".toList :: R) = ([], "cut".toList :: R) := rfl
  unfold Program.mayEnter; rw [h]; simp only [e, a, b, c]
  cases R <;> rfl
theorem enters : Tryz.prog.mayEnter = true := enter_door head (by kernel_rfl) (by kernel_rfl) (by kernel_rfl)
theorem heard : Tryz.prog.stopsHeard = true := by kernel_rfl
theorem rowed : mapsRowed Tryz.prog = true := by kernel_rfl
theorem own : ownKnob Tryz.prog.godebug = none := by kernel_rfl
theorem laidOut : laidOutB Tryz.prog = true := by kernel_rfl
end AT
