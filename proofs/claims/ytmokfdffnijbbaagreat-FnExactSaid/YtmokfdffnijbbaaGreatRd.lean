/- What can be read of the laws' arguments, by program (law.py). -/
import Derived.Test.YtmokfdffnijbbaaGreatAtBP
import Derived.Test.YtmokfdffnijbbaaGreatT
import Derived.Test.YtmokfdffnijbbaaGreatOk
set_option linter.unusedVariables false
set_option maxRecDepth 100000
namespace AT
open Go Go.RowKit Go.Proofs
theorem co5 : Tryz.prog.cellsOf 5 = 1 := by kernel_rfl
theorem rd5 : Rd Tryz.prog 5 (By) ok_By := rd_by Tryz.underlying5
theorem rd44 : Rd Tryz.prog 44 (List By) ok_ByS := rd_list Tryz.underlying44 co5 rd5
abbrev c32 : Char := Char.ofNat (nat_lit 32)
abbrev c46 : Char := Char.ofNat (nat_lit 46)
abbrev c47 : Char := Char.ofNat (nat_lit 47)
abbrev c48 : Char := Char.ofNat (nat_lit 48)
abbrev c55 : Char := Char.ofNat (nat_lit 55)
abbrev c56 : Char := Char.ofNat (nat_lit 56)
abbrev c57 : Char := Char.ofNat (nat_lit 57)
abbrev c67 : Char := Char.ofNat (nat_lit 67)
abbrev c68 : Char := Char.ofNat (nat_lit 68)
abbrev c69 : Char := Char.ofNat (nat_lit 69)
abbrev c70 : Char := Char.ofNat (nat_lit 70)
abbrev c72 : Char := Char.ofNat (nat_lit 72)
abbrev c76 : Char := Char.ofNat (nat_lit 76)
abbrev c79 : Char := Char.ofNat (nat_lit 79)
abbrev c80 : Char := Char.ofNat (nat_lit 80)
abbrev c83 : Char := Char.ofNat (nat_lit 83)
abbrev c97 : Char := Char.ofNat (nat_lit 97)
abbrev c99 : Char := Char.ofNat (nat_lit 99)
abbrev c100 : Char := Char.ofNat (nat_lit 100)
abbrev c101 : Char := Char.ofNat (nat_lit 101)
abbrev c102 : Char := Char.ofNat (nat_lit 102)
abbrev c103 : Char := Char.ofNat (nat_lit 103)
abbrev c104 : Char := Char.ofNat (nat_lit 104)
abbrev c105 : Char := Char.ofNat (nat_lit 105)
abbrev c108 : Char := Char.ofNat (nat_lit 108)
abbrev c109 : Char := Char.ofNat (nat_lit 109)
abbrev c110 : Char := Char.ofNat (nat_lit 110)
abbrev c111 : Char := Char.ofNat (nat_lit 111)
abbrev c112 : Char := Char.ofNat (nat_lit 112)
abbrev c114 : Char := Char.ofNat (nat_lit 114)
abbrev c115 : Char := Char.ofNat (nat_lit 115)
abbrev c116 : Char := Char.ofNat (nat_lit 116)
abbrev c119 : Char := Char.ofNat (nat_lit 119)
abbrev c120 : Char := Char.ofNat (nat_lit 120)
theorem head : behindMainWord (wordsSigns Tryz.prog.initOrder.toList) = "cut".toList :: wordsSigns [c97,c116,c32,c108,c111,c111,c112,c46,c101,c120,c97,c109,c112,c108,c101,c47,c103,c48,c48,c56,c57,c55,c47,c108,c97,c119,c115,c46,c70,c110,c69,c120,c97,c99,c116,c76,c111,c119,c101,c115,c116,c72,c101,c105,c103,c104,c116,c32,c108,c111,c111,c112,c46,c101,c120,c97,c109,c112,c108,c101,c47,c103,c48,c48,c56,c57,c55,c47,c108,c97,c119,c115,c46,c70,c110,c69,c120,c97,c99,c116,c67,c111,c109,c112,c97,c99,c116,c80,c108,c97,c110,c32,c108,c111,c111,c112,c46,c101,c120,c97,c109,c112,c108,c101,c47,c103,c48,c48,c56,c57,c55,c47,c108,c97,c119,c115,c46,c70,c110,c69,c120,c97,c99,c116,c32,c108,c111,c111,c112,c46,c101,c120,c97,c109,c112,c108,c101,c47,c103,c48,c48,c56,c57,c55,c47,c108,c97,c119,c115,c46,c70,c110,c68,c101,c102,c114,c97,c103,c109,c101,c110,c116,c97,c116,c105,c111,c110,c32,c108,c111,c111,c112,c46,c101,c120,c97,c109,c112,c108,c101,c47,c103,c48,c48,c56,c57,c55,c47,c108,c97,c119,c115,c46,c70,c110,c69,c120,c97,c99,c116,c83,c97,c102,c101,c79,c114,c100,c101,c114,c32,c108,c111,c111,c112,c46,c101,c120,c97,c109,c112,c108,c101,c47,c103,c48,c48,c56,c57,c55,c47,c108,c97,c119,c115,c46,c70,c110,c83,c97,c102,c101,c79,c114,c100,c101,c114] := head_of _ "5855fc080800342f8c97d0032cff6ed465f779ca2b6cd7305baddbfb36e1e3ac".toList _ (by kernel_rfl) (by decide +kernel) (by decide +kernel)
theorem makes : Tryz.prog.make = some .cut := make_of head
theorem lifts : Tryz.prog.liftsFinal = false := lifts_of head
theorem enters : Tryz.prog.mayEnter = true := enter_of head (by kernel_rfl) (by kernel_rfl) (by kernel_rfl)
theorem heard : Tryz.prog.stopsHeard = true := by kernel_rfl
theorem rowed : mapsRowed Tryz.prog = true := by kernel_rfl
theorem own : ownKnob Tryz.prog.godebug = none := by kernel_rfl
theorem laidOut : laidOutB Tryz.prog = true := by kernel_rfl
end AT
