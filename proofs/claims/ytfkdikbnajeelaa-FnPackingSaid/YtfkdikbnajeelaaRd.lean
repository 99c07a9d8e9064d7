/- What can be read of the laws' arguments, by program (law.py). -/
import Derived.Test.YtfkdikbnajeelaaAtBP
import Derived.Test.YtfkdikbnajeelaaT
import Derived.Test.YtfkdikbnajeelaaOk
set_option linter.unusedVariables false
set_option maxRecDepth 100000
namespace AT
open Go Go.RowKit Go.Proofs
theorem co5 : Try.prog.cellsOf 5 = 1 := by kernel_rfl
theorem rd5 : Rd Try.prog 5 (By) ok_By := rd_by Try.underlying5
theorem rd22 : Rd Try.prog 22 (List By) ok_ByS := rd_list Try.underlying22 co5 rd5
abbrev c32 : Char := Char.ofNat (nat_lit 32)
abbrev c46 : Char := Char.ofNat (nat_lit 46)
abbrev c47 : Char := Char.ofNat (nat_lit 47)
abbrev c48 : Char := Char.ofNat (nat_lit 48)
abbrev c55 : Char := Char.ofNat (nat_lit 55)
abbrev c56 : Char := Char.ofNat (nat_lit 56)
abbrev c57 : Char := Char.ofNat (nat_lit 57)
abbrev c70 : Char := Char.ofNat (nat_lit 70)
abbrev c80 : Char := Char.ofNat (nat_lit 80)
abbrev c97 : Char := Char.ofNat (nat_lit 97)
abbrev c99 : Char := Char.ofNat (nat_lit 99)
abbrev c101 : Char := Char.ofNat (nat_lit 101)
abbrev c103 : Char := Char.ofNat (nat_lit 103)
abbrev c105 : Char := Char.ofNat (nat_lit 105)
abbrev c107 : Char := Char.ofNat (nat_lit 107)
abbrev c108 : Char := Char.ofNat (nat_lit 108)
abbrev c109 : Char := Char.ofNat (nat_lit 109)
abbrev c110 : Char := Char.ofNat (nat_lit 110)
abbrev c111 : Char := Char.ofNat (nat_lit 111)
abbrev c112 : Char := Char.ofNat (nat_lit 112)
abbrev c115 : Char := Char.ofNat (nat_lit 115)
abbrev c116 : Char := Char.ofNat (nat_lit 116)
abbrev c119 : Char := Char.ofNat (nat_lit 119)
abbrev c120 : Char := Char.ofNat (nat_lit 120)
theorem head : behindMainWord (wordsSigns Try.prog.initOrder.toList) = "cut".toList :: wordsSigns [c97,c116,c32,c108,c111,c111,c112,c46,c101,c120,c97,c109,c112,c108,c101,c47,c103,c48,c48,c56,c57,c55,c47,c108,c97,c119,c115,c46,c70,c110,c80,c97,c99,c107,c105,c110,c103] := head_of _ "ef140da4207c8e67664cc428bcaedf602d50301a2432e2b29e11aec3fe5ee15f".toList _ (by kernel_rfl) (by decide +kernel) (by decide +kernel)
theorem makes : Try.prog.make = some .cut := make_of head
theorem lifts : Try.prog.liftsFinal = false := lifts_of head
theorem enters : Try.prog.mayEnter = true := enter_of head (by kernel_rfl) (by kernel_rfl) (by kernel_rfl)
theorem heard : Try.prog.stopsHeard = true := by kernel_rfl
theorem rowed : mapsRowed Try.prog = true := by kernel_rfl
theorem own : ownKnob Try.prog.godebug = none := by kernel_rfl
theorem laidOut : laidOutB Try.prog = true := by kernel_rfl
end AT
