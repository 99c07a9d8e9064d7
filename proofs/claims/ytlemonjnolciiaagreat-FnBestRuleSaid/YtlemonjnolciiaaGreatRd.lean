/- What can be read of the laws' arguments, by program (law.py). -/
import Derived.Test.YtlemonjnolciiaaGreatT
set_option linter.unusedVariables false
set_option maxRecDepth 100000
namespace AT
open Go Go.RowKit Go.Proofs
theorem co5:Tryz.prog.cellsOf 5=1:=by kernel_rfl
theorem rd5:Rd Tryz.prog 5 (By) DR:=EK Tryz.underlying5
theorem rd22:Rd Tryz.prog 22 (List By) BN:=CF Tryz.underlying22 co5 rd5
abbrev c32:Char:=Char.ofNat (nat_lit 32)
abbrev c46:Char:=Char.ofNat (nat_lit 46)
abbrev c47:Char:=Char.ofNat (nat_lit 47)
abbrev c48:Char:=Char.ofNat (nat_lit 48)
abbrev c55:Char:=Char.ofNat (nat_lit 55)
abbrev c56:Char:=Char.ofNat (nat_lit 56)
abbrev c57:Char:=Char.ofNat (nat_lit 57)
abbrev c66:Char:=Char.ofNat (nat_lit 66)
abbrev c69:Char:=Char.ofNat (nat_lit 69)
abbrev c70:Char:=Char.ofNat (nat_lit 70)
abbrev c79:Char:=Char.ofNat (nat_lit 79)
abbrev c82:Char:=Char.ofNat (nat_lit 82)
abbrev c83:Char:=Char.ofNat (nat_lit 83)
abbrev c97:Char:=Char.ofNat (nat_lit 97)
abbrev c98:Char:=Char.ofNat (nat_lit 98)
abbrev c99:Char:=Char.ofNat (nat_lit 99)
abbrev c100:Char:=Char.ofNat (nat_lit 100)
abbrev c101:Char:=Char.ofNat (nat_lit 101)
abbrev c102:Char:=Char.ofNat (nat_lit 102)
abbrev c103:Char:=Char.ofNat (nat_lit 103)
abbrev c105:Char:=Char.ofNat (nat_lit 105)
abbrev c108:Char:=Char.ofNat (nat_lit 108)
abbrev c109:Char:=Char.ofNat (nat_lit 109)
abbrev c110:Char:=Char.ofNat (nat_lit 110)
abbrev c111:Char:=Char.ofNat (nat_lit 111)
abbrev c112:Char:=Char.ofNat (nat_lit 112)
abbrev c114:Char:=Char.ofNat (nat_lit 114)
abbrev c115:Char:=Char.ofNat (nat_lit 115)
abbrev c116:Char:=Char.ofNat (nat_lit 116)
abbrev c117:Char:=Char.ofNat (nat_lit 117)
abbrev c118:Char:=Char.ofNat (nat_lit 118)
abbrev c119:Char:=Char.ofNat (nat_lit 119)
abbrev c120:Char:=Char.ofNat (nat_lit 120)
theorem head : behindMainWord (wordsSigns Tryz.prog.initOrder.toList) = "cut".toList :: wordsSigns [c97,c116,c32,c108,c111,c111,c112,c46,c101,c120,c97,c109,c112,c108,c101,c47,c103,c48,c48,c56,c57,c55,c47,c108,c97,c119,c115,c46,c70,c110,c83,c101,c114,c118,c105,c110,c103,c32,c108,c111,c111,c112,c46,c101,c120,c97,c109,c112,c108,c101,c47,c103,c48,c48,c56,c57,c55,c47,c108,c97,c119,c115,c46,c70,c110,c82,c101,c118,c101,c114,c116,c105,c110,c103,c32,c108,c111,c111,c112,c46,c101,c120,c97,c109,c112,c108,c101,c47,c103,c48,c48,c56,c57,c55,c47,c108,c97,c119,c115,c46,c70,c110,c83,c97,c102,c101,c79,c114,c100,c101,c114,c32,c108,c111,c111,c112,c46,c101,c120,c97,c109,c112,c108,c101,c47,c103,c48,c48,c56,c57,c55,c47,c108,c97,c119,c115,c46,c70,c110,c69,c120,c97,c99,c116,c83,c97,c102,c101,c79,c114,c100,c101,c114,c32,c108,c111,c111,c112,c46,c101,c120,c97,c109,c112,c108,c101,c47,c103,c48,c48,c56,c57,c55,c47,c108,c97,c119,c115,c46,c70,c110,c70,c105,c98,c101,c114,c69,c118,c101,c110,c116,c115,c32,c108,c111,c111,c112,c46,c101,c120,c97,c109,c112,c108,c101,c47,c103,c48,c48,c56,c57,c55,c47,c108,c97,c119,c115,c46,c70,c110,c82,c101,c115,c116,c111,c114,c105,c110,c103,c32,c108,c111,c111,c112,c46,c101,c120,c97,c109,c112,c108,c101,c47,c103,c48,c48,c56,c57,c55,c47,c108,c97,c119,c115,c46,c70,c110,c66,c101,c115,c116,c82,c117,c108,c101] := CY _ "e4b5bb79e722549130c407b8ce6b0480eabd64b3d5220923c75f86f8d9438f79".toList _ (by kernel_rfl) (by decide +kernel) (by decide +kernel)
theorem makes:Tryz.prog.make=some .cut:=CP head
theorem lifts:Tryz.prog.liftsFinal=false:=AQ head
theorem enters:Tryz.prog.mayEnter=true:=AZ head (by kernel_rfl) (by kernel_rfl) (by kernel_rfl)
theorem heard:Tryz.prog.stopsHeard=true:=by kernel_rfl
theorem rowed:mapsRowed Tryz.prog=true:=by kernel_rfl
theorem own:ownKnob Tryz.prog.godebug=none:=by kernel_rfl
theorem laidOut:laidOutB Tryz.prog=true:=by kernel_rfl
end AT
