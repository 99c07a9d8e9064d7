/- What can be read of the laws' arguments, by program (law.py). -/
import Derived.Test.YtijgfgfolkbkoaaAtD2
import Derived.Test.YtijgfgfolkbkoaaT
import Derived.Test.YtijgfgfolkbkoaaOk
set_option linter.unusedVariables false
set_option maxRecDepth 100000
namespace AT
open Go Go.RowKit Go.Proofs
theorem co3 : Try.prog.cellsOf 3 = 1 := by kernel_rfl
theorem co121 : Try.prog.cellsOf 121 = 3 := by kernel_rfl
theorem rd3 : Rd Try.prog 3 (Int) ok_Int := rd_int Try.underlying3
theorem rd121 : Rd Try.prog 121 (Item) ok_Item := by
  intro H enc w base spare held fuel cs x h
  obtain ⟨xs, n, rfl, -, hl, hxl, hf⟩ := DataW.trod_struct Try.underlying121 h
  have g0 : DataW.trod enc Try.prog w base spare held n 3 ((cs.drop 0).take (Try.prog.cellsOf 3)) = xs[0]? := by have g := hf 0 _ rfl; exact g
  rw [co3] at g0
  obtain ⟨y0, r0, o0⟩ := rd3 H enc w base spare held n _ _ (g0.trans (List.getElem?_eq_getElem (by rw [hxl]; decide)))
  have g1 : DataW.trod enc Try.prog w base spare held n 3 ((cs.drop 1).take (Try.prog.cellsOf 3)) = xs[1]? := by have g := hf 1 _ rfl; exact g
  rw [co3] at g1
  obtain ⟨y1, r1, o1⟩ := rd3 H enc w base spare held n _ _ (g1.trans (List.getElem?_eq_getElem (by rw [hxl]; decide)))
  have g2 : DataW.trod enc Try.prog w base spare held n 3 ((cs.drop 2).take (Try.prog.cellsOf 3)) = xs[2]? := by have g := hf 2 _ rfl; exact g
  rw [co3] at g2
  obtain ⟨y2, r2, o2⟩ := rd3 H enc w base spare held n _ _ (g2.trans (List.getElem?_eq_getElem (by rw [hxl]; decide)))
  have e0 : cs.drop 0 = (cs.drop 0).take 1 ++ cs.drop 1 := sp_more 0 1
  have e1 : cs.drop 1 = (cs.drop 1).take 1 ++ cs.drop 2 := sp_more 1 1
  have e2 : cs.drop 2 = (cs.drop 2).take 1 := sp_last 2 1 (by rw [hl, co121])
  have hrep : GoTy.rep w (fun _ => True) (cs.drop 0) (⟨y0, y1, y2⟩ : Item) := ⟨_, _, e0, r0, ⟨_, _, e1, r1, (by rw [e2]; exact r2)⟩⟩
  exact ⟨_, hrep, o0, o1, o2⟩
theorem rd50 : Rd Try.prog 50 (List Item) ok_ItemS := rd_list Try.underlying50 co121 rd121
abbrev c32 : Char := Char.ofNat (nat_lit 32)
abbrev c46 : Char := Char.ofNat (nat_lit 46)
abbrev c47 : Char := Char.ofNat (nat_lit 47)
abbrev c48 : Char := Char.ofNat (nat_lit 48)
abbrev c55 : Char := Char.ofNat (nat_lit 55)
abbrev c56 : Char := Char.ofNat (nat_lit 56)
abbrev c57 : Char := Char.ofNat (nat_lit 57)
abbrev c65 : Char := Char.ofNat (nat_lit 65)
abbrev c66 : Char := Char.ofNat (nat_lit 66)
abbrev c67 : Char := Char.ofNat (nat_lit 67)
abbrev c68 : Char := Char.ofNat (nat_lit 68)
abbrev c69 : Char := Char.ofNat (nat_lit 69)
abbrev c70 : Char := Char.ofNat (nat_lit 70)
abbrev c71 : Char := Char.ofNat (nat_lit 71)
abbrev c73 : Char := Char.ofNat (nat_lit 73)
abbrev c74 : Char := Char.ofNat (nat_lit 74)
abbrev c76 : Char := Char.ofNat (nat_lit 76)
abbrev c77 : Char := Char.ofNat (nat_lit 77)
abbrev c78 : Char := Char.ofNat (nat_lit 78)
abbrev c79 : Char := Char.ofNat (nat_lit 79)
abbrev c80 : Char := Char.ofNat (nat_lit 80)
abbrev c83 : Char := Char.ofNat (nat_lit 83)
abbrev c86 : Char := Char.ofNat (nat_lit 86)
abbrev c87 : Char := Char.ofNat (nat_lit 87)
abbrev c97 : Char := Char.ofNat (nat_lit 97)
abbrev c98 : Char := Char.ofNat (nat_lit 98)
abbrev c99 : Char := Char.ofNat (nat_lit 99)
abbrev c100 : Char := Char.ofNat (nat_lit 100)
abbrev c101 : Char := Char.ofNat (nat_lit 101)
abbrev c102 : Char := Char.ofNat (nat_lit 102)
abbrev c103 : Char := Char.ofNat (nat_lit 103)
abbrev c105 : Char := Char.ofNat (nat_lit 105)
abbrev c108 : Char := Char.ofNat (nat_lit 108)
abbrev c109 : Char := Char.ofNat (nat_lit 109)
abbrev c110 : Char := Char.ofNat (nat_lit 110)
abbrev c111 : Char := Char.ofNat (nat_lit 111)
abbrev c112 : Char := Char.ofNat (nat_lit 112)
abbrev c114 : Char := Char.ofNat (nat_lit 114)
abbrev c115 : Char := Char.ofNat (nat_lit 115)
abbrev c116 : Char := Char.ofNat (nat_lit 116)
abbrev c117 : Char := Char.ofNat (nat_lit 117)
abbrev c118 : Char := Char.ofNat (nat_lit 118)
abbrev c119 : Char := Char.ofNat (nat_lit 119)
abbrev c120 : Char := Char.ofNat (nat_lit 120)
abbrev c121 : Char := Char.ofNat (nat_lit 121)
theorem head : behindMainWord (wordsSigns Try.prog.initOrder.toList) = "cut".toList :: wordsSigns [c97,c116,c32,c108,c111,c111,c112,c46,c101,c120,c97,c109,c112,c108,c101,c47,c103,c48,c48,c56,c57,c55,c47,c108,c97,c119,c115,c46,c70,c110,c69,c120,c97,c99,c116,c77,c111,c118,c101,c80,c111,c105,c110,c116,c101,c114,c32,c108,c111,c111,c112,c46,c101,c120,c97,c109,c112,c108,c101,c47,c103,c48,c48,c56,c57,c55,c47,c108,c97,c119,c115,c46,c70,c110,c69,c120,c97,c99,c116,c83,c112,c97,c110,c76,c111,c115,c115,c32,c108,c111,c111,c112,c46,c101,c120,c97,c109,c112,c108,c101,c47,c103,c48,c48,c56,c57,c55,c47,c108,c97,c119,c115,c46,c70,c110,c69,c120,c97,c99,c116,c76,c105,c110,c101,c97,c114,c86,c97,c108,c117,c101,c32,c108,c111,c111,c112,c46,c101,c120,c97,c109,c112,c108,c101,c47,c103,c48,c48,c56,c57,c55,c47,c108,c97,c119,c115,c46,c70,c110,c69,c120,c97,c99,c116,c77,c111,c115,c116,c83,c112,c97,c110,c115,c32,c108,c111,c111,c112,c46,c101,c120,c97,c109,c112,c108,c101,c47,c103,c48,c48,c56,c57,c55,c47,c108,c97,c119,c115,c46,c70,c110,c69,c120,c97,c99,c116,c76,c101,c118,c101,c108,c79,c102,c32,c108,c111,c111,c112,c46,c101,c120,c97,c109,c112,c108,c101,c47,c103,c48,c48,c56,c57,c55,c47,c108,c97,c119,c115,c46,c70,c110,c69,c120,c97,c99,c116,c73,c115,c86,c97,c108,c105,c100,c70,c114,c97,c109,c101,c32,c108,c111,c111,c112,c46,c101,c120,c97,c109,c112,c108,c101,c47,c103,c48,c48,c56,c57,c55,c47,c108,c97,c119,c115,c46,c70,c110,c69,c120,c97,c99,c116,c74,c117,c115,c116,c105,c102,c121,c66,c117,c102,c102,c101,c114,c32,c108,c111,c111,c112,c46,c101,c120,c97,c109,c112,c108,c101,c47,c103,c48,c48,c56,c57,c55,c47,c108,c97,c119,c115,c46,c70,c110,c69,c120,c97,c99,c116,c67,c111,c115,c116,c79,c102,c32,c108,c111,c111,c112,c46,c101,c120,c97,c109,c112,c108,c101,c47,c103,c48,c48,c56,c57,c55,c47,c108,c97,c119,c115,c46,c70,c110,c69,c120,c97,c99,c116,c70,c114,c97,c109,c101,c66,c121,c116,c101,c115,c32,c108,c111,c111,c112,c46,c101,c120,c97,c109,c112,c108,c101,c47,c103,c48,c48,c56,c57,c55,c47,c108,c97,c119,c115,c46,c70,c110,c69,c120,c97,c99,c116,c78,c111,c105,c115,c101,c83,c117,c109,c32,c108,c111,c111,c112,c46,c101,c120,c97,c109,c112,c108,c101,c47,c103,c48,c48,c56,c57,c55,c47,c108,c97,c119,c115,c46,c70,c110,c69,c120,c97,c99,c116,c77,c105,c115,c115,c105,c110,c103,c73,c116,c101,c109,c115,c32,c108,c111,c111,c112,c46,c101,c120,c97,c109,c112,c108,c101,c47,c103,c48,c48,c56,c57,c55,c47,c108,c97,c119,c115,c46,c70,c110,c69,c120,c97,c99,c116,c77,c101,c114,c103,c101,c66,c105,c108,c108,c115,c32,c108,c111,c111,c112,c46,c101,c120,c97,c109,c112,c108,c101,c47,c103,c48,c48,c56,c57,c55,c47,c108,c97,c119,c115,c46,c70,c110,c69,c120,c97,c99,c116,c80,c97,c114,c115,c101,c70,c114,c97,c109,c101,c32,c108,c111,c111,c112,c46,c101,c120,c97,c109,c112,c108,c101,c47,c103,c48,c48,c56,c57,c55,c47,c108,c97,c119,c115,c46,c70,c110,c69,c120,c97,c99,c116,c70,c105,c110,c100,c70,c114,c97,c109,c101,c115,c32,c108,c111,c111,c112,c46,c101,c120,c97,c109,c112,c108,c101,c47,c103,c48,c48,c56,c57,c55,c47,c108,c97,c119,c115,c46,c70,c110,c69,c120,c97,c99,c116,c67,c111,c117,c110,c116,c101,c114,c71,c97,c112,c115,c32,c108,c111,c111,c112,c46,c101,c120,c97,c109,c112,c108,c101,c47,c103,c48,c48,c56,c57,c55,c47,c108,c97,c119,c115,c46,c70,c110,c68,c101,c99,c105,c98,c101,c108,c115,c32,c108,c111,c111,c112,c46,c101,c120,c97,c109,c112,c108,c101,c47,c103,c48,c48,c56,c57,c55,c47,c108,c97,c119,c115,c46,c70,c110,c69,c120,c97,c99,c116,c80,c108,c97,c99,c101,c65,c109,c112,c108,c105,c102,c105,c101,c114,c115,c32,c108,c111,c111,c112,c46,c101,c120,c97,c109,c112,c108,c101,c47,c103,c48,c48,c56,c57,c55,c47,c108,c97,c119,c115,c46,c70,c110,c69,c120,c97,c99,c116,c80,c111,c119,c101,c114,c77,c97,c114,c103,c105,c110,c32,c108,c111,c111,c112,c46,c101,c120,c97,c109,c112,c108,c101,c47,c103,c48,c48,c56,c57,c55,c47,c108,c97,c119,c115,c46,c70,c110,c69,c120,c97,c99,c116,c87,c111,c114,c115,c116,c76,c101,c118,c101,c108,c32,c108,c111,c111,c112,c46,c101,c120,c97,c109,c112,c108,c101,c47,c103,c48,c48,c56,c57,c55,c47,c108,c97,c119,c115,c46,c70,c110,c69,c120,c97,c99,c116,c80,c111,c119,c101,c114,c80,c114,c111,c102,c105,c108,c101,c32,c108,c111,c111,c112,c46,c101,c120,c97,c109,c112,c108,c101,c47,c103,c48,c48,c56,c57,c55,c47,c108,c97,c119,c115,c46,c70,c110,c80,c111,c119,c101,c114] := head_of _ "98263260b14a3a03440a85ce6875ac8283589e4dc0d7549e027c2f65e58c223f".toList _ (by kernel_rfl) (by decide +kernel) (by decide +kernel)
theorem makes : Try.prog.make = some .cut := make_of head
theorem lifts : Try.prog.liftsFinal = false := lifts_of head
theorem enters : Try.prog.mayEnter = true := enter_of head (by kernel_rfl) (by kernel_rfl) (by kernel_rfl)
theorem heard : Try.prog.stopsHeard = true := by kernel_rfl
theorem rowed : mapsRowed Try.prog = true := by kernel_rfl
theorem own : ownKnob Try.prog.godebug = none := by kernel_rfl
theorem laidOut : laidOutB Try.prog = true := by kernel_rfl
end AT
