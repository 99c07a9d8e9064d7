/- What can be read of the laws' arguments, by program (law.py). -/
import Derived.Test.YtiedecncmihbeaaAtBP
import Derived.Test.YtiedecncmihbeaaT
import Derived.Test.YtiedecncmihbeaaOk
set_option linter.unusedVariables false
set_option maxRecDepth 100000
namespace AT
open Go Go.RowKit Go.Proofs
theorem co3 : Try.prog.cellsOf 3 = 1 := by kernel_rfl
theorem co9 : Try.prog.cellsOf 9 = 1 := by kernel_rfl
theorem co22 : Try.prog.cellsOf 22 = 1 := by kernel_rfl
theorem co23 : Try.prog.cellsOf 23 = 1 := by kernel_rfl
theorem co25 : Try.prog.cellsOf 25 = 2 := by kernel_rfl
theorem co68 : Try.prog.cellsOf 68 = 4 := by kernel_rfl
theorem rd9 : Rd Try.prog 9 (ByteArray) ok_Str := rd_str Try.underlying9
theorem rd22 : Rd Try.prog 22 (List ByteArray) ok_StrS := rd_list Try.underlying22 co9 rd9
theorem rd3 : Rd Try.prog 3 (Int) ok_Int := rd_int Try.underlying3
theorem rd68 : Rd Try.prog 68 (Fiber) ok_Fiber := by
  intro H enc w base spare held fuel cs x h
  obtain ⟨xs, n, rfl, -, hl, hxl, hf⟩ := DataW.trod_struct Try.underlying68 h
  have g0 : DataW.trod enc Try.prog w base spare held n 3 ((cs.drop 0).take (Try.prog.cellsOf 3)) = xs[0]? := by have g := hf 0 _ rfl; exact g
  rw [co3] at g0
  obtain ⟨y0, r0, o0⟩ := rd3 H enc w base spare held n _ _ (g0.trans (List.getElem?_eq_getElem (by rw [hxl]; decide)))
  have g1 : DataW.trod enc Try.prog w base spare held n 3 ((cs.drop 1).take (Try.prog.cellsOf 3)) = xs[1]? := by have g := hf 1 _ rfl; exact g
  rw [co3] at g1
  obtain ⟨y1, r1, o1⟩ := rd3 H enc w base spare held n _ _ (g1.trans (List.getElem?_eq_getElem (by rw [hxl]; decide)))
  have g2 : DataW.trod enc Try.prog w base spare held n 3 ((cs.drop 2).take (Try.prog.cellsOf 3)) = xs[2]? := by have g := hf 2 _ rfl; exact g
  rw [co3] at g2
  obtain ⟨y2, r2, o2⟩ := rd3 H enc w base spare held n _ _ (g2.trans (List.getElem?_eq_getElem (by rw [hxl]; decide)))
  have g3 : DataW.trod enc Try.prog w base spare held n 3 ((cs.drop 3).take (Try.prog.cellsOf 3)) = xs[3]? := by have g := hf 3 _ rfl; exact g
  rw [co3] at g3
  obtain ⟨y3, r3, o3⟩ := rd3 H enc w base spare held n _ _ (g3.trans (List.getElem?_eq_getElem (by rw [hxl]; decide)))
  have e0 : cs.drop 0 = (cs.drop 0).take 1 ++ cs.drop 1 := sp_more 0 1
  have e1 : cs.drop 1 = (cs.drop 1).take 1 ++ cs.drop 2 := sp_more 1 1
  have e2 : cs.drop 2 = (cs.drop 2).take 1 ++ cs.drop 3 := sp_more 2 1
  have e3 : cs.drop 3 = (cs.drop 3).take 1 := sp_last 3 1 (by rw [hl, co68])
  have hrep : GoTy.rep w (fun _ => True) (cs.drop 0) (⟨y0, y1, y2, y3⟩ : Fiber) := ⟨_, _, e0, r0, ⟨_, _, e1, r1, ⟨_, _, e2, r2, (by rw [e3]; exact r3)⟩⟩⟩
  exact ⟨_, hrep, o0, o1, o2, o3⟩
theorem rd23 : Rd Try.prog 23 (List Fiber) ok_FiberS := rd_list Try.underlying23 co68 rd68
theorem rd25 : Rd Try.prog 25 (Network) ok_Network := by
  intro H enc w base spare held fuel cs x h
  obtain ⟨xs, n, rfl, -, hl, hxl, hf⟩ := DataW.trod_struct Try.underlying25 h
  have g0 : DataW.trod enc Try.prog w base spare held n 22 ((cs.drop 0).take (Try.prog.cellsOf 22)) = xs[0]? := by have g := hf 0 _ rfl; exact g
  rw [co22] at g0
  obtain ⟨y0, r0, o0⟩ := rd22 H enc w base spare held n _ _ (g0.trans (List.getElem?_eq_getElem (by rw [hxl]; decide)))
  have g1 : DataW.trod enc Try.prog w base spare held n 23 ((cs.drop 1).take (Try.prog.cellsOf 23)) = xs[1]? := by have g := hf 1 _ rfl; exact g
  rw [co23] at g1
  obtain ⟨y1, r1, o1⟩ := rd23 H enc w base spare held n _ _ (g1.trans (List.getElem?_eq_getElem (by rw [hxl]; decide)))
  have e0 : cs.drop 0 = (cs.drop 0).take 1 ++ cs.drop 1 := sp_more 0 1
  have e1 : cs.drop 1 = (cs.drop 1).take 1 := sp_last 1 1 (by rw [hl, co25])
  have hrep : GoTy.rep w (fun _ => True) (cs.drop 0) (⟨y0, y1⟩ : Network) := ⟨_, _, e0, r0, (by rw [e1]; exact r1)⟩
  exact ⟨_, hrep, o0, o1⟩
abbrev c32 : Char := Char.ofNat (nat_lit 32)
abbrev c46 : Char := Char.ofNat (nat_lit 46)
abbrev c47 : Char := Char.ofNat (nat_lit 47)
abbrev c48 : Char := Char.ofNat (nat_lit 48)
abbrev c55 : Char := Char.ofNat (nat_lit 55)
abbrev c56 : Char := Char.ofNat (nat_lit 56)
abbrev c57 : Char := Char.ofNat (nat_lit 57)
abbrev c67 : Char := Char.ofNat (nat_lit 67)
abbrev c69 : Char := Char.ofNat (nat_lit 69)
abbrev c70 : Char := Char.ofNat (nat_lit 70)
abbrev c83 : Char := Char.ofNat (nat_lit 83)
abbrev c97 : Char := Char.ofNat (nat_lit 97)
abbrev c99 : Char := Char.ofNat (nat_lit 99)
abbrev c101 : Char := Char.ofNat (nat_lit 101)
abbrev c103 : Char := Char.ofNat (nat_lit 103)
abbrev c105 : Char := Char.ofNat (nat_lit 105)
abbrev c108 : Char := Char.ofNat (nat_lit 108)
abbrev c109 : Char := Char.ofNat (nat_lit 109)
abbrev c110 : Char := Char.ofNat (nat_lit 110)
abbrev c111 : Char := Char.ofNat (nat_lit 111)
abbrev c112 : Char := Char.ofNat (nat_lit 112)
abbrev c115 : Char := Char.ofNat (nat_lit 115)
abbrev c116 : Char := Char.ofNat (nat_lit 116)
abbrev c119 : Char := Char.ofNat (nat_lit 119)
abbrev c120 : Char := Char.ofNat (nat_lit 120)
theorem head : behindMainWord (wordsSigns Try.prog.initOrder.toList) = "cut".toList :: wordsSigns [c97,c116,c32,c108,c111,c111,c112,c46,c101,c120,c97,c109,c112,c108,c101,c47,c103,c48,c48,c56,c57,c55,c47,c108,c97,c119,c115,c46,c70,c110,c69,c120,c97,c99,c116,c83,c105,c116,c101,c115,c67,c111,c110,c110,c101,c99,c116,c32,c108,c111,c111,c112,c46,c101,c120,c97,c109,c112,c108,c101,c47,c103,c48,c48,c56,c57,c55,c47,c108,c97,c119,c115,c46,c70,c110,c69,c120,c97,c99,c116,c70,c101,c119,c101,c115,c116,c83,c105,c116,c101,c115] := head_of _ "3bcce23e1f52fae9b742f9aedc169aa49a34cc07bcdab8bfd3e21e909494459c".toList _ (by kernel_rfl) (by decide +kernel) (by decide +kernel)
theorem makes : Try.prog.make = some .cut := make_of head
theorem lifts : Try.prog.liftsFinal = false := lifts_of head
theorem enters : Try.prog.mayEnter = true := enter_of head (by kernel_rfl) (by kernel_rfl) (by kernel_rfl)
theorem heard : Try.prog.stopsHeard = true := by kernel_rfl
theorem rowed : mapsRowed Try.prog = true := by kernel_rfl
theorem own : ownKnob Try.prog.godebug = none := by kernel_rfl
theorem laidOut : laidOutB Try.prog = true := by kernel_rfl
end AT
