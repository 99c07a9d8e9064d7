/- What can be read of the laws' arguments, by program (law.py). -/
import Derived.Test.YtmokfdffnijbbaaGreatAtBP
import Derived.Test.YtmokfdffnijbbaaGreatT
import Derived.Test.YtmokfdffnijbbaaGreatOk
set_option linter.unusedVariables false
set_option maxRecDepth 100000
namespace AT
open Go Go.RowKit Go.Proofs
theorem co3 : Tryz.prog.cellsOf 3 = 1 := by kernel_rfl
theorem co9 : Tryz.prog.cellsOf 9 = 1 := by kernel_rfl
theorem co22 : Tryz.prog.cellsOf 22 = 1 := by kernel_rfl
theorem co23 : Tryz.prog.cellsOf 23 = 1 := by kernel_rfl
theorem co25 : Tryz.prog.cellsOf 25 = 2 := by kernel_rfl
theorem co26 : Tryz.prog.cellsOf 26 = 1 := by kernel_rfl
theorem co28 : Tryz.prog.cellsOf 28 = 3 := by kernel_rfl
theorem co47 : Tryz.prog.cellsOf 47 = 1 := by kernel_rfl
theorem co149 : Tryz.prog.cellsOf 149 = 2 := by kernel_rfl
theorem co150 : Tryz.prog.cellsOf 150 = 2 := by kernel_rfl
theorem co152 : Tryz.prog.cellsOf 152 = 5 := by kernel_rfl
theorem co197 : Tryz.prog.cellsOf 197 = 4 := by kernel_rfl
theorem rd9 : Rd Tryz.prog 9 (ByteArray) ok_Str := rd_str Tryz.underlying9
theorem rd22 : Rd Tryz.prog 22 (List ByteArray) ok_StrS := rd_list Tryz.underlying22 co9 rd9
theorem rd3 : Rd Tryz.prog 3 (Int) ok_Int := rd_int Tryz.underlying3
theorem rd197 : Rd Tryz.prog 197 (Fiber) ok_Fiber := by
  intro H enc w base spare held fuel cs x h
  obtain ⟨xs, n, rfl, -, hl, hxl, hf⟩ := DataW.trod_struct Tryz.underlying197 h
  have g0 : DataW.trod enc Tryz.prog w base spare held n 3 ((cs.drop 0).take (Tryz.prog.cellsOf 3)) = xs[0]? := by have g := hf 0 _ rfl; exact g
  rw [co3] at g0
  obtain ⟨y0, r0, o0⟩ := rd3 H enc w base spare held n _ _ (g0.trans (List.getElem?_eq_getElem (by rw [hxl]; decide)))
  have g1 : DataW.trod enc Tryz.prog w base spare held n 3 ((cs.drop 1).take (Tryz.prog.cellsOf 3)) = xs[1]? := by have g := hf 1 _ rfl; exact g
  rw [co3] at g1
  obtain ⟨y1, r1, o1⟩ := rd3 H enc w base spare held n _ _ (g1.trans (List.getElem?_eq_getElem (by rw [hxl]; decide)))
  have g2 : DataW.trod enc Tryz.prog w base spare held n 3 ((cs.drop 2).take (Tryz.prog.cellsOf 3)) = xs[2]? := by have g := hf 2 _ rfl; exact g
  rw [co3] at g2
  obtain ⟨y2, r2, o2⟩ := rd3 H enc w base spare held n _ _ (g2.trans (List.getElem?_eq_getElem (by rw [hxl]; decide)))
  have g3 : DataW.trod enc Tryz.prog w base spare held n 3 ((cs.drop 3).take (Tryz.prog.cellsOf 3)) = xs[3]? := by have g := hf 3 _ rfl; exact g
  rw [co3] at g3
  obtain ⟨y3, r3, o3⟩ := rd3 H enc w base spare held n _ _ (g3.trans (List.getElem?_eq_getElem (by rw [hxl]; decide)))
  have e0 : cs.drop 0 = (cs.drop 0).take 1 ++ cs.drop 1 := sp_more 0 1
  have e1 : cs.drop 1 = (cs.drop 1).take 1 ++ cs.drop 2 := sp_more 1 1
  have e2 : cs.drop 2 = (cs.drop 2).take 1 ++ cs.drop 3 := sp_more 2 1
  have e3 : cs.drop 3 = (cs.drop 3).take 1 := sp_last 3 1 (by rw [hl, co197])
  have hrep : GoTy.rep w (fun _ => True) (cs.drop 0) (⟨y0, y1, y2, y3⟩ : Fiber) := ⟨_, _, e0, r0, ⟨_, _, e1, r1, ⟨_, _, e2, r2, (by rw [e3]; exact r3)⟩⟩⟩
  exact ⟨_, hrep, o0, o1, o2, o3⟩
theorem rd23 : Rd Tryz.prog 23 (List Fiber) ok_FiberS := rd_list Tryz.underlying23 co197 rd197
theorem rd25 : Rd Tryz.prog 25 (Network) ok_Network := by
  intro H enc w base spare held fuel cs x h
  obtain ⟨xs, n, rfl, -, hl, hxl, hf⟩ := DataW.trod_struct Tryz.underlying25 h
  have g0 : DataW.trod enc Tryz.prog w base spare held n 22 ((cs.drop 0).take (Tryz.prog.cellsOf 22)) = xs[0]? := by have g := hf 0 _ rfl; exact g
  rw [co22] at g0
  obtain ⟨y0, r0, o0⟩ := rd22 H enc w base spare held n _ _ (g0.trans (List.getElem?_eq_getElem (by rw [hxl]; decide)))
  have g1 : DataW.trod enc Tryz.prog w base spare held n 23 ((cs.drop 1).take (Tryz.prog.cellsOf 23)) = xs[1]? := by have g := hf 1 _ rfl; exact g
  rw [co23] at g1
  obtain ⟨y1, r1, o1⟩ := rd23 H enc w base spare held n _ _ (g1.trans (List.getElem?_eq_getElem (by rw [hxl]; decide)))
  have e0 : cs.drop 0 = (cs.drop 0).take 1 ++ cs.drop 1 := sp_more 0 1
  have e1 : cs.drop 1 = (cs.drop 1).take 1 := sp_last 1 1 (by rw [hl, co25])
  have hrep : GoTy.rep w (fun _ => True) (cs.drop 0) (⟨y0, y1⟩ : Network) := ⟨_, _, e0, r0, (by rw [e1]; exact r1)⟩
  exact ⟨_, hrep, o0, o1⟩
theorem rd47 : Rd Tryz.prog 47 (List Int) ok_IntS := rd_list Tryz.underlying47 co3 rd3
theorem rd149 : Rd Tryz.prog 149 (Route) ok_Route := by
  intro H enc w base spare held fuel cs x h
  obtain ⟨xs, n, rfl, -, hl, hxl, hf⟩ := DataW.trod_struct Tryz.underlying149 h
  have g0 : DataW.trod enc Tryz.prog w base spare held n 3 ((cs.drop 0).take (Tryz.prog.cellsOf 3)) = xs[0]? := by have g := hf 0 _ rfl; exact g
  rw [co3] at g0
  obtain ⟨y0, r0, o0⟩ := rd3 H enc w base spare held n _ _ (g0.trans (List.getElem?_eq_getElem (by rw [hxl]; decide)))
  have g1 : DataW.trod enc Tryz.prog w base spare held n 47 ((cs.drop 1).take (Tryz.prog.cellsOf 47)) = xs[1]? := by have g := hf 1 _ rfl; exact g
  rw [co47] at g1
  obtain ⟨y1, r1, o1⟩ := rd47 H enc w base spare held n _ _ (g1.trans (List.getElem?_eq_getElem (by rw [hxl]; decide)))
  have e0 : cs.drop 0 = (cs.drop 0).take 1 ++ cs.drop 1 := sp_more 0 1
  have e1 : cs.drop 1 = (cs.drop 1).take 1 := sp_last 1 1 (by rw [hl, co149])
  have hrep : GoTy.rep w (fun _ => True) (cs.drop 0) (⟨y0, y1⟩ : Route) := ⟨_, _, e0, r0, (by rw [e1]; exact r1)⟩
  exact ⟨_, hrep, o0, o1⟩
theorem rd150 : Rd Tryz.prog 150 (Block) ok_Block := by
  intro H enc w base spare held fuel cs x h
  obtain ⟨xs, n, rfl, -, hl, hxl, hf⟩ := DataW.trod_struct Tryz.underlying150 h
  have g0 : DataW.trod enc Tryz.prog w base spare held n 3 ((cs.drop 0).take (Tryz.prog.cellsOf 3)) = xs[0]? := by have g := hf 0 _ rfl; exact g
  rw [co3] at g0
  obtain ⟨y0, r0, o0⟩ := rd3 H enc w base spare held n _ _ (g0.trans (List.getElem?_eq_getElem (by rw [hxl]; decide)))
  have g1 : DataW.trod enc Tryz.prog w base spare held n 3 ((cs.drop 1).take (Tryz.prog.cellsOf 3)) = xs[1]? := by have g := hf 1 _ rfl; exact g
  rw [co3] at g1
  obtain ⟨y1, r1, o1⟩ := rd3 H enc w base spare held n _ _ (g1.trans (List.getElem?_eq_getElem (by rw [hxl]; decide)))
  have e0 : cs.drop 0 = (cs.drop 0).take 1 ++ cs.drop 1 := sp_more 0 1
  have e1 : cs.drop 1 = (cs.drop 1).take 1 := sp_last 1 1 (by rw [hl, co150])
  have hrep : GoTy.rep w (fun _ => True) (cs.drop 0) (⟨y0, y1⟩ : Block) := ⟨_, _, e0, r0, (by rw [e1]; exact r1)⟩
  exact ⟨_, hrep, o0, o1⟩
theorem rd152 : Rd Tryz.prog 152 (Light) ok_Light := by
  intro H enc w base spare held fuel cs x h
  obtain ⟨xs, n, rfl, -, hl, hxl, hf⟩ := DataW.trod_struct Tryz.underlying152 h
  have g0 : DataW.trod enc Tryz.prog w base spare held n 3 ((cs.drop 0).take (Tryz.prog.cellsOf 3)) = xs[0]? := by have g := hf 0 _ rfl; exact g
  rw [co3] at g0
  obtain ⟨y0, r0, o0⟩ := rd3 H enc w base spare held n _ _ (g0.trans (List.getElem?_eq_getElem (by rw [hxl]; decide)))
  have g1 : DataW.trod enc Tryz.prog w base spare held n 149 ((cs.drop 1).take (Tryz.prog.cellsOf 149)) = xs[1]? := by have g := hf 1 _ rfl; exact g
  rw [co149] at g1
  obtain ⟨y1, r1, o1⟩ := rd149 H enc w base spare held n _ _ (g1.trans (List.getElem?_eq_getElem (by rw [hxl]; decide)))
  have g2 : DataW.trod enc Tryz.prog w base spare held n 150 ((cs.drop 3).take (Tryz.prog.cellsOf 150)) = xs[2]? := by have g := hf 2 _ rfl; exact g
  rw [co150] at g2
  obtain ⟨y2, r2, o2⟩ := rd150 H enc w base spare held n _ _ (g2.trans (List.getElem?_eq_getElem (by rw [hxl]; decide)))
  have e0 : cs.drop 0 = (cs.drop 0).take 1 ++ cs.drop 1 := sp_more 0 1
  have e1 : cs.drop 1 = (cs.drop 1).take 2 ++ cs.drop 3 := sp_more 1 2
  have e2 : cs.drop 3 = (cs.drop 3).take 2 := sp_last 3 2 (by rw [hl, co152])
  have hrep : GoTy.rep w (fun _ => True) (cs.drop 0) (⟨y0, y1, y2⟩ : Light) := ⟨_, _, e0, r0, ⟨_, _, e1, r1, (by rw [e2]; exact r2)⟩⟩
  exact ⟨_, hrep, o0, o1, o2⟩
theorem rd26 : Rd Tryz.prog 26 (List Light) ok_LightS := rd_list Tryz.underlying26 co152 rd152
theorem rd28 : Rd Tryz.prog 28 (Plan) ok_Plan := by
  intro H enc w base spare held fuel cs x h
  obtain ⟨xs, n, rfl, -, hl, hxl, hf⟩ := DataW.trod_struct Tryz.underlying28 h
  have g0 : DataW.trod enc Tryz.prog w base spare held n 25 ((cs.drop 0).take (Tryz.prog.cellsOf 25)) = xs[0]? := by have g := hf 0 _ rfl; exact g
  rw [co25] at g0
  obtain ⟨y0, r0, o0⟩ := rd25 H enc w base spare held n _ _ (g0.trans (List.getElem?_eq_getElem (by rw [hxl]; decide)))
  have g1 : DataW.trod enc Tryz.prog w base spare held n 26 ((cs.drop 2).take (Tryz.prog.cellsOf 26)) = xs[1]? := by have g := hf 1 _ rfl; exact g
  rw [co26] at g1
  obtain ⟨y1, r1, o1⟩ := rd26 H enc w base spare held n _ _ (g1.trans (List.getElem?_eq_getElem (by rw [hxl]; decide)))
  have e0 : cs.drop 0 = (cs.drop 0).take 2 ++ cs.drop 2 := sp_more 0 2
  have e1 : cs.drop 2 = (cs.drop 2).take 1 := sp_last 2 1 (by rw [hl, co28])
  have hrep : GoTy.rep w (fun _ => True) (cs.drop 0) (⟨y0, y1⟩ : Plan) := ⟨_, _, e0, r0, (by rw [e1]; exact r1)⟩
  exact ⟨_, hrep, o0, o1⟩
abbrev c32 : Char := Char.ofNat (nat_lit 32)
abbrev c46 : Char := Char.ofNat (nat_lit 46)
abbrev c47 : Char := Char.ofNat (nat_lit 47)
abbrev c48 : Char := Char.ofNat (nat_lit 48)
abbrev c55 : Char := Char.ofNat (nat_lit 55)
abbrev c56 : Char := Char.ofNat (nat_lit 56)
abbrev c57 : Char := Char.ofNat (nat_lit 57)
abbrev c67 : Char := Char.ofNat (nat_lit 67)
abbrev c68 : Char := Char.ofNat (nat_lit 68)
abbrev c69 : Char := Char.ofNat (nat_lit 69)
abbrev c70 : Char := Char.ofNat (nat_lit 70)
abbrev c72 : Char := Char.ofNat (nat_lit 72)
abbrev c76 : Char := Char.ofNat (nat_lit 76)
abbrev c79 : Char := Char.ofNat (nat_lit 79)
abbrev c80 : Char := Char.ofNat (nat_lit 80)
abbrev c83 : Char := Char.ofNat (nat_lit 83)
abbrev c97 : Char := Char.ofNat (nat_lit 97)
abbrev c99 : Char := Char.ofNat (nat_lit 99)
abbrev c100 : Char := Char.ofNat (nat_lit 100)
abbrev c101 : Char := Char.ofNat (nat_lit 101)
abbrev c102 : Char := Char.ofNat (nat_lit 102)
abbrev c103 : Char := Char.ofNat (nat_lit 103)
abbrev c104 : Char := Char.ofNat (nat_lit 104)
abbrev c105 : Char := Char.ofNat (nat_lit 105)
abbrev c108 : Char := Char.ofNat (nat_lit 108)
abbrev c109 : Char := Char.ofNat (nat_lit 109)
abbrev c110 : Char := Char.ofNat (nat_lit 110)
abbrev c111 : Char := Char.ofNat (nat_lit 111)
abbrev c112 : Char := Char.ofNat (nat_lit 112)
abbrev c114 : Char := Char.ofNat (nat_lit 114)
abbrev c115 : Char := Char.ofNat (nat_lit 115)
abbrev c116 : Char := Char.ofNat (nat_lit 116)
abbrev c119 : Char := Char.ofNat (nat_lit 119)
abbrev c120 : Char := Char.ofNat (nat_lit 120)
theorem head : behindMainWord (wordsSigns Tryz.prog.initOrder.toList) = "cut".toList :: wordsSigns [c97,c116,c32,c108,c111,c111,c112,c46,c101,c120,c97,c109,c112,c108,c101,c47,c103,c48,c48,c56,c57,c55,c47,c108,c97,c119,c115,c46,c70,c110,c69,c120,c97,c99,c116,c76,c111,c119,c101,c115,c116,c72,c101,c105,c103,c104,c116,c32,c108,c111,c111,c112,c46,c101,c120,c97,c109,c112,c108,c101,c47,c103,c48,c48,c56,c57,c55,c47,c108,c97,c119,c115,c46,c70,c110,c69,c120,c97,c99,c116,c67,c111,c109,c112,c97,c99,c116,c80,c108,c97,c110,c32,c108,c111,c111,c112,c46,c101,c120,c97,c109,c112,c108,c101,c47,c103,c48,c48,c56,c57,c55,c47,c108,c97,c119,c115,c46,c70,c110,c69,c120,c97,c99,c116,c32,c108,c111,c111,c112,c46,c101,c120,c97,c109,c112,c108,c101,c47,c103,c48,c48,c56,c57,c55,c47,c108,c97,c119,c115,c46,c70,c110,c68,c101,c102,c114,c97,c103,c109,c101,c110,c116,c97,c116,c105,c111,c110,c32,c108,c111,c111,c112,c46,c101,c120,c97,c109,c112,c108,c101,c47,c103,c48,c48,c56,c57,c55,c47,c108,c97,c119,c115,c46,c70,c110,c69,c120,c97,c99,c116,c83,c97,c102,c101,c79,c114,c100,c101,c114,c32,c108,c111,c111,c112,c46,c101,c120,c97,c109,c112,c108,c101,c47,c103,c48,c48,c56,c57,c55,c47,c108,c97,c119,c115,c46,c70,c110,c83,c97,c102,c101,c79,c114,c100,c101,c114] := head_of _ "5855fc080800342f8c97d0032cff6ed465f779ca2b6cd7305baddbfb36e1e3ac".toList _ (by kernel_rfl) (by decide +kernel) (by decide +kernel)
theorem makes : Tryz.prog.make = some .cut := make_of head
theorem lifts : Tryz.prog.liftsFinal = false := lifts_of head
theorem enters : Tryz.prog.mayEnter = true := enter_of head (by kernel_rfl) (by kernel_rfl) (by kernel_rfl)
theorem heard : Tryz.prog.stopsHeard = true := by kernel_rfl
theorem rowed : mapsRowed Tryz.prog = true := by kernel_rfl
theorem own : ownKnob Tryz.prog.godebug = none := by kernel_rfl
theorem laidOut : laidOutB Tryz.prog = true := by kernel_rfl
end AT
