/- What can be read of the laws' arguments, by program (law.py). -/
import Derived.Test.YtiedecncmihbeaaGreatAtBP
import Derived.Test.YtiedecncmihbeaaGreatT
import Derived.Test.YtiedecncmihbeaaGreatOk
set_option linter.unusedVariables false
set_option maxRecDepth 100000
namespace AT
open Go Go.RowKit Go.Proofs
theorem co3 : Tryz.prog.cellsOf 3 = 1 := by kernel_rfl
theorem co4 : Tryz.prog.cellsOf 4 = 1 := by kernel_rfl
theorem co9 : Tryz.prog.cellsOf 9 = 1 := by kernel_rfl
theorem co22 : Tryz.prog.cellsOf 22 = 1 := by kernel_rfl
theorem co23 : Tryz.prog.cellsOf 23 = 1 := by kernel_rfl
theorem co25 : Tryz.prog.cellsOf 25 = 2 := by kernel_rfl
theorem co26 : Tryz.prog.cellsOf 26 = 1 := by kernel_rfl
theorem co28 : Tryz.prog.cellsOf 28 = 3 := by kernel_rfl
theorem co29 : Tryz.prog.cellsOf 29 = 1 := by kernel_rfl
theorem co31 : Tryz.prog.cellsOf 31 = 2 := by kernel_rfl
theorem co33 : Tryz.prog.cellsOf 33 = 2 := by kernel_rfl
theorem co35 : Tryz.prog.cellsOf 35 = 5 := by kernel_rfl
theorem co37 : Tryz.prog.cellsOf 37 = 6 := by kernel_rfl
theorem co63 : Tryz.prog.cellsOf 63 = 1 := by kernel_rfl
theorem co73 : Tryz.prog.cellsOf 73 = 6 := by kernel_rfl
theorem co184 : Tryz.prog.cellsOf 184 = 4 := by kernel_rfl
theorem rd9 : Rd Tryz.prog 9 (ByteArray) ok_Str := rd_str Tryz.underlying9
theorem rd22 : Rd Tryz.prog 22 (List ByteArray) ok_StrS := rd_list Tryz.underlying22 co9 rd9
theorem rd3 : Rd Tryz.prog 3 (Int) ok_Int := rd_int Tryz.underlying3
theorem rd184 : Rd Tryz.prog 184 (Fiber) ok_Fiber := by
  intro H enc w base spare held fuel cs x h
  obtain ⟨xs, n, rfl, -, hl, hxl, hf⟩ := DataW.trod_struct Tryz.underlying184 h
  have g0 : DataW.trod enc Tryz.prog w base spare held n 3 ((cs.drop 0).take (Tryz.prog.cellsOf 3)) = xs[0]? := by have g := hf 0 _ rfl; exact g
  rw [co3] at g0
  obtain ⟨y0, r0, o0⟩ := rd3 H enc w base spare held n _ _ (g0.trans (List.getElem?_eq_getElem (by rw [hxl]; decide)))
  have g1 : DataW.trod enc Tryz.prog w base spare held n 3 ((cs.drop 1).take (Tryz.prog.cellsOf 3)) = xs[1]? := by have g := hf 1 _ rfl; exact g
  rw [co3] at g1
  obtain ⟨y1, r1, o1⟩ := rd3 H enc w base spare held n _ _ (g1.trans (List.getElem?_eq_getElem (by rw [hxl]; decide)))
  have g2 : DataW.trod enc Tryz.prog w base spare held n 3 ((cs.drop 2).take (Tryz.prog.cellsOf 3)) = xs[2]? := by have g := hf 2 _ rfl; exact g
  rw [co3] at g2
  obtain ⟨y2, r2, o2⟩ := rd3 H enc w base spare held n _ _ (g2.trans (List.getElem?_eq_getElem (by rw [hxl]; decide)))
  have g3 : DataW.trod enc Tryz.prog w base spare held n 3 ((cs.drop 3).take (Tryz.prog.cellsOf 3)) = xs[3]? := by have g := hf 3 _ rfl; exact g
  rw [co3] at g3
  obtain ⟨y3, r3, o3⟩ := rd3 H enc w base spare held n _ _ (g3.trans (List.getElem?_eq_getElem (by rw [hxl]; decide)))
  have e0 : cs.drop 0 = (cs.drop 0).take 1 ++ cs.drop 1 := sp_more 0 1
  have e1 : cs.drop 1 = (cs.drop 1).take 1 ++ cs.drop 2 := sp_more 1 1
  have e2 : cs.drop 2 = (cs.drop 2).take 1 ++ cs.drop 3 := sp_more 2 1
  have e3 : cs.drop 3 = (cs.drop 3).take 1 := sp_last 3 1 (by rw [hl, co184])
  have hrep : GoTy.rep w (fun _ => True) (cs.drop 0) (⟨y0, y1, y2, y3⟩ : Fiber) := ⟨_, _, e0, r0, ⟨_, _, e1, r1, ⟨_, _, e2, r2, (by rw [e3]; exact r3)⟩⟩⟩
  exact ⟨_, hrep, o0, o1, o2, o3⟩
theorem rd23 : Rd Tryz.prog 23 (List Fiber) ok_FiberS := rd_list Tryz.underlying23 co184 rd184
theorem rd25 : Rd Tryz.prog 25 (Network) ok_Network := by
  intro H enc w base spare held fuel cs x h
  obtain ⟨xs, n, rfl, -, hl, hxl, hf⟩ := DataW.trod_struct Tryz.underlying25 h
  have g0 : DataW.trod enc Tryz.prog w base spare held n 22 ((cs.drop 0).take (Tryz.prog.cellsOf 22)) = xs[0]? := by have g := hf 0 _ rfl; exact g
  rw [co22] at g0
  obtain ⟨y0, r0, o0⟩ := rd22 H enc w base spare held n _ _ (g0.trans (List.getElem?_eq_getElem (by rw [hxl]; decide)))
  have g1 : DataW.trod enc Tryz.prog w base spare held n 23 ((cs.drop 1).take (Tryz.prog.cellsOf 23)) = xs[1]? := by have g := hf 1 _ rfl; exact g
  rw [co23] at g1
  obtain ⟨y1, r1, o1⟩ := rd23 H enc w base spare held n _ _ (g1.trans (List.getElem?_eq_getElem (by rw [hxl]; decide)))
  have e0 : cs.drop 0 = (cs.drop 0).take 1 ++ cs.drop 1 := sp_more 0 1
  have e1 : cs.drop 1 = (cs.drop 1).take 1 := sp_last 1 1 (by rw [hl, co25])
  have hrep : GoTy.rep w (fun _ => True) (cs.drop 0) (⟨y0, y1⟩ : Network) := ⟨_, _, e0, r0, (by rw [e1]; exact r1)⟩
  exact ⟨_, hrep, o0, o1⟩
theorem rd29 : Rd Tryz.prog 29 (List Int) ok_IntS := rd_list Tryz.underlying29 co3 rd3
theorem rd31 : Rd Tryz.prog 31 (Route) ok_Route := by
  intro H enc w base spare held fuel cs x h
  obtain ⟨xs, n, rfl, -, hl, hxl, hf⟩ := DataW.trod_struct Tryz.underlying31 h
  have g0 : DataW.trod enc Tryz.prog w base spare held n 3 ((cs.drop 0).take (Tryz.prog.cellsOf 3)) = xs[0]? := by have g := hf 0 _ rfl; exact g
  rw [co3] at g0
  obtain ⟨y0, r0, o0⟩ := rd3 H enc w base spare held n _ _ (g0.trans (List.getElem?_eq_getElem (by rw [hxl]; decide)))
  have g1 : DataW.trod enc Tryz.prog w base spare held n 29 ((cs.drop 1).take (Tryz.prog.cellsOf 29)) = xs[1]? := by have g := hf 1 _ rfl; exact g
  rw [co29] at g1
  obtain ⟨y1, r1, o1⟩ := rd29 H enc w base spare held n _ _ (g1.trans (List.getElem?_eq_getElem (by rw [hxl]; decide)))
  have e0 : cs.drop 0 = (cs.drop 0).take 1 ++ cs.drop 1 := sp_more 0 1
  have e1 : cs.drop 1 = (cs.drop 1).take 1 := sp_last 1 1 (by rw [hl, co31])
  have hrep : GoTy.rep w (fun _ => True) (cs.drop 0) (⟨y0, y1⟩ : Route) := ⟨_, _, e0, r0, (by rw [e1]; exact r1)⟩
  exact ⟨_, hrep, o0, o1⟩
theorem rd33 : Rd Tryz.prog 33 (Block) ok_Block := by
  intro H enc w base spare held fuel cs x h
  obtain ⟨xs, n, rfl, -, hl, hxl, hf⟩ := DataW.trod_struct Tryz.underlying33 h
  have g0 : DataW.trod enc Tryz.prog w base spare held n 3 ((cs.drop 0).take (Tryz.prog.cellsOf 3)) = xs[0]? := by have g := hf 0 _ rfl; exact g
  rw [co3] at g0
  obtain ⟨y0, r0, o0⟩ := rd3 H enc w base spare held n _ _ (g0.trans (List.getElem?_eq_getElem (by rw [hxl]; decide)))
  have g1 : DataW.trod enc Tryz.prog w base spare held n 3 ((cs.drop 1).take (Tryz.prog.cellsOf 3)) = xs[1]? := by have g := hf 1 _ rfl; exact g
  rw [co3] at g1
  obtain ⟨y1, r1, o1⟩ := rd3 H enc w base spare held n _ _ (g1.trans (List.getElem?_eq_getElem (by rw [hxl]; decide)))
  have e0 : cs.drop 0 = (cs.drop 0).take 1 ++ cs.drop 1 := sp_more 0 1
  have e1 : cs.drop 1 = (cs.drop 1).take 1 := sp_last 1 1 (by rw [hl, co33])
  have hrep : GoTy.rep w (fun _ => True) (cs.drop 0) (⟨y0, y1⟩ : Block) := ⟨_, _, e0, r0, (by rw [e1]; exact r1)⟩
  exact ⟨_, hrep, o0, o1⟩
theorem rd35 : Rd Tryz.prog 35 (Light) ok_Light := by
  intro H enc w base spare held fuel cs x h
  obtain ⟨xs, n, rfl, -, hl, hxl, hf⟩ := DataW.trod_struct Tryz.underlying35 h
  have g0 : DataW.trod enc Tryz.prog w base spare held n 3 ((cs.drop 0).take (Tryz.prog.cellsOf 3)) = xs[0]? := by have g := hf 0 _ rfl; exact g
  rw [co3] at g0
  obtain ⟨y0, r0, o0⟩ := rd3 H enc w base spare held n _ _ (g0.trans (List.getElem?_eq_getElem (by rw [hxl]; decide)))
  have g1 : DataW.trod enc Tryz.prog w base spare held n 31 ((cs.drop 1).take (Tryz.prog.cellsOf 31)) = xs[1]? := by have g := hf 1 _ rfl; exact g
  rw [co31] at g1
  obtain ⟨y1, r1, o1⟩ := rd31 H enc w base spare held n _ _ (g1.trans (List.getElem?_eq_getElem (by rw [hxl]; decide)))
  have g2 : DataW.trod enc Tryz.prog w base spare held n 33 ((cs.drop 3).take (Tryz.prog.cellsOf 33)) = xs[2]? := by have g := hf 2 _ rfl; exact g
  rw [co33] at g2
  obtain ⟨y2, r2, o2⟩ := rd33 H enc w base spare held n _ _ (g2.trans (List.getElem?_eq_getElem (by rw [hxl]; decide)))
  have e0 : cs.drop 0 = (cs.drop 0).take 1 ++ cs.drop 1 := sp_more 0 1
  have e1 : cs.drop 1 = (cs.drop 1).take 2 ++ cs.drop 3 := sp_more 1 2
  have e2 : cs.drop 3 = (cs.drop 3).take 2 := sp_last 3 2 (by rw [hl, co35])
  have hrep : GoTy.rep w (fun _ => True) (cs.drop 0) (⟨y0, y1, y2⟩ : Light) := ⟨_, _, e0, r0, ⟨_, _, e1, r1, (by rw [e2]; exact r2)⟩⟩
  exact ⟨_, hrep, o0, o1, o2⟩
theorem rd26 : Rd Tryz.prog 26 (List Light) ok_LightS := rd_list Tryz.underlying26 co35 rd35
theorem rd28 : Rd Tryz.prog 28 (Plan) ok_Plan := by
  intro H enc w base spare held fuel cs x h
  obtain ⟨xs, n, rfl, -, hl, hxl, hf⟩ := DataW.trod_struct Tryz.underlying28 h
  have g0 : DataW.trod enc Tryz.prog w base spare held n 25 ((cs.drop 0).take (Tryz.prog.cellsOf 25)) = xs[0]? := by have g := hf 0 _ rfl; exact g
  rw [co25] at g0
  obtain ⟨y0, r0, o0⟩ := rd25 H enc w base spare held n _ _ (g0.trans (List.getElem?_eq_getElem (by rw [hxl]; decide)))
  have g1 : DataW.trod enc Tryz.prog w base spare held n 26 ((cs.drop 2).take (Tryz.prog.cellsOf 26)) = xs[1]? := by have g := hf 1 _ rfl; exact g
  rw [co26] at g1
  obtain ⟨y1, r1, o1⟩ := rd26 H enc w base spare held n _ _ (g1.trans (List.getElem?_eq_getElem (by rw [hxl]; decide)))
  have e0 : cs.drop 0 = (cs.drop 0).take 2 ++ cs.drop 2 := sp_more 0 2
  have e1 : cs.drop 2 = (cs.drop 2).take 1 := sp_last 2 1 (by rw [hl, co28])
  have hrep : GoTy.rep w (fun _ => True) (cs.drop 0) (⟨y0, y1⟩ : Plan) := ⟨_, _, e0, r0, (by rw [e1]; exact r1)⟩
  exact ⟨_, hrep, o0, o1⟩
theorem rd37 : Rd Tryz.prog 37 (Action) ok_Action := by
  intro H enc w base spare held fuel cs x h
  obtain ⟨xs, n, rfl, -, hl, hxl, hf⟩ := DataW.trod_struct Tryz.underlying37 h
  have g0 : DataW.trod enc Tryz.prog w base spare held n 3 ((cs.drop 0).take (Tryz.prog.cellsOf 3)) = xs[0]? := by have g := hf 0 _ rfl; exact g
  rw [co3] at g0
  obtain ⟨y0, r0, o0⟩ := rd3 H enc w base spare held n _ _ (g0.trans (List.getElem?_eq_getElem (by rw [hxl]; decide)))
  have g1 : DataW.trod enc Tryz.prog w base spare held n 35 ((cs.drop 1).take (Tryz.prog.cellsOf 35)) = xs[1]? := by have g := hf 1 _ rfl; exact g
  rw [co35] at g1
  obtain ⟨y1, r1, o1⟩ := rd35 H enc w base spare held n _ _ (g1.trans (List.getElem?_eq_getElem (by rw [hxl]; decide)))
  have e0 : cs.drop 0 = (cs.drop 0).take 1 ++ cs.drop 1 := sp_more 0 1
  have e1 : cs.drop 1 = (cs.drop 1).take 5 := sp_last 1 5 (by rw [hl, co37])
  have hrep : GoTy.rep w (fun _ => True) (cs.drop 0) (⟨y0, y1⟩ : Action) := ⟨_, _, e0, r0, (by rw [e1]; exact r1)⟩
  exact ⟨_, hrep, o0, o1⟩
theorem rd63 : Rd Tryz.prog 63 (List Action) ok_ActionS := rd_list Tryz.underlying63 co37 rd37
theorem rd4 : Rd Tryz.prog 4 (Bool) ok_Bool := rd_bool Tryz.underlying4
theorem rd73 : Rd Tryz.prog 73 (Change) ok_Change := by
  intro H enc w base spare held fuel cs x h
  obtain ⟨xs, n, rfl, -, hl, hxl, hf⟩ := DataW.trod_struct Tryz.underlying73 h
  have g0 : DataW.trod enc Tryz.prog w base spare held n 28 ((cs.drop 0).take (Tryz.prog.cellsOf 28)) = xs[0]? := by have g := hf 0 _ rfl; exact g
  rw [co28] at g0
  obtain ⟨y0, r0, o0⟩ := rd28 H enc w base spare held n _ _ (g0.trans (List.getElem?_eq_getElem (by rw [hxl]; decide)))
  have g1 : DataW.trod enc Tryz.prog w base spare held n 63 ((cs.drop 3).take (Tryz.prog.cellsOf 63)) = xs[1]? := by have g := hf 1 _ rfl; exact g
  rw [co63] at g1
  obtain ⟨y1, r1, o1⟩ := rd63 H enc w base spare held n _ _ (g1.trans (List.getElem?_eq_getElem (by rw [hxl]; decide)))
  have g2 : DataW.trod enc Tryz.prog w base spare held n 63 ((cs.drop 4).take (Tryz.prog.cellsOf 63)) = xs[2]? := by have g := hf 2 _ rfl; exact g
  rw [co63] at g2
  obtain ⟨y2, r2, o2⟩ := rd63 H enc w base spare held n _ _ (g2.trans (List.getElem?_eq_getElem (by rw [hxl]; decide)))
  have g3 : DataW.trod enc Tryz.prog w base spare held n 4 ((cs.drop 5).take (Tryz.prog.cellsOf 4)) = xs[3]? := by have g := hf 3 _ rfl; exact g
  rw [co4] at g3
  obtain ⟨y3, r3, o3⟩ := rd4 H enc w base spare held n _ _ (g3.trans (List.getElem?_eq_getElem (by rw [hxl]; decide)))
  have e0 : cs.drop 0 = (cs.drop 0).take 3 ++ cs.drop 3 := sp_more 0 3
  have e1 : cs.drop 3 = (cs.drop 3).take 1 ++ cs.drop 4 := sp_more 3 1
  have e2 : cs.drop 4 = (cs.drop 4).take 1 ++ cs.drop 5 := sp_more 4 1
  have e3 : cs.drop 5 = (cs.drop 5).take 1 := sp_last 5 1 (by rw [hl, co73])
  have hrep : GoTy.rep w (fun _ => True) (cs.drop 0) (⟨y0, y1, y2, y3⟩ : Change) := ⟨_, _, e0, r0, ⟨_, _, e1, r1, ⟨_, _, e2, r2, (by rw [e3]; exact r3)⟩⟩⟩
  exact ⟨_, hrep, o0, o1, o2, o3⟩
abbrev c32 : Char := Char.ofNat (nat_lit 32)
abbrev c46 : Char := Char.ofNat (nat_lit 46)
abbrev c47 : Char := Char.ofNat (nat_lit 47)
abbrev c48 : Char := Char.ofNat (nat_lit 48)
abbrev c55 : Char := Char.ofNat (nat_lit 55)
abbrev c56 : Char := Char.ofNat (nat_lit 56)
abbrev c57 : Char := Char.ofNat (nat_lit 57)
abbrev c65 : Char := Char.ofNat (nat_lit 65)
abbrev c67 : Char := Char.ofNat (nat_lit 67)
abbrev c69 : Char := Char.ofNat (nat_lit 69)
abbrev c70 : Char := Char.ofNat (nat_lit 70)
abbrev c73 : Char := Char.ofNat (nat_lit 73)
abbrev c76 : Char := Char.ofNat (nat_lit 76)
abbrev c82 : Char := Char.ofNat (nat_lit 82)
abbrev c83 : Char := Char.ofNat (nat_lit 83)
abbrev c97 : Char := Char.ofNat (nat_lit 97)
abbrev c99 : Char := Char.ofNat (nat_lit 99)
abbrev c101 : Char := Char.ofNat (nat_lit 101)
abbrev c103 : Char := Char.ofNat (nat_lit 103)
abbrev c104 : Char := Char.ofNat (nat_lit 104)
abbrev c105 : Char := Char.ofNat (nat_lit 105)
abbrev c108 : Char := Char.ofNat (nat_lit 108)
abbrev c109 : Char := Char.ofNat (nat_lit 109)
abbrev c110 : Char := Char.ofNat (nat_lit 110)
abbrev c111 : Char := Char.ofNat (nat_lit 111)
abbrev c112 : Char := Char.ofNat (nat_lit 112)
abbrev c114 : Char := Char.ofNat (nat_lit 114)
abbrev c115 : Char := Char.ofNat (nat_lit 115)
abbrev c116 : Char := Char.ofNat (nat_lit 116)
abbrev c117 : Char := Char.ofNat (nat_lit 117)
abbrev c118 : Char := Char.ofNat (nat_lit 118)
abbrev c119 : Char := Char.ofNat (nat_lit 119)
abbrev c120 : Char := Char.ofNat (nat_lit 120)
abbrev c121 : Char := Char.ofNat (nat_lit 121)
theorem head : behindMainWord (wordsSigns Tryz.prog.initOrder.toList) = "cut".toList :: wordsSigns [c97,c116,c32,c108,c111,c111,c112,c46,c101,c120,c97,c109,c112,c108,c101,c47,c103,c48,c48,c56,c57,c55,c47,c108,c97,c119,c115,c46,c70,c110,c69,c120,c97,c99,c116,c65,c112,c112,c108,c121,c65,c99,c116,c105,c111,c110,c32,c108,c111,c111,c112,c46,c101,c120,c97,c109,c112,c108,c101,c47,c103,c48,c48,c56,c57,c55,c47,c108,c97,c119,c115,c46,c70,c110,c69,c120,c97,c99,c116,c73,c110,c118,c101,c114,c115,c101,c65,c99,c116,c105,c111,c110,c32,c108,c111,c111,c112,c46,c101,c120,c97,c109,c112,c108,c101,c47,c103,c48,c48,c56,c57,c55,c47,c108,c97,c119,c115,c46,c70,c110,c69,c120,c97,c99,c116,c65,c112,c112,c108,c121,c65,c99,c116,c105,c111,c110,c115,c32,c108,c111,c111,c112,c46,c101,c120,c97,c109,c112,c108,c101,c47,c103,c48,c48,c56,c57,c55,c47,c108,c97,c119,c115,c46,c70,c110,c69,c120,c97,c99,c116,c83,c116,c101,c112,c67,c104,c97,c110,c103,c101,c32,c108,c111,c111,c112,c46,c101,c120,c97,c109,c112,c108,c101,c47,c103,c48,c48,c56,c57,c55,c47,c108,c97,c119,c115,c46,c70,c110,c69,c120,c97,c99,c116,c82,c117,c110,c67,c104,c97,c110,c103,c101,c32,c108,c111,c111,c112,c46,c101,c120,c97,c109,c112,c108,c101,c47,c103,c48,c48,c56,c57,c55,c47,c108,c97,c119,c115,c46,c70,c110,c73,c110,c118,c101,c114,c115,c101,c115,c32,c108,c111,c111,c112,c46,c101,c120,c97,c109,c112,c108,c101,c47,c103,c48,c48,c56,c57,c55,c47,c108,c97,c119,c115,c46,c70,c110,c67,c104,c97,c110,c103,c101,c115,c32,c108,c111,c111,c112,c46,c101,c120,c97,c109,c112,c108,c101,c47,c103,c48,c48,c56,c57,c55,c47,c108,c97,c119,c115,c46,c70,c110,c76,c105,c103,c104,c116,c115] := head_of _ "7e40e25e041da38d6979a8e1607d864c376d876dd0d072e4408db92520a39049".toList _ (by kernel_rfl) (by decide +kernel) (by decide +kernel)
theorem makes : Tryz.prog.make = some .cut := make_of head
theorem lifts : Tryz.prog.liftsFinal = false := lifts_of head
theorem enters : Tryz.prog.mayEnter = true := enter_of head (by kernel_rfl) (by kernel_rfl) (by kernel_rfl)
theorem heard : Tryz.prog.stopsHeard = true := by kernel_rfl
theorem rowed : mapsRowed Tryz.prog = true := by kernel_rfl
theorem own : ownKnob Tryz.prog.godebug = none := by kernel_rfl
theorem laidOut : laidOutB Tryz.prog = true := by kernel_rfl
end AT
