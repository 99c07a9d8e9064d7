/- What can be read of the laws' arguments, by program (law.py). -/
import Derived.Test.YtlemonjnolciiaaGreatAtPM
import Derived.Test.YtlemonjnolciiaaGreatT
import Derived.Test.YtlemonjnolciiaaGreatOk
set_option linter.unusedVariables false
set_option maxRecDepth 100000
namespace AT
open Go Go.RowKit Go.Proofs
theorem co3:Tryz.prog.cellsOf 3=1:=by kernel_rfl
theorem co9:Tryz.prog.cellsOf 9=1:=by kernel_rfl
theorem co24:Tryz.prog.cellsOf 24=1:=by kernel_rfl
theorem co35:Tryz.prog.cellsOf 35=1:=by kernel_rfl
theorem co75:Tryz.prog.cellsOf 75=1:=by kernel_rfl
theorem co77:Tryz.prog.cellsOf 77=2:=by kernel_rfl
theorem co78:Tryz.prog.cellsOf 78=1:=by kernel_rfl
theorem co80:Tryz.prog.cellsOf 80=3:=by kernel_rfl
theorem qb:Tryz.prog.cellsOf 218=2:=by kernel_rfl
theorem qa:Tryz.prog.cellsOf 219=2:=by kernel_rfl
theorem pZ:Tryz.prog.cellsOf 221=5:=by kernel_rfl
theorem pY:Tryz.prog.cellsOf 261=4:=by kernel_rfl
theorem rd9:Rd Tryz.prog 9 (ByteArray) mc:=pO Tryz.underlying9
theorem rd24:Rd Tryz.prog 24 (List ByteArray) jz:=ic Tryz.underlying24 co9 rd9
theorem rd3:Rd Tryz.prog 3 (Int) dj:=pP Tryz.underlying3
theorem qC:Rd Tryz.prog 261 (Np) j4:=by
  intro H enc w base spare held fuel cs x h
  obtain ⟨xs,n,rfl,-,hl,hxl,hf⟩:=DataW.trod_struct Tryz.underlying261 h
  have g0:DataW.trod enc Tryz.prog w base spare held n 3 ((cs.drop 0).take (Tryz.prog.cellsOf 3))=xs[0]?:=by have g:=hf 0 _ rfl; exact g
  rw [co3] at g0
  obtain ⟨y0,r0,o0⟩:=rd3 H enc w base spare held n _ _ (g0.trans (List.getElem?_eq_getElem (by rw [hxl]; decide)))
  have g1:DataW.trod enc Tryz.prog w base spare held n 3 ((cs.drop 1).take (Tryz.prog.cellsOf 3))=xs[1]?:=by have g:=hf 1 _ rfl; exact g
  rw [co3] at g1
  obtain ⟨y1,r1,o1⟩:=rd3 H enc w base spare held n _ _ (g1.trans (List.getElem?_eq_getElem (by rw [hxl]; decide)))
  have g2:DataW.trod enc Tryz.prog w base spare held n 3 ((cs.drop 2).take (Tryz.prog.cellsOf 3))=xs[2]?:=by have g:=hf 2 _ rfl; exact g
  rw [co3] at g2
  obtain ⟨y2,r2,o2⟩:=rd3 H enc w base spare held n _ _ (g2.trans (List.getElem?_eq_getElem (by rw [hxl]; decide)))
  have g3:DataW.trod enc Tryz.prog w base spare held n 3 ((cs.drop 3).take (Tryz.prog.cellsOf 3))=xs[3]?:=by have g:=hf 3 _ rfl; exact g
  rw [co3] at g3
  obtain ⟨y3,r3,o3⟩:=rd3 H enc w base spare held n _ _ (g3.trans (List.getElem?_eq_getElem (by rw [hxl]; decide)))
  have e0:cs.drop 0=(cs.drop 0).take 1++cs.drop 1:=b8 0 1
  have e1:cs.drop 1=(cs.drop 1).take 1++cs.drop 2:=b8 1 1
  have e2:cs.drop 2=(cs.drop 2).take 1++cs.drop 3:=b8 2 1
  have e3:cs.drop 3=(cs.drop 3).take 1:=ei 3 1 (by rw [hl,pY])
  have hrep:GoTy.rep w (fun _=>True) (cs.drop 0) (⟨y0,y1,y2,y3⟩:Np):=⟨_,_,e0,r0,⟨_,_,e1,r1,⟨_,_,e2,r2,(by rw [e3]; exact r3)⟩⟩⟩
  exact ⟨_,hrep,o0,o1,o2,o3⟩
theorem rd75:Rd Tryz.prog 75 (List Np) fN:=ic Tryz.underlying75 pY qC
theorem rd77:Rd Tryz.prog 77 (Nk) eo:=by
  intro H enc w base spare held fuel cs x h
  obtain ⟨xs,n,rfl,-,hl,hxl,hf⟩:=DataW.trod_struct Tryz.underlying77 h
  have g0:DataW.trod enc Tryz.prog w base spare held n 24 ((cs.drop 0).take (Tryz.prog.cellsOf 24))=xs[0]?:=by have g:=hf 0 _ rfl; exact g
  rw [co24] at g0
  obtain ⟨y0,r0,o0⟩:=rd24 H enc w base spare held n _ _ (g0.trans (List.getElem?_eq_getElem (by rw [hxl]; decide)))
  have g1:DataW.trod enc Tryz.prog w base spare held n 75 ((cs.drop 1).take (Tryz.prog.cellsOf 75))=xs[1]?:=by have g:=hf 1 _ rfl; exact g
  rw [co75] at g1
  obtain ⟨y1,r1,o1⟩:=rd75 H enc w base spare held n _ _ (g1.trans (List.getElem?_eq_getElem (by rw [hxl]; decide)))
  have e0:cs.drop 0=(cs.drop 0).take 1++cs.drop 1:=b8 0 1
  have e1:cs.drop 1=(cs.drop 1).take 1:=ei 1 1 (by rw [hl,co77])
  have hrep:GoTy.rep w (fun _=>True) (cs.drop 0) (⟨y0,y1⟩:Nk):=⟨_,_,e0,r0,(by rw [e1]; exact r1)⟩
  exact ⟨_,hrep,o0,o1⟩
theorem rd35:Rd Tryz.prog 35 (List Int) jA:=ic Tryz.underlying35 co3 rd3
theorem qF:Rd Tryz.prog 218 (Nz) ij:=by
  intro H enc w base spare held fuel cs x h
  obtain ⟨xs,n,rfl,-,hl,hxl,hf⟩:=DataW.trod_struct Tryz.underlying218 h
  have g0:DataW.trod enc Tryz.prog w base spare held n 3 ((cs.drop 0).take (Tryz.prog.cellsOf 3))=xs[0]?:=by have g:=hf 0 _ rfl; exact g
  rw [co3] at g0
  obtain ⟨y0,r0,o0⟩:=rd3 H enc w base spare held n _ _ (g0.trans (List.getElem?_eq_getElem (by rw [hxl]; decide)))
  have g1:DataW.trod enc Tryz.prog w base spare held n 35 ((cs.drop 1).take (Tryz.prog.cellsOf 35))=xs[1]?:=by have g:=hf 1 _ rfl; exact g
  rw [co35] at g1
  obtain ⟨y1,r1,o1⟩:=rd35 H enc w base spare held n _ _ (g1.trans (List.getElem?_eq_getElem (by rw [hxl]; decide)))
  have e0:cs.drop 0=(cs.drop 0).take 1++cs.drop 1:=b8 0 1
  have e1:cs.drop 1=(cs.drop 1).take 1:=ei 1 1 (by rw [hl,qb])
  have hrep:GoTy.rep w (fun _=>True) (cs.drop 0) (⟨y0,y1⟩:Nz):=⟨_,_,e0,r0,(by rw [e1]; exact r1)⟩
  exact ⟨_,hrep,o0,o1⟩
theorem qE:Rd Tryz.prog 219 (Nj) j5:=by
  intro H enc w base spare held fuel cs x h
  obtain ⟨xs,n,rfl,-,hl,hxl,hf⟩:=DataW.trod_struct Tryz.underlying219 h
  have g0:DataW.trod enc Tryz.prog w base spare held n 3 ((cs.drop 0).take (Tryz.prog.cellsOf 3))=xs[0]?:=by have g:=hf 0 _ rfl; exact g
  rw [co3] at g0
  obtain ⟨y0,r0,o0⟩:=rd3 H enc w base spare held n _ _ (g0.trans (List.getElem?_eq_getElem (by rw [hxl]; decide)))
  have g1:DataW.trod enc Tryz.prog w base spare held n 3 ((cs.drop 1).take (Tryz.prog.cellsOf 3))=xs[1]?:=by have g:=hf 1 _ rfl; exact g
  rw [co3] at g1
  obtain ⟨y1,r1,o1⟩:=rd3 H enc w base spare held n _ _ (g1.trans (List.getElem?_eq_getElem (by rw [hxl]; decide)))
  have e0:cs.drop 0=(cs.drop 0).take 1++cs.drop 1:=b8 0 1
  have e1:cs.drop 1=(cs.drop 1).take 1:=ei 1 1 (by rw [hl,qa])
  have hrep:GoTy.rep w (fun _=>True) (cs.drop 0) (⟨y0,y1⟩:Nj):=⟨_,_,e0,r0,(by rw [e1]; exact r1)⟩
  exact ⟨_,hrep,o0,o1⟩
theorem qD:Rd Tryz.prog 221 (Nw) ik:=by
  intro H enc w base spare held fuel cs x h
  obtain ⟨xs,n,rfl,-,hl,hxl,hf⟩:=DataW.trod_struct Tryz.underlying221 h
  have g0:DataW.trod enc Tryz.prog w base spare held n 3 ((cs.drop 0).take (Tryz.prog.cellsOf 3))=xs[0]?:=by have g:=hf 0 _ rfl; exact g
  rw [co3] at g0
  obtain ⟨y0,r0,o0⟩:=rd3 H enc w base spare held n _ _ (g0.trans (List.getElem?_eq_getElem (by rw [hxl]; decide)))
  have g1:DataW.trod enc Tryz.prog w base spare held n 218 ((cs.drop 1).take (Tryz.prog.cellsOf 218))=xs[1]?:=by have g:=hf 1 _ rfl; exact g
  rw [qb] at g1
  obtain ⟨y1,r1,o1⟩:=qF H enc w base spare held n _ _ (g1.trans (List.getElem?_eq_getElem (by rw [hxl]; decide)))
  have g2:DataW.trod enc Tryz.prog w base spare held n 219 ((cs.drop 3).take (Tryz.prog.cellsOf 219))=xs[2]?:=by have g:=hf 2 _ rfl; exact g
  rw [qa] at g2
  obtain ⟨y2,r2,o2⟩:=qE H enc w base spare held n _ _ (g2.trans (List.getElem?_eq_getElem (by rw [hxl]; decide)))
  have e0:cs.drop 0=(cs.drop 0).take 1++cs.drop 1:=b8 0 1
  have e1:cs.drop 1=(cs.drop 1).take 2++cs.drop 3:=b8 1 2
  have e2:cs.drop 3=(cs.drop 3).take 2:=ei 3 2 (by rw [hl,pZ])
  have hrep:GoTy.rep w (fun _=>True) (cs.drop 0) (⟨y0,y1,y2⟩:Nw):=⟨_,_,e0,r0,⟨_,_,e1,r1,(by rw [e2]; exact r2)⟩⟩
  exact ⟨_,hrep,o0,o1,o2⟩
theorem rd78:Rd Tryz.prog 78 (List Nw) fM:=ic Tryz.underlying78 pZ qD
theorem rd80:Rd Tryz.prog 80 (Nd) el:=by
  intro H enc w base spare held fuel cs x h
  obtain ⟨xs,n,rfl,-,hl,hxl,hf⟩:=DataW.trod_struct Tryz.underlying80 h
  have g0:DataW.trod enc Tryz.prog w base spare held n 77 ((cs.drop 0).take (Tryz.prog.cellsOf 77))=xs[0]?:=by have g:=hf 0 _ rfl; exact g
  rw [co77] at g0
  obtain ⟨y0,r0,o0⟩:=rd77 H enc w base spare held n _ _ (g0.trans (List.getElem?_eq_getElem (by rw [hxl]; decide)))
  have g1:DataW.trod enc Tryz.prog w base spare held n 78 ((cs.drop 2).take (Tryz.prog.cellsOf 78))=xs[1]?:=by have g:=hf 1 _ rfl; exact g
  rw [co78] at g1
  obtain ⟨y1,r1,o1⟩:=rd78 H enc w base spare held n _ _ (g1.trans (List.getElem?_eq_getElem (by rw [hxl]; decide)))
  have e0:cs.drop 0=(cs.drop 0).take 2++cs.drop 2:=b8 0 2
  have e1:cs.drop 2=(cs.drop 2).take 1:=ei 2 1 (by rw [hl,co80])
  have hrep:GoTy.rep w (fun _=>True) (cs.drop 0) (⟨y0,y1⟩:Nd):=⟨_,_,e0,r0,(by rw [e1]; exact r1)⟩
  exact ⟨_,hrep,o0,o1⟩
abbrev c32:Char:=Char.ofNat (nat_lit 32)
abbrev c46:Char:=Char.ofNat (nat_lit 46)
abbrev c47:Char:=Char.ofNat (nat_lit 47)
abbrev c48:Char:=Char.ofNat (nat_lit 48)
abbrev c55:Char:=Char.ofNat (nat_lit 55)
abbrev c56:Char:=Char.ofNat (nat_lit 56)
abbrev c57:Char:=Char.ofNat (nat_lit 57)
abbrev c66:Char:=Char.ofNat (nat_lit 66)
abbrev c69:Char:=Char.ofNat (nat_lit 69)
abbrev c70:Char:=Char.ofNat (nat_lit 70)
abbrev c79:Char:=Char.ofNat (nat_lit 79)
abbrev c82:Char:=Char.ofNat (nat_lit 82)
abbrev c83:Char:=Char.ofNat (nat_lit 83)
abbrev c97:Char:=Char.ofNat (nat_lit 97)
abbrev c98:Char:=Char.ofNat (nat_lit 98)
abbrev c99:Char:=Char.ofNat (nat_lit 99)
abbrev c100:Char:=Char.ofNat (nat_lit 100)
abbrev c101:Char:=Char.ofNat (nat_lit 101)
abbrev c102:Char:=Char.ofNat (nat_lit 102)
abbrev c103:Char:=Char.ofNat (nat_lit 103)
abbrev c105:Char:=Char.ofNat (nat_lit 105)
abbrev c108:Char:=Char.ofNat (nat_lit 108)
abbrev c109:Char:=Char.ofNat (nat_lit 109)
abbrev c110:Char:=Char.ofNat (nat_lit 110)
abbrev c111:Char:=Char.ofNat (nat_lit 111)
abbrev c112:Char:=Char.ofNat (nat_lit 112)
abbrev c114:Char:=Char.ofNat (nat_lit 114)
abbrev c115:Char:=Char.ofNat (nat_lit 115)
abbrev c116:Char:=Char.ofNat (nat_lit 116)
abbrev c117:Char:=Char.ofNat (nat_lit 117)
abbrev c118:Char:=Char.ofNat (nat_lit 118)
abbrev c119:Char:=Char.ofNat (nat_lit 119)
abbrev c120:Char:=Char.ofNat (nat_lit 120)
theorem head : behindMainWord (wordsSigns Tryz.prog.initOrder.toList) = "cut".toList :: wordsSigns [c97,c116,c32,c108,c111,c111,c112,c46,c101,c120,c97,c109,c112,c108,c101,c47,c103,c48,c48,c56,c57,c55,c47,c108,c97,c119,c115,c46,c70,c110,c83,c101,c114,c118,c105,c110,c103,c32,c108,c111,c111,c112,c46,c101,c120,c97,c109,c112,c108,c101,c47,c103,c48,c48,c56,c57,c55,c47,c108,c97,c119,c115,c46,c70,c110,c82,c101,c118,c101,c114,c116,c105,c110,c103,c32,c108,c111,c111,c112,c46,c101,c120,c97,c109,c112,c108,c101,c47,c103,c48,c48,c56,c57,c55,c47,c108,c97,c119,c115,c46,c70,c110,c83,c97,c102,c101,c79,c114,c100,c101,c114,c32,c108,c111,c111,c112,c46,c101,c120,c97,c109,c112,c108,c101,c47,c103,c48,c48,c56,c57,c55,c47,c108,c97,c119,c115,c46,c70,c110,c69,c120,c97,c99,c116,c83,c97,c102,c101,c79,c114,c100,c101,c114,c32,c108,c111,c111,c112,c46,c101,c120,c97,c109,c112,c108,c101,c47,c103,c48,c48,c56,c57,c55,c47,c108,c97,c119,c115,c46,c70,c110,c70,c105,c98,c101,c114,c69,c118,c101,c110,c116,c115,c32,c108,c111,c111,c112,c46,c101,c120,c97,c109,c112,c108,c101,c47,c103,c48,c48,c56,c57,c55,c47,c108,c97,c119,c115,c46,c70,c110,c82,c101,c115,c116,c111,c114,c105,c110,c103,c32,c108,c111,c111,c112,c46,c101,c120,c97,c109,c112,c108,c101,c47,c103,c48,c48,c56,c57,c55,c47,c108,c97,c119,c115,c46,c70,c110,c66,c101,c115,c116,c82,c117,c108,c101] := oW _ "e4b5bb79e722549130c407b8ce6b0480eabd64b3d5220923c75f86f8d9438f79".toList _ (by kernel_rfl) (by decide +kernel) (by decide +kernel)
theorem makes:Tryz.prog.make=some .cut:=oU head
theorem lifts:Tryz.prog.liftsFinal=false:=nJ head
theorem enters:Tryz.prog.mayEnter=true:=nP head (by kernel_rfl) (by kernel_rfl) (by kernel_rfl)
theorem heard:Tryz.prog.stopsHeard=true:=by kernel_rfl
theorem rowed:mapsRowed Tryz.prog=true:=by kernel_rfl
theorem own:ownKnob Tryz.prog.godebug=none:=by kernel_rfl
theorem laidOut:laidOutB Tryz.prog=true:=by kernel_rfl
end AT
