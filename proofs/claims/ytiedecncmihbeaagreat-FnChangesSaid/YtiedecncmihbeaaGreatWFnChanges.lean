/- The Go functions do what is told of them, by program (gen.py). -/
import Derived.Test.YtiedecncmihbeaaGreatWFnChanges2
set_option linter.unusedVariables false
set_option linter.unusedSimpArgs false
set_option maxRecDepth 100000
set_option maxHeartbeats 1000000
namespace AT
open Go Go.RowKit Go.Proofs
variable {fu : Nat} {w0 : World}
theorem spec_l1Cur_light_ok {S : Nat → Prop} {b0 : Nat} {cs0 : List Value} {v1_ : Value} {c : L1CurP} {p : Plan} {r : Light × L1CurP} (hp0 : w0.heap[b0]? = some (.cells cs0.toArray 160 (0, 0))) (hr0 : GoTy.rep w0 S cs0 c) (hS0 : ¬ S b0) (h1 : VR w0 S v1_ p) (hF : spec_l1Cur_light fu c p = some r) :
    Calls Tryz.prog 158 [(.pointer (some ⟨b0, 0, none⟩)), v1_].toArray w0 fun e w' => ∃ v, e = .returned v ∧ (Chg w0 w' [b0] ∧ ∃ cs', w'.heap[b0]? = some (.cells cs'.toArray 160 (0, 0)) ∧ GoTy.rep w' (St ⟨w0, [b0]⟩ S [⟨b0, 160, cs'⟩] [] [] false) cs' r.2 ∧ (cs'[0]? = cs0[0]? ∧ r.2.code = c.code) ∧ ∃ F0, VO w' F0 v r.1 ∧ New w0 w' F0) := by
 obtain ⟨A, c2, rfl, hl⟩ := L1CurP_cells hr0
 obtain ⟨A2, c3, A3, c4, A4, c5, rfl, hl2, hl3, hl4⟩ := Plan_open h1
 have H := Mem.startB S hp0
 have H := H.pB hS0 hl
 have H := H.pB hS0 hl2
 have H := H.pB hS0 hl3
 have H := H.pB hS0 hl4
 refine en Tryz.func158 fun a hf => ?_
 rw [spec_l1Cur_light] at hF
 refine bx hf H fun b' a w hf H => ?_
 refine aL hf H TF.zv52 fun b2 a w hf H => ?_
 refine wl_end (then_n (sq ?_))
 obtain ⟨y, hy, hF⟩ := bs_ hF
 obtain ⟨y2, hy2, hF⟩ := bs_ hF
 obtain ⟨y3, hy3, hF⟩ := bs_ hF
 refine mid (fun a w => ∃ (b3 : Nat) (A7 : Option Addr) (c7 : Nat) (F2 : List Nat), y3.2.code = c.code ∧ Fr a 23 [(0, (.pointer (some ⟨b0, 0, none⟩))), (4, (.pointer (some ⟨b2, 0, none⟩))), (5, (.pointer (some ⟨b3, 0, none⟩)))] ∧ Mem ⟨w0, [b0]⟩ S [⟨b3, 52, [(.int .i64 y.1), (.int .i64 y2.1.Start), (.slice A7 y2.1.Fibers.length c7), (.int .i64 y3.1.First), (.int .i64 y3.1.Count)]⟩, ⟨b2, 52, [(.int .i64 0), (.int .i64 0), (.slice none 0 0), (.int .i64 0), (.int .i64 0)]⟩, ⟨b0, 160, [(.slice A y3.2.code.length c2), (.int .i64 y3.2.at_), (.int .u64 y3.2.seed.n)]⟩] [] [⟨F2, MP.own F2 [(.slice A7 y2.1.Fibers.length c7)] (y2.1.Fibers : List Int)⟩] [(false, MP.val [(.slice A y3.2.code.length c2)] (y3.2.code : List By)), (true, MP.val [(.slice A7 y2.1.Fibers.length c7)] (y2.1.Fibers : List Int))] w) ?_ ?_
 ·refine dw [11] 12 fun w hb => ?_
  have H := H.keep hb
  refine zp 0 hf trivial fun a hf => ?_
  refine zp 3 hf trivial fun a hf => ?_
  refine zp 4 hf trivial fun a hf => ?_
  refine strT (H.lt_ [false, true, false] [] [] []) (fun w H => trivial) fun hS => ?_
  refine zS 5 [5, 6, 8, 9, 11] rfl rfl rfl rfl hf hS (fun w H => rq_loadBN hf H TF.la42 0 rfl rfl rfl rfl) fun a hf => ?_
  refine zp 7 hf hS fun a hf => ?_
  refine on2 (i := 1) (j := 10) (bi := [true, true, false, true, true, true, false, true, false, false, false, false]) (bj := [true, false, false, true, true, true, false, true, false, false, true, false]) (by kernel_rfl) rfl rfl rfl rfl rfl rfl ?_ ?_
  ·refine (bl hf H 3 ([30, 31, 1, 2, 4, 5, 999] : List Int) [(.int .i64 30), (.int .i64 31), (.int .i64 1), (.int .i64 2), (.int .i64 4), (.int .i64 5), (.int .i64 999)] (elI [30, 31, 1, 2, 4, 5, 999]) fun A5 a w hf H => ?_)
   have hS := H.lt_ [false, true, false] [false] [] []
   refine aS hS ?_
   refine on2 (i := 2) (j := 10) (bi := [true, true, true, true, true, true, false, true, false, false, false, false]) (bj := [true, true, false, true, true, true, false, true, false, false, true, false]) (by kernel_rfl) rfl rfl rfl rfl rfl rfl ?_ ?_
   ·have H := H.freeze 0 rfl
    refine (oC hf TF.cl179 (spec_l1Cur_among_ok (S := NB b0) (H.boxAt 2 rfl) ((L1CurP_mk (x := c) (H.nb 2 rfl (H.get 4 rfl)))) (fun h => h rfl) (mk_list (H.nb 2 rfl (H.get 0 rfl))) hy) fun v w a hp hf => ?_)
    obtain ⟨hch, cs, hbx, hr, ⟨hx, hx2⟩, hs⟩ := hp
    obtain rfl := VR_int hs
    obtain ⟨A6, c6, rfl, hl5⟩ := L1CurP_cells hr
    obtain ⟨rfl, rfl⟩ := fx_slice hx rfl rfl
    have H := H.wroteBox 2 rfl hch hbx
    have H := H.pX 4 rfl hx2
    have hS := H.lt_ [false, true, false] [] [] []
    refine aS hS ?_
    refine on2 (i := 6) (j := 10) (bi := [true, true, true, true, true, true, true, true, false, false, false, false]) (bj := [true, true, true, true, true, true, false, true, false, false, true, false]) (by kernel_rfl) rfl rfl rfl rfl rfl rfl ?_ ?_
    ·refine (oC hf TF.cl181 (spec_l1Cur_anyRoute_ok (S := NB b0) (H.boxAt 2 rfl) ((L1CurP_mk (x := y.2) (H.nb 2 rfl (H.get 0 rfl)))) (fun h => h rfl) (Network_mkv (x := p.Network) (H.nb 2 rfl (H.get 4 rfl)) (H.nb 2 rfl (H.get 3 rfl))) hy2) fun v2 w a hp2 hf => ?_)
     obtain ⟨hch2, cs2, hbx2, hr2, ⟨hx3, hx4⟩, hs2⟩ := hp2
     obtain ⟨F, hp3, hN⟩ := hs2
     obtain ⟨A7, c7, F2, rfl, rfl, hl6⟩ := Route_vo hp3
     obtain ⟨A8, c8, rfl, hl7⟩ := L1CurP_cells hr2
     obtain ⟨rfl, rfl⟩ := fx_slice hx3 rfl rfl
     have hx5 := hx4.trans hx2
     have H := H.bO1 2 rfl hch2 hbx2 hN hl6
     have H := H.pX 0 rfl hx4
     have H := H.lend 0 rfl
     have hS := H.lt_ [false, true, false] [] [false] []
     refine aS hS ?_
     refine on2 (i := 8) (j := 10) (bi := [true, true, true, true, true, true, true, true, true, false, false, false]) (bj := [true, true, true, true, true, true, true, true, false, false, true, false]) (by kernel_rfl) rfl rfl rfl rfl rfl rfl ?_ ?_
     ·refine (oC hf TF.cl180 (spec_l1Cur_block_ok (S := NB b0) (H.boxAt 2 rfl) ((L1CurP_mk (x := y2.2) (H.nb 2 rfl (H.get 1 rfl)))) (fun h => h rfl) hy3) fun v3 w a hp4 hf => ?_)
      obtain ⟨hch3, cs3, hbx3, hr3, ⟨hx6, hx7⟩, hs3⟩ := hp4
      obtain rfl := Block_open hs3
      obtain ⟨A9, c9, rfl, hl8⟩ := L1CurP_cells hr3
      obtain ⟨rfl, rfl⟩ := fx_slice hx6 rfl rfl
      have hx8 := hx7.trans hx5
      have H := H.wroteBox 2 rfl hch3 hbx3
      have H := H.pX 1 rfl hx7
      have hS := H.lt_ [false, true, false] [] [false] []
      refine aS hS ?_
      refine zP 9 rfl rfl rfl rfl hf hS (fun w => rq_build hf (cs := [(.int .i64 y.1), (.int .i64 y2.1.Start), (.slice A7 y2.1.Fibers.length c7), (.int .i64 y3.1.First), (.int .i64 y3.1.Count)]) rfl (fun w => by kernel_rfl)) fun a hf => ?_
      refine nn 10 rfl (op_alloc hf H TF.zv52 rfl (by decide) fun b3 a w hf H => ?_)
      have hS := H.lt_ [false, false, true, false] [] [false] []
      refine aS hS ?_
      refine nn 11 rfl (op_storeB hf H 0 TF.sz52 rfl rfl rfl rfl rfl rfl (nle rfl) fun w H => ?_)
      refine ⟨fun h => absurd h (by decide), ?_⟩
      refine dk ?_
      have hf := hf.pn [0, 4, 5]
      have H := H.lt_ [true, true, false, true] [] [true] [0, 1]
      exact ⟨b3, A7, c7, F2, hx8, hf, H⟩
     ·refine (op_alloc hf H TF.zv52 rfl (by decide) fun b3 a w hf H => ?_)
      have hS := H.lt_ [false, false, true, false] [] [false] []
      refine aS hS ?_
      refine nn 8 rfl (oC hf TF.cl180 (spec_l1Cur_block_ok (S := NB b0) (H.boxAt 3 rfl) ((L1CurP_mk (x := y2.2) (H.nb 3 rfl (H.get 1 rfl)))) (fun h => h rfl) hy3) fun v3 w a hp4 hf => ?_)
      obtain ⟨hch3, cs3, hbx3, hr3, ⟨hx6, hx7⟩, hs3⟩ := hp4
      obtain rfl := Block_open hs3
      obtain ⟨A9, c9, rfl, hl8⟩ := L1CurP_cells hr3
      obtain ⟨rfl, rfl⟩ := fx_slice hx6 rfl rfl
      have hx8 := hx7.trans hx5
      have H := H.wroteBox 3 rfl hch3 hbx3
      have H := H.pX 1 rfl hx7
      have hS := H.lt_ [false, false, true, false] [] [false] []
      refine aS hS ?_
      refine zP 9 rfl rfl rfl rfl hf hS (fun w => rq_build hf (cs := [(.int .i64 y.1), (.int .i64 y2.1.Start), (.slice A7 y2.1.Fibers.length c7), (.int .i64 y3.1.First), (.int .i64 y3.1.Count)]) rfl (fun w => by kernel_rfl)) fun a hf => ?_
      refine nn 11 rfl (op_storeB hf H 0 TF.sz52 rfl rfl rfl rfl rfl rfl (nle rfl) fun w H => ?_)
      refine ⟨fun h => absurd h (by decide), ?_⟩
      refine dk ?_
      have hf := hf.pn [0, 4, 5]
      have H := H.lt_ [true, true, false, true] [] [true] [0, 1]
      exact ⟨b3, A7, c7, F2, hx8, hf, H⟩
    ·refine (op_alloc hf H TF.zv52 rfl (by decide) fun b3 a w hf H => ?_)
     have hS := H.lt_ [false, false, true, false] [] [] []
     refine aS hS ?_
     refine nn 6 rfl (oC hf TF.cl181 (spec_l1Cur_anyRoute_ok (S := NB b0) (H.boxAt 3 rfl) ((L1CurP_mk (x := y.2) (H.nb 3 rfl (H.get 0 rfl)))) (fun h => h rfl) (Network_mkv (x := p.Network) (H.nb 3 rfl (H.get 4 rfl)) (H.nb 3 rfl (H.get 3 rfl))) hy2) fun v2 w a hp2 hf => ?_)
     obtain ⟨hch2, cs2, hbx2, hr2, ⟨hx3, hx4⟩, hs2⟩ := hp2
     obtain ⟨F, hp3, hN⟩ := hs2
     obtain ⟨A7, c7, F2, rfl, rfl, hl6⟩ := Route_vo hp3
     obtain ⟨A8, c8, rfl, hl7⟩ := L1CurP_cells hr2
     obtain ⟨rfl, rfl⟩ := fx_slice hx3 rfl rfl
     have hx5 := hx4.trans hx2
     have H := H.bO1 3 rfl hch2 hbx2 hN hl6
     have H := H.pX 0 rfl hx4
     have H := H.lend 0 rfl
     have hS := H.lt_ [false, false, true, false] [] [false] []
     refine aS hS ?_
     refine nn 8 rfl (oC hf TF.cl180 (spec_l1Cur_block_ok (S := NB b0) (H.boxAt 3 rfl) ((L1CurP_mk (x := y2.2) (H.nb 3 rfl (H.get 1 rfl)))) (fun h => h rfl) hy3) fun v3 w a hp4 hf => ?_)
     obtain ⟨hch3, cs3, hbx3, hr3, ⟨hx6, hx7⟩, hs3⟩ := hp4
     obtain rfl := Block_open hs3
     obtain ⟨A9, c9, rfl, hl8⟩ := L1CurP_cells hr3
     obtain ⟨rfl, rfl⟩ := fx_slice hx6 rfl rfl
     have hx8 := hx7.trans hx5
     have H := H.wroteBox 3 rfl hch3 hbx3
     have H := H.pX 1 rfl hx7
     have hS := H.lt_ [false, false, true, false] [] [false] []
     refine aS hS ?_
     refine zP 9 rfl rfl rfl rfl hf hS (fun w => rq_build hf (cs := [(.int .i64 y.1), (.int .i64 y2.1.Start), (.slice A7 y2.1.Fibers.length c7), (.int .i64 y3.1.First), (.int .i64 y3.1.Count)]) rfl (fun w => by kernel_rfl)) fun a hf => ?_
     refine nn 11 rfl (op_storeB hf H 0 TF.sz52 rfl rfl rfl rfl rfl rfl (nle rfl) fun w H => ?_)
     refine ⟨fun h => absurd h (by decide), ?_⟩
     refine dk ?_
     have hf := hf.pn [0, 4, 5]
     have H := H.lt_ [true, true, false, true] [] [true] [0, 1]
     exact ⟨b3, A7, c7, F2, hx8, hf, H⟩
   ·refine (op_alloc hf H TF.zv52 rfl (by decide) fun b3 a w hf H => ?_)
    have hS := H.lt_ [false, false, true, false] [false] [] []
    refine aS hS ?_
    have H := H.freeze 0 rfl
    refine nn 2 rfl (oC hf TF.cl179 (spec_l1Cur_among_ok (S := NB b0) (H.boxAt 3 rfl) ((L1CurP_mk (x := c) (H.nb 3 rfl (H.get 4 rfl)))) (fun h => h rfl) (mk_list (H.nb 3 rfl (H.get 0 rfl))) hy) fun v w a hp hf => ?_)
    obtain ⟨hch, cs, hbx, hr, ⟨hx, hx2⟩, hs⟩ := hp
    obtain rfl := VR_int hs
    obtain ⟨A6, c6, rfl, hl5⟩ := L1CurP_cells hr
    obtain ⟨rfl, rfl⟩ := fx_slice hx rfl rfl
    have H := H.wroteBox 3 rfl hch hbx
    have H := H.pX 4 rfl hx2
    have hS := H.lt_ [false, false, true, false] [] [] []
    refine aS hS ?_
    refine nn 6 rfl (oC hf TF.cl181 (spec_l1Cur_anyRoute_ok (S := NB b0) (H.boxAt 3 rfl) ((L1CurP_mk (x := y.2) (H.nb 3 rfl (H.get 0 rfl)))) (fun h => h rfl) (Network_mkv (x := p.Network) (H.nb 3 rfl (H.get 4 rfl)) (H.nb 3 rfl (H.get 3 rfl))) hy2) fun v2 w a hp2 hf => ?_)
    obtain ⟨hch2, cs2, hbx2, hr2, ⟨hx3, hx4⟩, hs2⟩ := hp2
    obtain ⟨F, hp3, hN⟩ := hs2
    obtain ⟨A7, c7, F2, rfl, rfl, hl6⟩ := Route_vo hp3
    obtain ⟨A8, c8, rfl, hl7⟩ := L1CurP_cells hr2
    obtain ⟨rfl, rfl⟩ := fx_slice hx3 rfl rfl
    have hx5 := hx4.trans hx2
    have H := H.bO1 3 rfl hch2 hbx2 hN hl6
    have H := H.pX 0 rfl hx4
    have H := H.lend 0 rfl
    have hS := H.lt_ [false, false, true, false] [] [false] []
    refine aS hS ?_
    refine nn 8 rfl (oC hf TF.cl180 (spec_l1Cur_block_ok (S := NB b0) (H.boxAt 3 rfl) ((L1CurP_mk (x := y2.2) (H.nb 3 rfl (H.get 1 rfl)))) (fun h => h rfl) hy3) fun v3 w a hp4 hf => ?_)
    obtain ⟨hch3, cs3, hbx3, hr3, ⟨hx6, hx7⟩, hs3⟩ := hp4
    obtain rfl := Block_open hs3
    obtain ⟨A9, c9, rfl, hl8⟩ := L1CurP_cells hr3
    obtain ⟨rfl, rfl⟩ := fx_slice hx6 rfl rfl
    have hx8 := hx7.trans hx5
    have H := H.wroteBox 3 rfl hch3 hbx3
    have H := H.pX 1 rfl hx7
    have hS := H.lt_ [false, false, true, false] [] [false] []
    refine aS hS ?_
    refine zP 9 rfl rfl rfl rfl hf hS (fun w => rq_build hf (cs := [(.int .i64 y.1), (.int .i64 y2.1.Start), (.slice A7 y2.1.Fibers.length c7), (.int .i64 y3.1.First), (.int .i64 y3.1.Count)]) rfl (fun w => by kernel_rfl)) fun a hf => ?_
    refine nn 11 rfl (op_storeB hf H 0 TF.sz52 rfl rfl rfl rfl rfl rfl (nle rfl) fun w H => ?_)
    refine ⟨fun h => absurd h (by decide), ?_⟩
    refine dk ?_
    have hf := hf.pn [0, 4, 5]
    have H := H.lt_ [true, true, false, true] [] [true] [0, 1]
    exact ⟨b3, A7, c7, F2, hx8, hf, H⟩
  ·refine (op_alloc hf H TF.zv52 rfl (by decide) fun b3 a w hf H => ?_)
   have hS := H.lt_ [false, false, true, false] [] [] []
   refine aS hS ?_
   refine nn 1 rfl (bl hf H 3 ([30, 31, 1, 2, 4, 5, 999] : List Int) [(.int .i64 30), (.int .i64 31), (.int .i64 1), (.int .i64 2), (.int .i64 4), (.int .i64 5), (.int .i64 999)] (elI [30, 31, 1, 2, 4, 5, 999]) fun A5 a w hf H => ?_)
   have hS := H.lt_ [false, false, true, false] [false] [] []
   refine aS hS ?_
   have H := H.freeze 0 rfl
   refine nn 2 rfl (oC hf TF.cl179 (spec_l1Cur_among_ok (S := NB b0) (H.boxAt 3 rfl) ((L1CurP_mk (x := c) (H.nb 3 rfl (H.get 4 rfl)))) (fun h => h rfl) (mk_list (H.nb 3 rfl (H.get 0 rfl))) hy) fun v w a hp hf => ?_)
   obtain ⟨hch, cs, hbx, hr, ⟨hx, hx2⟩, hs⟩ := hp
   obtain rfl := VR_int hs
   obtain ⟨A6, c6, rfl, hl5⟩ := L1CurP_cells hr
   obtain ⟨rfl, rfl⟩ := fx_slice hx rfl rfl
   have H := H.wroteBox 3 rfl hch hbx
   have H := H.pX 4 rfl hx2
   have hS := H.lt_ [false, false, true, false] [] [] []
   refine aS hS ?_
   refine nn 6 rfl (oC hf TF.cl181 (spec_l1Cur_anyRoute_ok (S := NB b0) (H.boxAt 3 rfl) ((L1CurP_mk (x := y.2) (H.nb 3 rfl (H.get 0 rfl)))) (fun h => h rfl) (Network_mkv (x := p.Network) (H.nb 3 rfl (H.get 4 rfl)) (H.nb 3 rfl (H.get 3 rfl))) hy2) fun v2 w a hp2 hf => ?_)
   obtain ⟨hch2, cs2, hbx2, hr2, ⟨hx3, hx4⟩, hs2⟩ := hp2
   obtain ⟨F, hp3, hN⟩ := hs2
   obtain ⟨A7, c7, F2, rfl, rfl, hl6⟩ := Route_vo hp3
   obtain ⟨A8, c8, rfl, hl7⟩ := L1CurP_cells hr2
   obtain ⟨rfl, rfl⟩ := fx_slice hx3 rfl rfl
   have hx5 := hx4.trans hx2
   have H := H.bO1 3 rfl hch2 hbx2 hN hl6
   have H := H.pX 0 rfl hx4
   have H := H.lend 0 rfl
   have hS := H.lt_ [false, false, true, false] [] [false] []
   refine aS hS ?_
   refine nn 8 rfl (oC hf TF.cl180 (spec_l1Cur_block_ok (S := NB b0) (H.boxAt 3 rfl) ((L1CurP_mk (x := y2.2) (H.nb 3 rfl (H.get 1 rfl)))) (fun h => h rfl) hy3) fun v3 w a hp4 hf => ?_)
   obtain ⟨hch3, cs3, hbx3, hr3, ⟨hx6, hx7⟩, hs3⟩ := hp4
   obtain rfl := Block_open hs3
   obtain ⟨A9, c9, rfl, hl8⟩ := L1CurP_cells hr3
   obtain ⟨rfl, rfl⟩ := fx_slice hx6 rfl rfl
   have hx8 := hx7.trans hx5
   have H := H.wroteBox 3 rfl hch3 hbx3
   have H := H.pX 1 rfl hx7
   have hS := H.lt_ [false, false, true, false] [] [false] []
   refine aS hS ?_
   refine zP 9 rfl rfl rfl rfl hf hS (fun w => rq_build hf (cs := [(.int .i64 y.1), (.int .i64 y2.1.Start), (.slice A7 y2.1.Fibers.length c7), (.int .i64 y3.1.First), (.int .i64 y3.1.Count)]) rfl (fun w => by kernel_rfl)) fun a hf => ?_
   refine nn 11 rfl (op_storeB hf H 0 TF.sz52 rfl rfl rfl rfl rfl rfl (nle rfl) fun w H => ?_)
   refine ⟨fun h => absurd h (by decide), ?_⟩
   refine dk ?_
   have hf := hf.pn [0, 4, 5]
   have H := H.lt_ [true, true, false, true] [] [true] [0, 1]
   exact ⟨b3, A7, c7, F2, hx8, hf, H⟩
 rintro a w ⟨b3, A7, c7, F2, hx8, hf, H⟩
 refine then_n (sq (sqz (pz 1 hf fun a hf => ?_)))
 obtain ⟨y4, hy4, hF⟩ := bs_ hF
 refine oc hf TF.cl183 (spec_l1Cur_one_ok (S := NB b0) (H.boxAt 2 rfl) ((L1CurP_mk (x := y3.2) (H.nb 2 rfl (H.get 0 rfl)))) (fun h => h rfl) mk_int hy4) fun v4 w a hp5 hf => ?_
 obtain ⟨hch4, cs4, hbx4, hr4, ⟨hx9, hx10⟩, hs4⟩ := hp5
 obtain rfl := VR_bool hs4
 obtain ⟨A10, c10, rfl, hl9⟩ := L1CurP_cells hr4
 obtain ⟨rfl, rfl⟩ := fx_slice hx9 rfl rfl
 have hx11 := hx10.trans hx8
 have H := H.wroteBox 2 rfl hch4 hbx4
 have H := H.pX 0 rfl hx10
 refine wl_end (then_n (ib hF hf (fun hc hF => ?_) fun hc hF => ?_))
 ·refine reg (pz 1 hf fun a hf => ?_)
  refine wl0 rfl (bl hf H 3 ([0, 1000] : List Int) [(.int .i64 0), (.int .i64 1000)] (elI [0, 1000]) fun A11 a w hf H => ?_)
  have H := H.freeze 0 rfl
  obtain ⟨y5, hy5, hF⟩ := bs_ hF
  refine oc hf TF.cl179 (spec_l1Cur_among_ok (S := NB b0) (H.boxAt 2 rfl) ((L1CurP_mk (x := y4.2) (H.nb 2 rfl (H.get 1 rfl)))) (fun h => h rfl) (mk_list (H.nb 2 rfl (H.get 0 rfl))) hy5) fun v5 w a hp6 hf => ?_
  obtain ⟨hch5, cs5, hbx5, hr5, ⟨hx12, hx13⟩, hs5⟩ := hp6
  obtain rfl := VR_int hs5
  obtain ⟨A12, c11, rfl, hl10⟩ := L1CurP_cells hr5
  obtain ⟨rfl, rfl⟩ := fx_slice hx12 rfl rfl
  have hx14 := hx13.trans hx11
  have H := H.wroteBox 2 rfl hch5 hbx5
  have H := H.pX 1 rfl hx13
  refine pz 1 hf fun a hf => ?_
  refine sB 0 hf H TF.sz3 fun w H => ?_
  refine wr (lN 0 hf H TF.la52 fun a hf => ?_)
  refine sB 1 hf H TF.sz52 fun w H => ?_
  refine wer ?_
  obtain rfl := oi hF
  refine ret_1 hf rfl (rv_cellN hf H 1 TF.la52 rfl rfl rfl) ?_
  have hN := H.endsB1 2 rfl
  exact ⟨_, rfl, H.chg, _, H.boxAt 2 rfl, (L1CurP_mk (x := y5.2) (eB 2 (H.get 0 rfl))), ⟨fxc hx14, hx14⟩, F2, ⟨_, Light_ownmk (x := ({ Id := y5.1, Route := y2.1, Block := y3.1 } : Light)) (H.ownAt 0 rfl), rfl⟩, hN⟩
 ·refine wp_skip (then_n (sq (reg (lN 0 hf H TF.la52 fun a hf => ?_))))
  refine sB 1 hf H TF.sz52 fun w H => ?_
  refine wer ?_
  obtain rfl := oi hF
  refine ret_1 hf rfl (rv_cellN hf H 1 TF.la52 rfl rfl rfl) ?_
  have hN := H.endsB1 2 rfl
  exact ⟨_, rfl, H.chg, _, H.boxAt 2 rfl, (L1CurP_mk (x := y4.2) (eB 2 (H.get 0 rfl))), ⟨fxc hx11, hx11⟩, F2, ⟨_, Light_ownmk (x := ({ Id := y.1, Route := y2.1, Block := y3.1 } : Light)) (H.ownAt 0 rfl), rfl⟩, hN⟩
theorem spec_l1Cur_action_ok {S : Nat → Prop} {b0 : Nat} {cs0 : List Value} {v1_ : Value} {c : L1CurP} {p : Plan} {r : Action × L1CurP} (hp0 : w0.heap[b0]? = some (.cells cs0.toArray 160 (0, 0))) (hr0 : GoTy.rep w0 S cs0 c) (hS0 : ¬ S b0) (h1 : VR w0 S v1_ p) (hF : spec_l1Cur_action fu c p = some r) :
    Calls Tryz.prog 146 [(.pointer (some ⟨b0, 0, none⟩)), v1_].toArray w0 fun e w' => ∃ v, e = .returned v ∧ (Chg w0 w' [b0] ∧ ∃ cs', w'.heap[b0]? = some (.cells cs'.toArray 160 (0, 0)) ∧ GoTy.rep w' (St ⟨w0, [b0]⟩ S [⟨b0, 160, cs'⟩] [] [] false) cs' r.2 ∧ (cs'[0]? = cs0[0]? ∧ r.2.code = c.code) ∧ ∃ F0, VO w' F0 v r.1 ∧ New w0 w' F0) := by
 obtain ⟨A, c2, rfl, hl⟩ := L1CurP_cells hr0
 obtain ⟨A2, c3, A3, c4, A4, c5, rfl, hl2, hl3, hl4⟩ := Plan_open h1
 have H := Mem.startB S hp0
 have H := H.pB hS0 hl
 have H := H.pB hS0 hl2
 have H := H.pB hS0 hl3
 have H := H.pB hS0 hl4
 refine en Tryz.func146 fun a hf => ?_
 rw [spec_l1Cur_action] at hF
 refine bx hf H fun b' a w hf H => ?_
 refine aL hf H TF.zv54 fun b2 a w hf H => ?_
 refine wr (pz 1 hf fun a hf => ?_)
 refine lN 1 hf H TF.la45 fun a hf => ?_
 obtain ⟨y, hy, hF⟩ := bs_ hF
 refine oc hf TF.cl158 (spec_l1Cur_light_ok (S := NB b0) (H.boxAt 2 rfl) ((L1CurP_mk (x := c) (H.nb 2 rfl (H.get 3 rfl)))) (fun h => h rfl) (Plan_mkv (x := p) (H.nb 2 rfl (H.get 2 rfl)) (H.nb 2 rfl (H.get 1 rfl)) (H.nb 2 rfl (H.get 0 rfl))) hy) fun v w a hp hf => ?_
 obtain ⟨hch, cs, hbx, hr, ⟨hx, hx2⟩, hs⟩ := hp
 obtain ⟨F, hp2, hN⟩ := hs
 obtain ⟨A5, c6, F2, rfl, rfl, hl5⟩ := Light_vo hp2
 obtain ⟨A6, c7, rfl, hl6⟩ := L1CurP_cells hr
 obtain ⟨rfl, rfl⟩ := fx_slice hx rfl rfl
 have H := H.bO1 2 rfl hch hbx hN hl5
 have H := H.pX 3 rfl hx2
 have H := H.lend 0 rfl
 refine aL hf H TF.zv52 fun b3 a w hf H => ?_
 refine sB 0 hf H TF.sz52 fun w H => ?_
 refine we (sqz (pz 1 hf fun a hf => ?_))
 refine lB 2 hf H TF.ls43 fun a hf => ?_
 refine pz 3 hf fun a hf => ?_
 refine iteB hF (fun hc hF => ?_) fun hc hF => ?_
 ·have hf := hf.lit 14 rfl hc
  refine pz 1 hf fun a hf => ?_
  obtain ⟨y2, hy2, hF⟩ := bs_ hF
  refine wlg hf rfl rfl rfl (oC hf TF.cl183 (spec_l1Cur_one_ok (S := NB b0) (H.boxAt 3 rfl) ((L1CurP_mk (x := y.2) (H.nb 3 rfl (H.get 1 rfl)))) (fun h => h rfl) mk_int hy2) fun v2 w a hp3 hf => ?_)
  obtain ⟨hch2, cs2, hbx2, hr2, ⟨hx3, hx4⟩, hs2⟩ := hp3
  obtain rfl := VR_bool hs2
  obtain ⟨A7, c8, rfl, hl7⟩ := L1CurP_cells hr2
  obtain ⟨rfl, rfl⟩ := fx_slice hx3 rfl rfl
  have hx5 := hx4.trans hx2
  have H := H.wroteBox 3 rfl hch2 hbx2
  have H := H.pX 1 rfl hx4
  refine pz 2 hf fun a hf => ?_
  refine wl_end (then_n (ib hF hf (fun hc2 hF => ?_) fun hc2 hF => ?_))
  ·refine sq ?_
   obtain ⟨y3, hy3, hF⟩ := bs_ hF
   obtain ⟨e, he, hF⟩ := bs_ hF
   refine mid (fun a w => ∃ (b4 : Nat) (A9 : Option Addr) (c10 : Nat), y3.2.code = c.code ∧ Fr a 65 [(0, (.pointer (some ⟨b0, 0, none⟩))), (3, (.pointer (some ⟨b', 0, none⟩))), (4, (.pointer (some ⟨b2, 0, none⟩))), (6, (.pointer (some ⟨b4, 0, none⟩)))] ∧ Mem ⟨w0, [b0]⟩ S [⟨b4, 52, [(.int .i64 e.Id), (.int .i64 e.Route.Start), (.slice A9 e.Route.Fibers.length c10), (.int .i64 e.Block.First), (.int .i64 e.Block.Count)]⟩, ⟨b2, 54, [(.int .i64 0), (.int .i64 0), (.int .i64 0), (.slice none 0 0), (.int .i64 0), (.int .i64 0)]⟩, ⟨b', 45, [(.slice A2 p.Network.Nodes.length c3), (.slice A3 p.Network.Fibers.length c4), (.slice A4 p.Lights.length c5)]⟩, ⟨b0, 160, [(.slice A y3.2.code.length c2), (.int .i64 y3.2.at_), (.int .u64 y3.2.seed.n)]⟩] [] [] [(false, MP.val [(.slice A9 e.Route.Fibers.length c10)] (e.Route.Fibers : List Int)), (false, MP.val [(.slice A y3.2.code.length c2)] (y3.2.code : List By)), (false, MP.val [(.slice A4 p.Lights.length c5)] (p.Lights : List Light)), (false, MP.val [(.slice A3 p.Network.Fibers.length c4)] (p.Network.Fibers : List Fiber)), (false, MP.val [(.slice A2 p.Network.Nodes.length c3)] (p.Network.Nodes : List ByteArray))] w) ?_ ?_
   ·refine dw [10] 11 fun w hb => ?_
    have H := H.keep hb
    refine zp 0 hf trivial fun a hf => ?_
    refine strT (H.lt_ [false, false, true, false] [] [false] []) (fun w H => trivial) fun hS => ?_
    refine zS 1 [1, 7, 8, 10] rfl rfl rfl rfl hf hS (fun w H => rq_loadB hf H TF.ls43 0 rfl rfl rfl) fun a hf => ?_
    refine zp 2 hf hS fun a hf => ?_
    refine zp 3 hf hS fun a hf => ?_
    refine zS 4 [4, 5, 6, 7, 8, 10] rfl rfl rfl rfl hf hS (fun w H => rq_loadB hf H TF.ls43 0 rfl rfl rfl) fun a hf => ?_
    refine zp 5 hf hS fun a hf => ?_
    refine on2 (i := 6) (j := 9) (bi := [true, true, true, true, true, true, true, false, false, false, false]) (bj := [true, true, true, true, true, true, false, false, false, true, false]) (by kernel_rfl) rfl rfl rfl rfl rfl rfl ?_ ?_
    ·refine (oC hf TF.cl178 (spec_l1Cur_pick_ok (S := NB b0) (H.boxAt 3 rfl) ((L1CurP_mk (x := y2.2) (H.nb 3 rfl (H.get 0 rfl)))) (fun h => h rfl) mk_int hy3) fun v3 w a hp4 hf => ?_)
     obtain ⟨hch3, cs3, hbx3, hr3, ⟨hx6, hx7⟩, hs3⟩ := hp4
     obtain rfl := VR_int hs3
     obtain ⟨A8, c9, rfl, hl8⟩ := L1CurP_cells hr3
     obtain ⟨rfl, rfl⟩ := fx_slice hx6 rfl rfl
     have hx8 := hx7.trans hx5
     have H := H.wroteBox 3 rfl hch3 hbx3
     have H := H.pX 0 rfl hx7
     have hS := H.lt_ [false, false, true, false] [] [false] []
     refine aS hS ?_
     obtain ⟨p2, o, cs4, hx9, hr4, H⟩ := pre_iaddr H Tryz.underlying43 TF.sz52 4 rfl he
     refine zP 7 rfl rfl rfl rfl hf hS (fun w => rq_iaddrE hf rfl rfl rfl hx9 w) fun a hf => ?_
     obtain ⟨A9, c10, rfl, hl9⟩ := Light_cells hr4
     have H := H.pF hl9
     refine strT (H.lt_ [false, false, true, false] [] [false] [1]) (fun w H => H.lt_ [true] [] [] []) fun hS => ?_
     refine zS 8 [8, 10] rfl rfl rfl rfl hf hS (fun w H => rq_loadIN hf H TF.la52 0 0 rfl rfl rfl rfl) fun a hf => ?_
     refine nn 9 rfl (op_alloc hf H TF.zv52 rfl (by decide) fun b4 a w hf H => ?_)
     have hS := H.lt_ [false, false, false, true, false] [] [false] [1]
     refine aS hS ?_
     refine nn 10 rfl (op_storeB hf H 0 TF.sz52 rfl rfl rfl rfl rfl rfl (nle rfl) fun w H => ?_)
     refine ⟨fun h => absurd h (by decide), ?_⟩
     refine dk ?_
     have hf := hf.pn [0, 3, 4, 6]
     have H := H.lt_ [true, false, true, true, true] [] [false] [0, 2, 6, 7, 8]
     exact ⟨b4, A9, c10, hx8, hf, H⟩
    ·refine (op_alloc hf H TF.zv52 rfl (by decide) fun b4 a w hf H => ?_)
     have hS := H.lt_ [false, false, false, true, false] [] [false] []
     refine aS hS ?_
     refine nn 6 rfl (oC hf TF.cl178 (spec_l1Cur_pick_ok (S := NB b0) (H.boxAt 4 rfl) ((L1CurP_mk (x := y2.2) (H.nb 4 rfl (H.get 0 rfl)))) (fun h => h rfl) mk_int hy3) fun v3 w a hp4 hf => ?_)
     obtain ⟨hch3, cs3, hbx3, hr3, ⟨hx6, hx7⟩, hs3⟩ := hp4
     obtain rfl := VR_int hs3
     obtain ⟨A8, c9, rfl, hl8⟩ := L1CurP_cells hr3
     obtain ⟨rfl, rfl⟩ := fx_slice hx6 rfl rfl
     have hx8 := hx7.trans hx5
     have H := H.wroteBox 4 rfl hch3 hbx3
     have H := H.pX 0 rfl hx7
     have hS := H.lt_ [false, false, false, true, false] [] [false] []
     refine aS hS ?_
     obtain ⟨p2, o, cs4, hx9, hr4, H⟩ := pre_iaddr H Tryz.underlying43 TF.sz52 4 rfl he
     refine zP 7 rfl rfl rfl rfl hf hS (fun w => rq_iaddrE hf rfl rfl rfl hx9 w) fun a hf => ?_
     obtain ⟨A9, c10, rfl, hl9⟩ := Light_cells hr4
     have H := H.pF hl9
     refine strT (H.lt_ [false, false, false, true, false] [] [false] [1]) (fun w H => H.lt_ [true] [] [] []) fun hS => ?_
     refine zS 8 [8, 10] rfl rfl rfl rfl hf hS (fun w H => rq_loadIN hf H TF.la52 0 0 rfl rfl rfl rfl) fun a hf => ?_
     refine nn 10 rfl (op_storeB hf H 0 TF.sz52 rfl rfl rfl rfl rfl rfl (nle rfl) fun w H => ?_)
     refine ⟨fun h => absurd h (by decide), ?_⟩
     refine dk ?_
     have hf := hf.pn [0, 3, 4, 6]
     have H := H.lt_ [true, false, true, true, true] [] [false] [0, 2, 6, 7, 8]
     exact ⟨b4, A9, c10, hx8, hf, H⟩
   rintro a w ⟨b4, A9, c10, hx8, hf, H⟩
   refine then_n (sq (sqz (pz 1 hf fun a hf => ?_)))
   obtain ⟨y4, hy4, hF⟩ := bs_ hF
   refine oc hf TF.cl178 (spec_l1Cur_pick_ok (S := NB b0) (H.boxAt 3 rfl) ((L1CurP_mk (x := y3.2) (H.nb 3 rfl (H.get 1 rfl)))) (fun h => h rfl) mk_int hy4) fun v4 w a hp5 hf => ?_
   obtain ⟨hch4, cs5, hbx4, hr5, ⟨hx10, hx11⟩, hs4⟩ := hp5
   obtain rfl := VR_int hs4
   obtain ⟨A10, c11, rfl, hl10⟩ := L1CurP_cells hr5
   obtain ⟨rfl, rfl⟩ := fx_slice hx10 rfl rfl
   have hx12 := hx11.trans hx8
   have H := H.wroteBox 3 rfl hch4 hbx4
   have H := H.pX 1 rfl hx11
   refine wl_end (then_n (wp_block (sqz (pz 2 hf fun a hf => ?_))))
   refine wl_end (then_n (ib hF hf (fun hc3 hF => ?_) fun hc3 hF => ?_))
   ·refine sq (reg (lN 0 hf H TF.la52 fun a hf => ?_))
    obtain ⟨y5, hy5, hF⟩ := bs_ hF
    refine oc hf TF.cl140 (spec_l9Copy_ok (S := TT) (Light_mkv (x := e) (H.rt 1 rfl)) hy5) fun v5 w a hp6 hf => ?_
    obtain ⟨hb, F3, hp7, hN2⟩ := hp6
    obtain ⟨A11, c12, F4, rfl, rfl, hl11⟩ := Light_vo hp7
    have H := H.aO1 hb hN2 hl11
    have H := H.lend 0 rfl
    refine oq hf (rq_build hf (cs := [(.int .i64 2), (.int .i64 y5.Id), (.int .i64 y5.Route.Start), (.slice A11 y5.Route.Fibers.length c12), (.int .i64 y5.Block.First), (.int .i64 y5.Block.Count)]) rfl (fun w => by kernel_rfl)) fun a hf => ?_
    refine sB 1 hf H TF.sz54 fun w H => ?_
    refine wl_end (then_n (wp_ret (blk_r (then_r (then_r (?_))))))
    obtain rfl := oi hF
    refine ret_1 hf rfl (rv_cellN hf H 1 TF.la54 rfl rfl rfl) ?_
    have hN := H.endsB1 3 rfl
    exact ⟨_, rfl, H.chg, _, H.boxAt 3 rfl, (L1CurP_mk (x := y4.2) (eB 3 (H.get 1 rfl))), ⟨fxc hx12, hx12⟩, F4, ⟨_, Action_ownmk (x := ({ Kind := 2, Light := y5 } : Action)) (H.ownAt 0 rfl), rfl⟩, hN⟩
   ·refine sqz (pz 2 hf fun a hf => ?_)
    refine wl_end (then_n (ib hF hf (fun hc4 hF => ?_) fun hc4 hF => ?_))
    ·refine sq (dw [9] 10 fun w hb => ?_)
     have H := H.keep hb
     refine zp 0 hf trivial fun a hf => ?_
     refine strT (H.lt_ [true, false, false, false] [] [] []) (fun w H => trivial) fun hS => ?_
     refine zS 1 [1, 7, 8, 9] rfl rfl rfl rfl hf hS (fun w H => rq_loadB hf H TF.ls3 0 rfl rfl rfl) fun a hf => ?_
     refine zp 2 hf hS fun a hf => ?_
     refine zS 3 [3, 4, 6, 7, 8, 9] rfl rfl rfl rfl hf hS (fun w H => rq_loadBN hf H TF.la49 0 rfl rfl rfl rfl) fun a hf => ?_
     refine zp 5 hf hS fun a hf => ?_
     obtain ⟨y6, hy6, hF⟩ := bs_ hF
     refine nn 4 rfl (oC hf TF.cl176 (spec_l4Own_ok (S := TT) (Route_mkv (x := e.Route) (H.rt 1 rfl)) hy6) fun v6 w a hp8 hf => ?_)
     obtain ⟨hb2, F5, hp9, hN3⟩ := hp8
     obtain ⟨A12, c13, F6, rfl, rfl, hl12⟩ := Route_vo hp9
     have H := H.aO1 hb2 hN3 hl12
     have H := H.lend 0 rfl
     have hS := H.lt_ [true, false, false, false] [] [false] []
     refine aS hS ?_
     obtain ⟨y7, hy7, hF⟩ := bs_ hF
     refine nn 6 rfl (oC hf TF.cl180 (spec_l1Cur_block_ok (S := NB b0) (H.boxAt 3 rfl) ((L1CurP_mk (x := y4.2) (H.nb 3 rfl (H.get 1 rfl)))) (fun h => h rfl) hy7) fun v7 w a hp10 hf => ?_)
     obtain ⟨hch5, cs6, hbx5, hr6, ⟨hx13, hx14⟩, hs5⟩ := hp10
     obtain rfl := Block_open hs5
     obtain ⟨A13, c14, rfl, hl13⟩ := L1CurP_cells hr6
     obtain ⟨rfl, rfl⟩ := fx_slice hx13 rfl rfl
     have hx15 := hx14.trans hx12
     have H := H.wroteBox 3 rfl hch5 hbx5
     have H := H.pX 1 rfl hx14
     have hS := H.lt_ [true, false, false, false] [] [false] []
     refine aS hS ?_
     refine zP 7 rfl rfl rfl rfl hf hS (fun w => rq_build hf (cs := [(.int .i64 e.Id), (.int .i64 y6.Start), (.slice A12 y6.Fibers.length c13), (.int .i64 y7.1.First), (.int .i64 y7.1.Count)]) rfl (fun w => by kernel_rfl)) fun a hf => ?_
     refine zP 8 rfl rfl rfl rfl hf hS (fun w => rq_build hf (cs := [(.int .i64 3), (.int .i64 e.Id), (.int .i64 y6.Start), (.slice A12 y6.Fibers.length c13), (.int .i64 y7.1.First), (.int .i64 y7.1.Count)]) rfl (fun w => by kernel_rfl)) fun a hf => ?_
     refine nn 9 rfl (op_storeB hf H 1 TF.sz54 rfl rfl rfl rfl rfl rfl (nle rfl) fun w H => ?_)
     refine ⟨fun h => absurd h (by decide), ?_⟩
     refine dk ?_
     have hf := hf.pn [4]
     refine then_n (wp_ret (blk_r (then_r (then_r (?_)))))
     obtain rfl := oi hF
     refine ret_1 hf rfl (rv_cellN hf H 1 TF.la54 rfl rfl rfl) ?_
     have hN := H.endsB1 3 rfl
     exact ⟨_, rfl, H.chg, _, H.boxAt 3 rfl, (L1CurP_mk (x := y7.2) (eB 3 (H.get 0 rfl))), ⟨fxc hx15, hx15⟩, F6, ⟨_, Action_ownmk (x := ({ Kind := 3, Light := ({ Id := e.Id, Route := y6, Block := y7.1 } : Light) } : Action)) (H.ownAt 0 rfl), rfl⟩, hN⟩
    ·refine wp_skip (blk_n (then_n (sq (dw [14] 15 fun w hb => ?_))))
     have H := H.keep hb
     refine zp 0 hf trivial fun a hf => ?_
     refine strT (H.lt_ [true, false, false, false] [] [] []) (fun w H => trivial) fun hS => ?_
     refine zS 1 [1, 12, 13, 14] rfl rfl rfl rfl hf hS (fun w H => rq_loadB hf H TF.ls3 0 rfl rfl rfl) fun a hf => ?_
     refine zp 2 hf hS fun a hf => ?_
     refine zp 3 hf hS fun a hf => ?_
     refine strT (H.lt_ [true, false, true, false] [] [] []) (fun w H => H.lt_ [true, false] [] [] []) fun hS => ?_
     refine zS 4 [4, 5, 7, 11, 12, 13, 14] rfl rfl rfl rfl hf hS (fun w H => rq_loadBN hf H TF.la42 1 rfl rfl rfl rfl) fun a hf => ?_
     refine zp 6 hf hS fun a hf => ?_
     refine zp 8 hf hS fun a hf => ?_
     refine zp 9 hf hS fun a hf => ?_
     refine zS 10 [10, 11, 12, 13, 14] rfl rfl rfl rfl hf hS (fun w H => rq_loadB hf H TF.ls3 0 rfl rfl rfl) fun a hf => ?_
     obtain ⟨y8, hy8, hF⟩ := bs_ hF
     refine nn 5 rfl (oC hf TF.cl181 (spec_l1Cur_anyRoute_ok (S := NB b0) (H.boxAt 3 rfl) ((L1CurP_mk (x := y4.2) (H.nb 3 rfl (H.get 0 rfl)))) (fun h => h rfl) (Network_mkv (x := p.Network) (H.nb 3 rfl (H.get 5 rfl)) (H.nb 3 rfl (H.get 4 rfl))) hy8) fun v8 w a hp11 hf => ?_)
     obtain ⟨hch6, cs7, hbx6, hr7, ⟨hx16, hx17⟩, hs6⟩ := hp11
     obtain ⟨F7, hp12, hN4⟩ := hs6
     obtain ⟨A14, c15, F8, rfl, rfl, hl14⟩ := Route_vo hp12
     obtain ⟨A15, c16, rfl, hl15⟩ := L1CurP_cells hr7
     obtain ⟨rfl, rfl⟩ := fx_slice hx16 rfl rfl
     have hx18 := hx17.trans hx12
     have H := H.bO1 3 rfl hch6 hbx6 hN4 hl14
     have H := H.pX 0 rfl hx17
     have H := H.lend 0 rfl
     have hS := H.lt_ [true, false, true, false] [] [false] []
     refine aS hS ?_
     obtain ⟨y9, hy9, hF⟩ := bs_ hF
     refine nn 7 rfl (oC hf TF.cl178 (spec_l1Cur_pick_ok (S := NB b0) (H.boxAt 3 rfl) ((L1CurP_mk (x := y8.2) (H.nb 3 rfl (H.get 1 rfl)))) (fun h => h rfl) mk_int hy9) fun v9 w a hp13 hf => ?_)
     obtain ⟨hch7, cs8, hbx7, hr8, ⟨hx19, hx20⟩, hs7⟩ := hp13
     obtain rfl := VR_int hs7
     obtain ⟨A16, c17, rfl, hl16⟩ := L1CurP_cells hr8
     obtain ⟨rfl, rfl⟩ := fx_slice hx19 rfl rfl
     have hx21 := hx20.trans hx18
     have H := H.wroteBox 3 rfl hch7 hbx7
     have H := H.pX 1 rfl hx20
     have hS := H.lt_ [true, false, true, false] [] [false] []
     refine aS hS ?_
     refine zP 11 rfl rfl rfl rfl hf hS (fun w => rq_build hf (cs := [(.int .i64 y9.1), (.int .i64 e.Block.Count)]) rfl (fun w => by kernel_rfl)) fun a hf => ?_
     refine zP 12 rfl rfl rfl rfl hf hS (fun w => rq_build hf (cs := [(.int .i64 e.Id), (.int .i64 y8.1.Start), (.slice A14 y8.1.Fibers.length c15), (.int .i64 y9.1), (.int .i64 e.Block.Count)]) rfl (fun w => by kernel_rfl)) fun a hf => ?_
     refine zP 13 rfl rfl rfl rfl hf hS (fun w => rq_build hf (cs := [(.int .i64 3), (.int .i64 e.Id), (.int .i64 y8.1.Start), (.slice A14 y8.1.Fibers.length c15), (.int .i64 y9.1), (.int .i64 e.Block.Count)]) rfl (fun w => by kernel_rfl)) fun a hf => ?_
     refine nn 14 rfl (op_storeB hf H 1 TF.sz54 rfl rfl rfl rfl rfl rfl (nle rfl) fun w H => ?_)
     refine ⟨fun h => absurd h (by decide), ?_⟩
     refine dk ?_
     have hf := hf.pn [4]
     refine then_n (wp_ret (then_r (?_)))
     obtain rfl := oi hF
     refine ret_1 hf rfl (rv_cellN hf H 1 TF.la54 rfl rfl rfl) ?_
     have hN := H.endsB1 3 rfl
     exact ⟨_, rfl, H.chg, _, H.boxAt 3 rfl, (L1CurP_mk (x := y9.2) (eB 3 (H.get 0 rfl))), ⟨fxc hx21, hx21⟩, F8, ⟨_, Action_ownmk (x := ({ Kind := 3, Light := ({ Id := e.Id, Route := y8.1, Block := ({ First := y9.1, Count := e.Block.Count } : Block) } : Light) } : Action)) (H.ownAt 0 rfl), rfl⟩, hN⟩
  ·refine wp_skip (then_n (sq (dw [5] 6 fun w hb => ?_)))
   have H := H.keep hb
   refine zp 0 hf trivial fun a hf => ?_
   refine strT (H.lt_ [true, false, false, false] [] [false] []) (fun w H => trivial) fun hS => ?_
   refine zS 3 [3, 4, 5] rfl rfl rfl rfl hf hS (fun w H => rq_loadBN hf H TF.la52 0 rfl rfl rfl rfl) fun a hf => ?_
   refine nn 1 rfl (bl hf H 3 ([1, 1, 1, 2, 3, 0, 4] : List Int) [(.int .i64 1), (.int .i64 1), (.int .i64 1), (.int .i64 2), (.int .i64 3), (.int .i64 0), (.int .i64 4)] (elI [1, 1, 1, 2, 3, 0, 4]) fun A17 a w hf H => ?_)
   have hS := H.lt_ [true, false, false, false] [false] [false] []
   refine aS hS ?_
   have H := H.freeze 0 rfl
   obtain ⟨y10, hy10, hF⟩ := bs_ hF
   refine nn 2 rfl (oC hf TF.cl179 (spec_l1Cur_among_ok (S := NB b0) (H.boxAt 3 rfl) ((L1CurP_mk (x := y2.2) (H.nb 3 rfl (H.get 1 rfl)))) (fun h => h rfl) (mk_list (H.nb 3 rfl (H.get 0 rfl))) hy10) fun v10 w a hp14 hf => ?_)
   obtain ⟨hch8, cs9, hbx8, hr9, ⟨hx22, hx23⟩, hs8⟩ := hp14
   obtain rfl := VR_int hs8
   obtain ⟨A18, c18, rfl, hl17⟩ := L1CurP_cells hr9
   obtain ⟨rfl, rfl⟩ := fx_slice hx22 rfl rfl
   have hx24 := hx23.trans hx5
   have H := H.wroteBox 3 rfl hch8 hbx8
   have H := H.pX 1 rfl hx23
   have hS := H.lt_ [true, false, false, false] [] [false] []
   refine aS hS ?_
   refine zP 4 rfl rfl rfl rfl hf hS (fun w => rq_build hf (cs := [(.int .i64 y10.1), (.int .i64 y.1.Id), (.int .i64 y.1.Route.Start), (.slice A5 y.1.Route.Fibers.length c6), (.int .i64 y.1.Block.First), (.int .i64 y.1.Block.Count)]) rfl (fun w => by kernel_rfl)) fun a hf => ?_
   refine nn 5 rfl (op_storeB hf H 1 TF.sz54 rfl rfl rfl rfl rfl rfl (nle rfl) fun w H => ?_)
   refine ⟨fun h => absurd h (by decide), ?_⟩
   refine dk ?_
   have hf := hf.pn [4]
   refine then_n (wp_ret (?_))
   obtain rfl := oi hF
   refine ret_1 hf rfl (rv_cellN hf H 1 TF.la54 rfl rfl rfl) ?_
   have hN := H.endsB1 3 rfl
   exact ⟨_, rfl, H.chg, _, H.boxAt 3 rfl, (L1CurP_mk (x := y10.2) (eB 3 (H.get 0 rfl))), ⟨fxc hx24, hx24⟩, F2, ⟨_, Action_ownmk (x := ({ Kind := y10.1, Light := y.1 } : Action)) (H.ownAt 0 rfl), rfl⟩, hN⟩
 ·have hf := hf.lit 14 rfl hc
  refine pz 4 hf fun a hf => ?_
  refine wl_end (then_n (cd_f hf rfl rfl (wp_skip (then_n (sq (dw [5] 6 fun w hb => ?_))))))
  have H := H.keep hb
  refine zp 0 hf trivial fun a hf => ?_
  refine strT (H.lt_ [true, false, false, false] [] [false] []) (fun w H => trivial) fun hS => ?_
  refine zS 3 [3, 4, 5] rfl rfl rfl rfl hf hS (fun w H => rq_loadBN hf H TF.la52 0 rfl rfl rfl rfl) fun a hf => ?_
  refine nn 1 rfl (bl hf H 3 ([1, 1, 1, 2, 3, 0, 4] : List Int) [(.int .i64 1), (.int .i64 1), (.int .i64 1), (.int .i64 2), (.int .i64 3), (.int .i64 0), (.int .i64 4)] (elI [1, 1, 1, 2, 3, 0, 4]) fun A19 a w hf H => ?_)
  have hS := H.lt_ [true, false, false, false] [false] [false] []
  refine aS hS ?_
  have H := H.freeze 0 rfl
  obtain ⟨y11, hy11, hF⟩ := bs_ hF
  refine nn 2 rfl (oC hf TF.cl179 (spec_l1Cur_among_ok (S := NB b0) (H.boxAt 3 rfl) ((L1CurP_mk (x := y.2) (H.nb 3 rfl (H.get 2 rfl)))) (fun h => h rfl) (mk_list (H.nb 3 rfl (H.get 0 rfl))) hy11) fun v11 w a hp15 hf => ?_)
  obtain ⟨hch9, cs10, hbx9, hr10, ⟨hx25, hx26⟩, hs9⟩ := hp15
  obtain rfl := VR_int hs9
  obtain ⟨A20, c19, rfl, hl18⟩ := L1CurP_cells hr10
  obtain ⟨rfl, rfl⟩ := fx_slice hx25 rfl rfl
  have hx27 := hx26.trans hx2
  have H := H.wroteBox 3 rfl hch9 hbx9
  have H := H.pX 2 rfl hx26
  have hS := H.lt_ [true, false, false, false] [] [false] []
  refine aS hS ?_
  refine zP 4 rfl rfl rfl rfl hf hS (fun w => rq_build hf (cs := [(.int .i64 y11.1), (.int .i64 y.1.Id), (.int .i64 y.1.Route.Start), (.slice A5 y.1.Route.Fibers.length c6), (.int .i64 y.1.Block.First), (.int .i64 y.1.Block.Count)]) rfl (fun w => by kernel_rfl)) fun a hf => ?_
  refine nn 5 rfl (op_storeB hf H 1 TF.sz54 rfl rfl rfl rfl rfl rfl (nle rfl) fun w H => ?_)
  refine ⟨fun h => absurd h (by decide), ?_⟩
  refine dk ?_
  have hf := hf.pn [4]
  refine then_n (wp_ret (?_))
  obtain rfl := oi hF
  refine ret_1 hf rfl (rv_cellN hf H 1 TF.la54 rfl rfl rfl) ?_
  have hN := H.endsB1 3 rfl
  exact ⟨_, rfl, H.chg, _, H.boxAt 3 rfl, (L1CurP_mk (x := y11.2) (eB 3 (H.get 0 rfl))), ⟨fxc hx27, hx27⟩, F2, ⟨_, Action_ownmk (x := ({ Kind := y11.1, Light := y.1 } : Action)) (H.ownAt 0 rfl), rfl⟩, hN⟩
theorem laws_vNetworks_ok {S : Nat → Prop} {v0_ : Value} {v1_ : Value} {a' : Network} {b' : Network} {r : Bool} (h0 : VR w0 S v0_ a') (h1 : VR w0 S v1_ b') (hF : laws_vNetworks fu a' b' = some r) :
    Calls Tryz.prog 96 [v0_, v1_].toArray w0 fun e w' => ∃ v, e = .returned v ∧ (Below w0.heap.size w0 w' ∧ VR w' (St ⟨w0, []⟩ S [] [] [] true) v r) := by
 obtain ⟨A, c, A2, c2, rfl, hl, hl2⟩ := Network_open h0
 obtain ⟨A3, c3, A4, c4, rfl, hl3, hl4⟩ := Network_open h1
 have H := Mem.start ⟨w0, []⟩ S
 have H := H.pA hl
 have H := H.pA hl2
 have H := H.pA hl3
 have H := H.pA hl4
 refine en Tryz.func96 fun a hf => ?_
 rw [laws_vNetworks] at hF
 refine bx hf H fun b2 a w hf H => ?_
 refine wl0 rfl (op_box hf H rfl rfl (by decide) fun b3 a w hf H => ?_)
 refine pz 1 hf fun a hf => ?_
 refine wl_end (then_n (sq (sq ?_)))
 obtain ⟨c5, hGc5, hF⟩ := bs_ hF
 have fh := hf.prune [2, 3] rfl
 have Hm := H.lt_ [true, true] [] [] [0, 1, 2, 3]
 refine midF 22 (.bool c5) fh Hm ?_ fun a w hf H => ?_
 ·refine reg (pz 1 hf fun a hf => ?_)
  refine lB 1 hf H TF.ls22 fun a hf => ?_
  refine pz 2 hf fun a hf => ?_
  refine lB 0 hf H TF.ls22 fun a hf => ?_
  refine pz 3 hf fun a hf => ?_
  refine iteB hGc5 (fun hc hGc5 => ?_) fun hc hGc5 => ?_
  ·have hf := hf.lit 14 rfl hc
   refine pz 8 hf fun a hf => ?_
   obtain rfl := oi hGc5
   have hf := hf.pn [22, 2, 3]
   have H := H.lt_ [true, true] [] [] [0, 1, 2, 3]
   exact wl_end ⟨hf, H⟩
  ·have hf := hf.lit 14 rfl hc
   refine pz 1 hf fun a hf => ?_
   refine wlg hf rfl rfl rfl (op_q hf (rq_loadB hf H TF.ls40 1 rfl rfl rfl) rfl (by decide) fun a hf => ?_)
   refine pz 2 hf fun a hf => ?_
   refine wlg hf rfl rfl rfl (op_q hf (rq_loadB hf H TF.ls40 0 rfl rfl rfl) rfl (by decide) fun a hf => ?_)
   refine pz 3 hf fun a hf => ?_
   obtain rfl := oi hGc5
   have hf := hf.pn [22, 2, 3]
   have H := H.lt_ [true, true] [] [] [0, 1, 2, 3]
   exact wl_end ⟨hf, H⟩
 refine then_n (ib hF hf (fun hc2 hF => ?_) fun hc2 hF => ?_)
 ·refine sqz (pz 1 hf fun a hf => ?_)
  refine wl_end (then_n (wp_ret (then_r (?_))))
  obtain rfl := oi hF
  refine rT hf ?_
  exact ⟨_, rfl, H.bel, mk_bool⟩
 ·refine wp_skip (then_n (sq (sqz (pz 1 hf fun a hf => ?_))))
  refine wl_end (then_n ?_)
  obtain ⟨out', hB1, hF⟩ := bs_ hF
  have hf := hf.pn [2, 3, 5]
  have H := H.lt_ [true, true] [] [] [0, 1, 2, 3]
  refine loopC (fun (s : Int) (a : Act) (w : World) => match s with | i => Fr a 59 [(2, (.pointer (some ⟨b2, 0, none⟩))), (3, (.pointer (some ⟨b3, 0, none⟩))), (5, (.int .i64 i))] ∧ Mem ⟨w0, []⟩ S [⟨b3, 42, [(.slice A3 b'.Nodes.length c3), (.slice A4 b'.Fibers.length c4)]⟩, ⟨b2, 42, [(.slice A a'.Nodes.length c), (.slice A2 a'.Fibers.length c2)]⟩] [] [] [(false, MP.val [(.slice A4 b'.Fibers.length c4)] (b'.Fibers : List Fiber)), (false, MP.val [(.slice A3 b'.Nodes.length c3)] (b'.Nodes : List ByteArray)), (false, MP.val [(.slice A2 a'.Fibers.length c2)] (a'.Fibers : List Fiber)), (false, MP.val [(.slice A a'.Nodes.length c)] (a'.Nodes : List ByteArray))] w) (fun k (s : Int) => laws_vNetworks_L1 fu a' b' k s = some out') (fun s => out' = Out.next s) 0 fu hB1 ⟨hf, H⟩ (fun s h => by cases h) ?_ ?_
  ·rintro fk i a w hR1 hI
   replace hR1 : laws_vNetworks_L1 fu a' b' (fk + 1) i = some out' := hR1
   rw [laws_vNetworks_L1] at hR1
   obtain ⟨hf, H⟩ := hI
   refine sq (sqz (pz 2 hf fun a hf => ?_))
   refine lB 1 hf H TF.ls22 fun a hf => ?_
   refine pz 2 hf fun a hf => ?_
   refine wl_end (then_n (ib hR1 hf (fun hc3 hR1 => ?_) fun hc3 hR1 => ?_))
   ·refine wp_skip (then_n (sq (wp_block (sq (dw [] 11 fun w hb => ?_)))))
    have H := H.keep hb
    refine zp 0 hf trivial fun a hf => ?_
    refine strT (H.lt_ [false, true] [] [] []) (fun w H => trivial) fun hS => ?_
    refine zS 1 [] rfl rfl rfl rfl hf hS (fun w H => rq_loadB hf H TF.ls22 0 rfl rfl rfl) fun a hf => ?_
    refine zp 2 hf hS fun a hf => ?_
    obtain ⟨e, he, hR1⟩ := bs_ hR1
    obtain ⟨p, o, cs, hx, hr, H⟩ := pre_iaddr H Tryz.underlying22 TF.sz9 3 rfl he
    refine zP 3 rfl rfl rfl rfl hf hS (fun w => rq_iaddrE hf rfl rfl rfl hx w) fun a hf => ?_
    obtain rfl := hr
    refine strT (H.lt_ [false, true] [] [] [0]) (fun w H => H.lt_ [true] [] [] []) fun hS => ?_
    refine zS 4 [] rfl rfl rfl rfl hf hS (fun w H => rq_loadI hf H TF.ls9 0 0 rfl rfl rfl) fun a hf => ?_
    refine zp 5 hf hS fun a hf => ?_
    refine strT (H.lt_ [true, true] [] [] [0]) (fun w H => H.lt_ [false, true] [] [] [0]) fun hS => ?_
    refine zS 6 [] rfl rfl rfl rfl hf hS (fun w H => rq_loadB hf H TF.ls22 0 rfl rfl rfl) fun a hf => ?_
    refine zp 7 hf hS fun a hf => ?_
    obtain ⟨e2, he2, hR1⟩ := bs_ hR1
    obtain ⟨p2, o2, cs2, hx2, hr2, H⟩ := pre_iaddr H Tryz.underlying22 TF.sz9 2 rfl he2
    refine zP 8 rfl rfl rfl rfl hf hS (fun w => rq_iaddrE hf rfl rfl rfl hx2 w) fun a hf => ?_
    obtain rfl := hr2
    refine strT (H.lt_ [true, true] [] [] [0, 1]) (fun w H => H.lt_ [true, true] [] [] [1]) fun hS => ?_
    refine zS 9 [] rfl rfl rfl rfl hf hS (fun w H => rq_loadI hf H TF.ls9 0 0 rfl rfl rfl) fun a hf => ?_
    refine zp 10 hf hS fun a hf => ?_
    refine dk ?_
    have hf := hf.pn [2, 3, 5, 40]
    refine then_n (ib hR1 hf (fun hc4 hR1 => ?_) fun hc4 hR1 => ?_)
    ·refine sqz (pz 1 hf fun a hf => ?_)
     refine wl_end (then_n (wp_ret (blk_r (then_r (then_r (blk_r (then_r (then_r (?_)))))))))
     obtain rfl := oi hR1
     replace hF := on_ret hF
     obtain rfl := oi hF
     refine rT hf ?_
     exact ⟨_, rfl, H.bel, mk_bool⟩
    ·refine wp_skip (blk_n (then_n (reg (pz 3 hf fun a hf => ?_))))
     refine wl_end ?_
     have hf := hf.pn [2, 3, 5]
     have H := H.lt_ [true, true] [] [] [2, 3, 4, 5]
     exact then_n ⟨w64 (i + 1), hR1, hf, H⟩
   ·refine wp_exit (then_x (then_x (blk_e (?_))))
    have hf := hf.pn [2, 3, 5]
    have H := H.lt_ [true, true] [] [] [0, 1, 2, 3]
    exact ⟨i, (Option.some.inj hR1).symm, hf, H⟩
  rintro a w ⟨i2, rfl, hf, H⟩
  replace hF := on_next hF
  refine then_n (sq (sqz (pz 1 hf fun a hf => ?_)))
  refine wl_end (then_n ?_)
  obtain ⟨out2, hB1, hF⟩ := bs_ hF
  have hf := hf.pn [2, 3, 6]
  have H := H.lt_ [true, true] [] [] [0, 1, 2, 3]
  refine loopC (fun (s : Int) (a : Act) (w : World) => match s with | i3 => Fr a 59 [(2, (.pointer (some ⟨b2, 0, none⟩))), (3, (.pointer (some ⟨b3, 0, none⟩))), (6, (.int .i64 i3))] ∧ Mem ⟨w0, []⟩ S [⟨b3, 42, [(.slice A3 b'.Nodes.length c3), (.slice A4 b'.Fibers.length c4)]⟩, ⟨b2, 42, [(.slice A a'.Nodes.length c), (.slice A2 a'.Fibers.length c2)]⟩] [] [] [(false, MP.val [(.slice A4 b'.Fibers.length c4)] (b'.Fibers : List Fiber)), (false, MP.val [(.slice A3 b'.Nodes.length c3)] (b'.Nodes : List ByteArray)), (false, MP.val [(.slice A2 a'.Fibers.length c2)] (a'.Fibers : List Fiber)), (false, MP.val [(.slice A a'.Nodes.length c)] (a'.Nodes : List ByteArray))] w) (fun k (s : Int) => laws_vNetworks_L2 fu a' b' k s = some out2) (fun s => out2 = Out.next s) 0 fu hB1 ⟨hf, H⟩ (fun s h => by cases h) ?_ ?_
  ·rintro fk i3 a w hR1 hI
   replace hR1 : laws_vNetworks_L2 fu a' b' (fk + 1) i3 = some out2 := hR1
   rw [laws_vNetworks_L2] at hR1
   obtain ⟨hf, H⟩ := hI
   refine sq (sqz (pz 2 hf fun a hf => ?_))
   refine lB 1 hf H TF.ls40 fun a hf => ?_
   refine pz 2 hf fun a hf => ?_
   refine wl_end (then_n (ib hR1 hf (fun hc5 hR1 => ?_) fun hc5 hR1 => ?_))
   ·refine wp_skip (then_n (sq (wp_block (sq (dw [] 11 fun w hb => ?_)))))
    have H := H.keep hb
    refine zp 0 hf trivial fun a hf => ?_
    refine strT (H.lt_ [false, true] [] [] []) (fun w H => trivial) fun hS => ?_
    refine zS 1 [] rfl rfl rfl rfl hf hS (fun w H => rq_loadB hf H TF.ls40 0 rfl rfl rfl) fun a hf => ?_
    refine zp 2 hf hS fun a hf => ?_
    obtain ⟨e3, he3, hR1⟩ := bs_ hR1
    obtain ⟨p3, o3, cs3, hx3, hr3, H⟩ := pre_iaddr H Tryz.underlying40 TF.sz164 2 rfl he3
    refine zP 3 rfl rfl rfl rfl hf hS (fun w => rq_iaddrE hf rfl rfl rfl hx3 w) fun a hf => ?_
    obtain rfl := Fiber_cells hr3
    refine strT (H.lt_ [false, true] [] [] [0]) (fun w H => H.lt_ [true] [] [] []) fun hS => ?_
    refine zS 4 [] rfl rfl rfl rfl hf hS (fun w H => rq_loadIN hf H TF.la164 0 0 rfl rfl rfl rfl) fun a hf => ?_
    refine zp 5 hf hS fun a hf => ?_
    refine strT (H.lt_ [true, true] [] [] [0]) (fun w H => H.lt_ [false, true] [] [] [0]) fun hS => ?_
    refine zS 6 [] rfl rfl rfl rfl hf hS (fun w H => rq_loadB hf H TF.ls40 0 rfl rfl rfl) fun a hf => ?_
    refine zp 7 hf hS fun a hf => ?_
    obtain ⟨e4, he4, hR1⟩ := bs_ hR1
    obtain ⟨p4, o4, cs4, hx4, hr4, H⟩ := pre_iaddr H Tryz.underlying40 TF.sz164 1 rfl he4
    refine zP 8 rfl rfl rfl rfl hf hS (fun w => rq_iaddrE hf rfl rfl rfl hx4 w) fun a hf => ?_
    obtain rfl := Fiber_cells hr4
    refine strT (H.lt_ [true, true] [] [] [0, 1]) (fun w H => H.lt_ [true, true] [] [] [1]) fun hS => ?_
    refine zS 9 [] rfl rfl rfl rfl hf hS (fun w H => rq_loadIN hf H TF.la164 0 0 rfl rfl rfl rfl) fun a hf => ?_
    refine zP 10 rfl rfl rfl rfl hf hS (fun w => rq_neT hf TF.qeqt164 ([e3.A, e3.B, e3.Length, e3.Risk] : List Int) ([e4.A, e4.B, e4.Length, e4.Risk] : List Int) rfl rfl rfl rfl rfl rfl) fun a hf => ?_
    refine dk ?_
    have hf := hf.pn [2, 3, 6, 58]
    refine then_n (ib hR1 hf (fun hc6 hR1 => ?_) fun hc6 hR1 => ?_)
    ·refine sqz (pz 1 hf fun a hf => ?_)
     refine wl_end (then_n (wp_ret (blk_r (then_r (then_r (blk_r (then_r (then_r (?_)))))))))
     obtain rfl := oi hR1
     replace hF := on_ret hF
     obtain rfl := oi hF
     refine rT hf ?_
     exact ⟨_, rfl, H.bel, mk_bool⟩
    ·refine wp_skip (blk_n (then_n (reg (pz 3 hf fun a hf => ?_))))
     refine wl_end ?_
     have hf := hf.pn [2, 3, 6]
     have H := H.lt_ [true, true] [] [] [2, 3, 4, 5]
     exact then_n ⟨w64 (i3 + 1), hR1, hf, H⟩
   ·refine wp_exit (then_x (then_x (blk_e (?_))))
    have hf := hf.pn [2, 3, 6]
    have H := H.lt_ [true, true] [] [] [0, 1, 2, 3]
    exact ⟨i3, (Option.some.inj hR1).symm, hf, H⟩
  rintro a w ⟨i4, rfl, hf, H⟩
  replace hF := on_next hF
  refine then_n (sqz (pz 1 hf fun a hf => ?_))
  refine wer ?_
  obtain rfl := oi hF
  refine rT hf ?_
  exact ⟨_, rfl, H.bel, mk_bool⟩
theorem laws_vInts_ok {S : Nat → Prop} {v0_ : Value} {v1_ : Value} {a' : List Int} {b' : List Int} {r : Bool} (h0 : VR w0 S v0_ a') (h1 : VR w0 S v1_ b') (hF : laws_vInts fu a' b' = some r) :
    Calls Tryz.prog 184 [v0_, v1_].toArray w0 fun e w' => ∃ v, e = .returned v ∧ (Below w0.heap.size w0 w' ∧ VR w' (St ⟨w0, []⟩ S [] [] [] true) v r) := by
 obtain ⟨A, c, rfl, hl⟩ := VR_list h0
 obtain ⟨A2, c2, rfl, hl2⟩ := VR_list h1
 have H := Mem.start ⟨w0, []⟩ S
 have H := H.pA hl
 have H := H.pA hl2
 refine en Tryz.func184 fun a hf => ?_
 rw [laws_vInts] at hF
 refine sqz (pz 1 hf fun a hf => ?_)
 refine we (sqz (pz 5 hf fun a hf => ?_))
 refine wl_end (then_n (ib hF hf (fun hc hF => ?_) fun hc hF => ?_))
 ·refine sqz (pz 1 hf fun a hf => ?_)
  refine wl_end (then_n (wp_ret (then_r (?_))))
  obtain rfl := oi hF
  refine rT hf ?_
  exact ⟨_, rfl, H.bel, mk_bool⟩
 ·refine wp_skip (then_n (sq (sqz (pz 1 hf fun a hf => ?_))))
  refine wl_end (then_n ?_)
  obtain ⟨out', hB1, hF⟩ := bs_ hF
  have hf := hf.pn [0, 1, 5]
  have H := H.lt_ [] [] [] [0, 1]
  refine loopC (fun (s : Int) (a : Act) (w : World) => match s with | i => Fr a 26 [(0, (.slice A a'.length c)), (1, (.slice A2 b'.length c2)), (5, (.int .i64 i))] ∧ Mem ⟨w0, []⟩ S [] [] [] [(false, MP.val [(.slice A2 b'.length c2)] (b' : List Int)), (false, MP.val [(.slice A a'.length c)] (a' : List Int))] w) (fun k (s : Int) => laws_vInts_L1 fu a' b' k s = some out') (fun s => out' = Out.next s) 0 fu hB1 ⟨hf, H⟩ (fun s h => by cases h) ?_ ?_
  ·rintro fk i a w hR1 hI
   replace hR1 : laws_vInts_L1 fu a' b' (fk + 1) i = some out' := hR1
   rw [laws_vInts_L1] at hR1
   obtain ⟨hf, H⟩ := hI
   refine sq (sqz (pz 4 hf fun a hf => ?_))
   refine wl_end (then_n (ib hR1 hf (fun hc2 hR1 => ?_) fun hc2 hR1 => ?_))
   ·refine wp_skip (then_n (sq (wp_block (sq (dw [] 9 fun w hb => ?_)))))
    have H := H.keep hb
    refine zp 0 hf trivial fun a hf => ?_
    refine zp 1 hf trivial fun a hf => ?_
    obtain ⟨e, he, hR1⟩ := bs_ hR1
    obtain ⟨p, o, cs, hx, hr, H⟩ := pre_iaddr H Tryz.underlying29 TF.sz3 1 rfl he
    refine tP 2 rfl rfl rfl rfl hf (by kernel_rfl) (fun _ => trivial) (fun w => rq_iaddrE hf rfl rfl rfl hx w) fun a hf => ?_
    obtain rfl := hr
    refine strT (H.lt_ [] [] [] [0]) (fun w H => trivial) fun hS => ?_
    refine zS 3 [] rfl rfl rfl rfl hf hS (fun w H => rq_loadI hf H TF.ls3 0 0 rfl rfl rfl) fun a hf => ?_
    refine zp 4 hf hS fun a hf => ?_
    refine zp 5 hf hS fun a hf => ?_
    obtain ⟨e2, he2, hR1⟩ := bs_ hR1
    obtain ⟨p2, o2, cs2, hx2, hr2, H⟩ := pre_iaddr H Tryz.underlying29 TF.sz3 1 rfl he2
    refine zP 6 rfl rfl rfl rfl hf hS (fun w => rq_iaddrE hf rfl rfl rfl hx2 w) fun a hf => ?_
    obtain rfl := hr2
    refine strT (H.lt_ [] [] [] [0, 1]) (fun w H => H.lt_ [] [] [] [1]) fun hS => ?_
    refine zS 7 [] rfl rfl rfl rfl hf hS (fun w H => rq_loadI hf H TF.ls3 0 0 rfl rfl rfl) fun a hf => ?_
    refine zp 8 hf hS fun a hf => ?_
    refine dk ?_
    refine then_n (ib hR1 hf (fun hc3 hR1 => ?_) fun hc3 hR1 => ?_)
    ·refine sqz (pz 1 hf fun a hf => ?_)
     have hf := hf.pn [4]
     refine wl_end (then_n (wp_ret (blk_r (then_r (then_r (blk_r (then_r (then_r (?_)))))))))
     obtain rfl := oi hR1
     replace hF := on_ret hF
     obtain rfl := oi hF
     refine rT hf ?_
     exact ⟨_, rfl, H.bel, mk_bool⟩
    ·refine wp_skip (blk_n (then_n (reg (pz 3 hf fun a hf => ?_))))
     have hf := hf.pn [0, 1, 5]
     refine wl_end ?_
     have hf := hf.pn [0, 1, 5]
     have H := H.lt_ [] [] [] [2, 3]
     exact then_n ⟨w64 (i + 1), hR1, hf, H⟩
   ·refine wp_exit (then_x (then_x (blk_e (?_))))
    have hf := hf.pn [0, 1, 5]
    have H := H.lt_ [] [] [] [0, 1]
    exact ⟨i, (Option.some.inj hR1).symm, hf, H⟩
  rintro a w ⟨i2, rfl, hf, H⟩
  replace hF := on_next hF
  refine then_n (sqz (pz 1 hf fun a hf => ?_))
  refine wer ?_
  obtain rfl := oi hF
  refine rT hf ?_
  exact ⟨_, rfl, H.bel, mk_bool⟩
theorem laws_vRoutes_ok {S : Nat → Prop} {v0_ : Value} {v1_ : Value} {a' : Route} {b' : Route} {r : Bool} (h0 : VR w0 S v0_ a') (h1 : VR w0 S v1_ b') (hF : laws_vRoutes fu a' b' = some r) :
    Calls Tryz.prog 147 [v0_, v1_].toArray w0 fun e w' => ∃ v, e = .returned v ∧ (Below w0.heap.size w0 w' ∧ VR w' (St ⟨w0, []⟩ S [] [] [] true) v r) := by
 obtain ⟨A, c, rfl, hl⟩ := Route_open h0
 obtain ⟨A2, c2, rfl, hl2⟩ := Route_open h1
 have H := Mem.start ⟨w0, []⟩ S
 have H := H.pA hl
 have H := H.pA hl2
 refine en Tryz.func147 fun a hf => ?_
 rw [laws_vRoutes] at hF
 refine bx hf H fun b2 a w hf H => ?_
 refine wl0 rfl (op_box hf H rfl rfl (by decide) fun b3 a w hf H => ?_)
 refine pz 1 hf fun a hf => ?_
 refine wl_end (then_n (sq ?_))
 obtain ⟨c3, hGc3, hF⟩ := bs_ hF
 have fh := hf.prune [] rfl
 have Hm := H.lt_ [false, false] [] [] []
 refine midF 4 (.bool c3) fh Hm ?_ fun a w hf H => ?_
 ·refine reg (pz 1 hf fun a hf => ?_)
  refine lB 1 hf H TF.ls3 fun a hf => ?_
  refine pz 1 hf fun a hf => ?_
  refine lB 0 hf H TF.ls3 fun a hf => ?_
  refine pz 2 hf fun a hf => ?_
  refine iteB hGc3 (fun hc hGc3 => ?_) fun hc hGc3 => ?_
  ·have hf := hf.lit 10 rfl hc
   refine pz 1 hf fun a hf => ?_
   refine wlg hf rfl rfl rfl (op_q hf (rq_loadB hf H TF.ls29 1 rfl rfl rfl) rfl (by decide) fun a hf => ?_)
   refine pz 1 hf fun a hf => ?_
   refine wlg hf rfl rfl rfl (op_q hf (rq_loadB hf H TF.ls29 0 rfl rfl rfl) rfl (by decide) fun a hf => ?_)
   obtain ⟨y, hy, hGc3⟩ := bs_ hGc3
   refine wlg hf rfl rfl rfl (oC hf TF.cl184 (laws_vInts_ok (S := TT) (mk_list (H.rt 1 rfl)) (mk_list (H.rt 0 rfl)) hy) fun v w a hp hf => ?_)
   obtain ⟨hb, hp⟩ := hp
   obtain rfl := VR_bool hp
   have H := H.keep hb
   refine pz 2 hf fun a hf => ?_
   obtain rfl := oi hGc3
   have hf := hf.pn [4]
   have H := H.lt_ [false, false] [] [] []
   exact wl_end ⟨hf, H⟩
  ·have hf := hf.lit 10 rfl hc
   refine pz 7 hf fun a hf => ?_
   obtain rfl := oi hGc3
   have hf := hf.pn [4]
   have H := H.lt_ [false, false] [] [] []
   exact wl_end ⟨hf, H⟩
 refine then_n (wp_ret (?_))
 obtain rfl := oi hF
 refine rT hf ?_
 exact ⟨_, rfl, H.bel, mk_bool⟩
theorem laws_vLights_ok {S : Nat → Prop} {v0_ : Value} {v1_ : Value} {a' : Light} {b' : Light} {r : Bool} (h0 : VR w0 S v0_ a') (h1 : VR w0 S v1_ b') (hF : laws_vLights fu a' b' = some r) :
    Calls Tryz.prog 97 [v0_, v1_].toArray w0 fun e w' => ∃ v, e = .returned v ∧ (Below w0.heap.size w0 w' ∧ VR w' (St ⟨w0, []⟩ S [] [] [] true) v r) := by
 obtain ⟨A, c, rfl, hl⟩ := Light_open h0
 obtain ⟨A2, c2, rfl, hl2⟩ := Light_open h1
 have H := Mem.start ⟨w0, []⟩ S
 have H := H.pA hl
 have H := H.pA hl2
 refine en Tryz.func97 fun a hf => ?_
 rw [laws_vLights] at hF
 refine bx hf H fun b2 a w hf H => ?_
 refine wl0 rfl (op_box hf H rfl rfl (by decide) fun b3 a w hf H => ?_)
 refine pz 1 hf fun a hf => ?_
 refine wl_end (then_n (sq ?_))
 obtain ⟨c3, hGc3, hF⟩ := bs_ hF
 have fh := hf.prune [] rfl
 have Hm := H.lt_ [false, false] [] [] []
 refine midF 4 (.bool c3) fh Hm ?_ fun a w hf H => ?_
 ·refine reg (pz 1 hf fun a hf => ?_)
  refine lB 1 hf H TF.ls3 fun a hf => ?_
  refine pz 1 hf fun a hf => ?_
  refine lB 0 hf H TF.ls3 fun a hf => ?_
  refine pz 2 hf fun a hf => ?_
  refine iteB hGc3 (fun hc hGc3 => ?_) fun hc hGc3 => ?_
  ·have hf := hf.lit 10 rfl hc
   refine pz 1 hf fun a hf => ?_
   refine wlg hf rfl rfl rfl (op_q hf (rq_loadBN hf H TF.la50 1 rfl rfl rfl rfl) rfl (by decide) fun a hf => ?_)
   refine pz 1 hf fun a hf => ?_
   refine wlg hf rfl rfl rfl (op_q hf (rq_loadBN hf H TF.la50 0 rfl rfl rfl rfl) rfl (by decide) fun a hf => ?_)
   refine wlg hf rfl rfl rfl (op_q hf (rq_eqT hf TF.qeqt50 ([a'.Block.First, a'.Block.Count] : List Int) ([b'.Block.First, b'.Block.Count] : List Int) rfl rfl rfl rfl rfl rfl) rfl (by decide) fun a hf => ?_)
   refine pz 2 hf fun a hf => ?_
   refine iteB hGc3 (fun hc2 hGc3 => ?_) fun hc2 hGc3 => ?_
   ·have hf := hf.lit 17 rfl hc2
    refine pz 1 hf fun a hf => ?_
    refine wlg hf rfl rfl rfl (op_q hf (rq_loadBN hf H TF.la49 1 rfl rfl rfl rfl) rfl (by decide) fun a hf => ?_)
    refine pz 1 hf fun a hf => ?_
    refine wlg hf rfl rfl rfl (op_q hf (rq_loadBN hf H TF.la49 0 rfl rfl rfl rfl) rfl (by decide) fun a hf => ?_)
    obtain ⟨y, hy, hGc3⟩ := bs_ hGc3
    refine wlg hf rfl rfl rfl (oC hf TF.cl147 (laws_vRoutes_ok (S := TT) (Route_mkv (x := a'.Route) (H.rt 1 rfl)) (Route_mkv (x := b'.Route) (H.rt 0 rfl)) hy) fun v w a hp hf => ?_)
    obtain ⟨hb, hp⟩ := hp
    obtain rfl := VR_bool hp
    have H := H.keep hb
    refine pz 2 hf fun a hf => ?_
    obtain rfl := oi hGc3
    have hf := hf.pn [4]
    have H := H.lt_ [false, false] [] [] []
    exact wl_end ⟨hf, H⟩
   ·have hf := hf.lit 17 rfl hc2
    refine pz 7 hf fun a hf => ?_
    obtain rfl := oi hGc3
    have hf := hf.pn [4]
    have H := H.lt_ [false, false] [] [] []
    exact wl_end ⟨hf, H⟩
  ·have hf := hf.lit 10 rfl hc
   refine pz 14 hf fun a hf => ?_
   obtain rfl := oi hGc3
   have hf := hf.pn [4]
   have H := H.lt_ [false, false] [] [] []
   exact wl_end ⟨hf, H⟩
 refine then_n (wp_ret (?_))
 obtain rfl := oi hF
 refine rT hf ?_
 exact ⟨_, rfl, H.bel, mk_bool⟩
theorem laws_vPlans_ok {S : Nat → Prop} {v0_ : Value} {v1_ : Value} {a' : Plan} {b' : Plan} {r : Bool} (h0 : VR w0 S v0_ a') (h1 : VR w0 S v1_ b') (hF : laws_vPlans fu a' b' = some r) :
    Calls Tryz.prog 42 [v0_, v1_].toArray w0 fun e w' => ∃ v, e = .returned v ∧ (Below w0.heap.size w0 w' ∧ VR w' (St ⟨w0, []⟩ S [] [] [] true) v r) := by
 obtain ⟨A, c, A2, c2, A3, c3, rfl, hl, hl2, hl3⟩ := Plan_open h0
 obtain ⟨A4, c4, A5, c5, A6, c6, rfl, hl4, hl5, hl6⟩ := Plan_open h1
 have H := Mem.start ⟨w0, []⟩ S
 have H := H.pA hl
 have H := H.pA hl2
 have H := H.pA hl3
 have H := H.pA hl4
 have H := H.pA hl5
 have H := H.pA hl6
 refine en Tryz.func42 fun a hf => ?_
 rw [laws_vPlans] at hF
 refine bx hf H fun b2 a w hf H => ?_
 refine wl0 rfl (op_box hf H rfl rfl (by decide) fun b3 a w hf H => ?_)
 refine pz 1 hf fun a hf => ?_
 refine wl_end (then_n (sq (sq ?_)))
 obtain ⟨c7, hGc7, hF⟩ := bs_ hF
 have fh := hf.prune [2, 3] rfl
 have Hm := H.lt_ [true, true] [] [] [0, 1, 2, 3, 4, 5]
 refine midF 20 (.bool c7) fh Hm ?_ fun a w hf H => ?_
 ·refine reg (pz 1 hf fun a hf => ?_)
  refine lN 1 hf H TF.la42 fun a hf => ?_
  refine pz 1 hf fun a hf => ?_
  refine lN 0 hf H TF.la42 fun a hf => ?_
  obtain ⟨y, hy, hGc7⟩ := bs_ hGc7
  refine oc hf TF.cl96 (laws_vNetworks_ok (S := TT) (Network_mkv (x := a'.Network) (H.rt 5 rfl) (H.rt 4 rfl)) (Network_mkv (x := b'.Network) (H.rt 2 rfl) (H.rt 1 rfl)) hy) fun v w a hp hf => ?_
  obtain ⟨hb, hp⟩ := hp
  obtain rfl := VR_bool hp
  have H := H.keep hb
  refine pz 2 hf fun a hf => ?_
  refine iteB hGc7 (fun hc hGc7 => ?_) fun hc hGc7 => ?_
  ·have hf := hf.lit 12 rfl hc
   refine pz 8 hf fun a hf => ?_
   obtain rfl := oi hGc7
   have hf := hf.pn [20, 2, 3]
   have H := H.lt_ [true, true] [] [] [0, 1, 2, 3, 4, 5]
   exact wl_end ⟨hf, H⟩
  ·have hf := hf.lit 12 rfl hc
   refine pz 1 hf fun a hf => ?_
   refine wlg hf rfl rfl rfl (op_q hf (rq_loadB hf H TF.ls43 1 rfl rfl rfl) rfl (by decide) fun a hf => ?_)
   refine pz 2 hf fun a hf => ?_
   refine wlg hf rfl rfl rfl (op_q hf (rq_loadB hf H TF.ls43 0 rfl rfl rfl) rfl (by decide) fun a hf => ?_)
   refine pz 3 hf fun a hf => ?_
   obtain rfl := oi hGc7
   have hf := hf.pn [20, 2, 3]
   have H := H.lt_ [true, true] [] [] [0, 1, 2, 3, 4, 5]
   exact wl_end ⟨hf, H⟩
 refine then_n (ib hF hf (fun hc2 hF => ?_) fun hc2 hF => ?_)
 ·refine sqz (pz 1 hf fun a hf => ?_)
  refine wl_end (then_n (wp_ret (then_r (?_))))
  obtain rfl := oi hF
  refine rT hf ?_
  exact ⟨_, rfl, H.bel, mk_bool⟩
 ·refine wp_skip (then_n (sq (sqz (pz 1 hf fun a hf => ?_))))
  refine wl_end (then_n ?_)
  obtain ⟨out', hB1, hF⟩ := bs_ hF
  have hf := hf.pn [2, 3, 5]
  have H := H.lt_ [true, true] [] [] [0, 1, 2, 3, 4, 5]
  refine loopC (fun (s : Int) (a : Act) (w : World) => match s with | i => Fr a 40 [(2, (.pointer (some ⟨b2, 0, none⟩))), (3, (.pointer (some ⟨b3, 0, none⟩))), (5, (.int .i64 i))] ∧ Mem ⟨w0, []⟩ S [⟨b3, 45, [(.slice A4 b'.Network.Nodes.length c4), (.slice A5 b'.Network.Fibers.length c5), (.slice A6 b'.Lights.length c6)]⟩, ⟨b2, 45, [(.slice A a'.Network.Nodes.length c), (.slice A2 a'.Network.Fibers.length c2), (.slice A3 a'.Lights.length c3)]⟩] [] [] [(false, MP.val [(.slice A6 b'.Lights.length c6)] (b'.Lights : List Light)), (false, MP.val [(.slice A5 b'.Network.Fibers.length c5)] (b'.Network.Fibers : List Fiber)), (false, MP.val [(.slice A4 b'.Network.Nodes.length c4)] (b'.Network.Nodes : List ByteArray)), (false, MP.val [(.slice A3 a'.Lights.length c3)] (a'.Lights : List Light)), (false, MP.val [(.slice A2 a'.Network.Fibers.length c2)] (a'.Network.Fibers : List Fiber)), (false, MP.val [(.slice A a'.Network.Nodes.length c)] (a'.Network.Nodes : List ByteArray))] w) (fun k (s : Int) => laws_vPlans_L1 fu a' b' k s = some out') (fun s => out' = Out.next s) 0 fu hB1 ⟨hf, H⟩ (fun s h => by cases h) ?_ ?_
  ·rintro fk i a w hR1 hI
   replace hR1 : laws_vPlans_L1 fu a' b' (fk + 1) i = some out' := hR1
   rw [laws_vPlans_L1] at hR1
   obtain ⟨hf, H⟩ := hI
   refine sq (sqz (pz 2 hf fun a hf => ?_))
   refine lB 1 hf H TF.ls43 fun a hf => ?_
   refine pz 2 hf fun a hf => ?_
   refine wl_end (then_n (ib hR1 hf (fun hc3 hR1 => ?_) fun hc3 hR1 => ?_))
   ·refine wp_skip (then_n (sq (wp_block (sq (dw [] 12 fun w hb => ?_)))))
    have H := H.keep hb
    refine zp 0 hf trivial fun a hf => ?_
    refine strT (H.lt_ [false, true] [] [] []) (fun w H => trivial) fun hS => ?_
    refine zS 1 [] rfl rfl rfl rfl hf hS (fun w H => rq_loadB hf H TF.ls43 0 rfl rfl rfl) fun a hf => ?_
    refine zp 2 hf hS fun a hf => ?_
    obtain ⟨e, he, hR1⟩ := bs_ hR1
    obtain ⟨p, o, cs, hx, hr, H⟩ := pre_iaddr H Tryz.underlying43 TF.sz52 3 rfl he
    refine zP 3 rfl rfl rfl rfl hf hS (fun w => rq_iaddrE hf rfl rfl rfl hx w) fun a hf => ?_
    obtain ⟨A7, c8, rfl, hl7⟩ := Light_cells hr
    have H := H.pF hl7
    refine strT (H.lt_ [false, true] [] [] [1]) (fun w H => H.lt_ [true] [] [] []) fun hS => ?_
    refine zS 4 [] rfl rfl rfl rfl hf hS (fun w H => rq_loadIN hf H TF.la52 0 0 rfl rfl rfl rfl) fun a hf => ?_
    refine zp 5 hf hS fun a hf => ?_
    refine strT (H.lt_ [true, true] [] [] [1]) (fun w H => H.lt_ [false, true] [] [] [0]) fun hS => ?_
    refine zS 6 [] rfl rfl rfl rfl hf hS (fun w H => rq_loadB hf H TF.ls43 0 rfl rfl rfl) fun a hf => ?_
    refine zp 7 hf hS fun a hf => ?_
    obtain ⟨e2, he2, hR1⟩ := bs_ hR1
    obtain ⟨p2, o2, cs2, hx2, hr2, H⟩ := pre_iaddr H Tryz.underlying43 TF.sz52 2 rfl he2
    refine zP 8 rfl rfl rfl rfl hf hS (fun w => rq_iaddrE hf rfl rfl rfl hx2 w) fun a hf => ?_
    obtain ⟨A8, c9, rfl, hl8⟩ := Light_cells hr2
    have H := H.pF hl8
    refine strT (H.lt_ [true, true] [] [] [1, 3]) (fun w H => H.lt_ [true, true] [] [] [1]) fun hS => ?_
    refine zS 9 [] rfl rfl rfl rfl hf hS (fun w H => rq_loadIN hf H TF.la52 0 0 rfl rfl rfl rfl) fun a hf => ?_
    obtain ⟨y2, hy2, hR1⟩ := bs_ hR1
    refine nn 10 rfl (oC hf TF.cl97 (laws_vLights_ok (S := TT) (Light_mkv (x := e) (H.rt 2 rfl)) (Light_mkv (x := e2) (H.rt 0 rfl)) hy2) fun v2 w a hp2 hf => ?_)
    obtain ⟨hb2, hp2⟩ := hp2
    obtain rfl := VR_bool hp2
    have H := H.keep hb2
    have hS := H.lt_ [true, true] [] [] [1, 3]
    refine aS hS ?_
    refine zp 11 hf hS fun a hf => ?_
    refine dk ?_
    have hf := hf.pn [2, 3, 5, 39]
    refine then_n (ib hR1 hf (fun hc4 hR1 => ?_) fun hc4 hR1 => ?_)
    ·refine sqz (pz 1 hf fun a hf => ?_)
     refine wl_end (then_n (wp_ret (blk_r (then_r (then_r (blk_r (then_r (then_r (?_)))))))))
     obtain rfl := oi hR1
     replace hF := on_ret hF
     obtain rfl := oi hF
     refine rT hf ?_
     exact ⟨_, rfl, H.bel, mk_bool⟩
    ·refine wp_skip (blk_n (then_n (reg (pz 3 hf fun a hf => ?_))))
     refine wl_end ?_
     have hf := hf.pn [2, 3, 5]
     have H := H.lt_ [true, true] [] [] [4, 5, 6, 7, 8, 9]
     exact then_n ⟨w64 (i + 1), hR1, hf, H⟩
   ·refine wp_exit (then_x (then_x (blk_e (?_))))
    have hf := hf.pn [2, 3, 5]
    have H := H.lt_ [true, true] [] [] [0, 1, 2, 3, 4, 5]
    exact ⟨i, (Option.some.inj hR1).symm, hf, H⟩
  rintro a w ⟨i2, rfl, hf, H⟩
  replace hF := on_next hF
  refine then_n (sqz (pz 1 hf fun a hf => ?_))
  refine wer ?_
  obtain rfl := oi hF
  refine rT hf ?_
  exact ⟨_, rfl, H.bel, mk_bool⟩
theorem spec_l20Apply_mm {S : Nat → Prop} {v0_ : Value} {v1_ : Value} {p : Plan} {a' : Action} {r : Plan × Bool} (h0 : VR w0 S v0_ p) (h1 : VR w0 S v1_ a') (hF : spec_l20Apply fu p a' = some r) :
    Calls Tryz.prog 62 [v0_, v1_].toArray w0 fun e w' => ∃ v, e = .returned v ∧ (∃ (A0_0 : Option Addr) (c0_0 : Nat) (A0_1 : Option Addr) (c0_1 : Nat) (A0_2 : Option Addr) (c0_2 : Nat), v = .tuple #[(.agg #[(.slice A0_0 r.1.Network.Nodes.length c0_0), (.slice A0_1 r.1.Network.Fibers.length c0_1), (.slice A0_2 r.1.Lights.length c0_2)]), (.bool r.2)] ∧ Mem ⟨w0, []⟩ S [] [] [] [(true, MP.val [(.slice A0_0 r.1.Network.Nodes.length c0_0)] (r.1.Network.Nodes : List ByteArray)), (true, MP.val [(.slice A0_1 r.1.Network.Fibers.length c0_1)] (r.1.Network.Fibers : List Fiber)), (true, MP.val [(.slice A0_2 r.1.Lights.length c0_2)] (r.1.Lights : List Light))] w') := by
 obtain ⟨A, c, A2, c2, A3, c3, rfl, hl, hl2, hl3⟩ := Plan_open h0
 obtain ⟨A4, c4, rfl, hl4⟩ := Action_open h1
 have H := Mem.start ⟨w0, []⟩ S
 have H := H.pA hl
 have H := H.pA hl2
 have H := H.pA hl3
 have H := H.pA hl4
 refine en Tryz.func62 fun a hf => ?_
 rw [spec_l20Apply] at hF
 refine bx hf H fun b' a w hf H => ?_
 refine wl0 rfl (op_box hf H rfl rfl (by decide) fun b2 a w hf H => ?_)
 refine aL hf H TF.zv45 fun b3 a w hf H => ?_
 refine pz 1 hf fun a hf => ?_
 refine wr (lN 2 hf H TF.la45 fun a hf => ?_)
 refine pz 2 hf fun a hf => ?_
 refine lB 1 hf H TF.ls3 fun a hf => ?_
 obtain ⟨y, hy, hF⟩ := bs_ hF
 refine oc hf TF.cl101 (spec_l9Find_ok (S := TT) (Plan_mkv (x := p) (H.rt 3 rfl) (H.rt 2 rfl) (H.rt 1 rfl)) mk_int hy) fun v w a hp hf => ?_
 obtain ⟨hb, hp⟩ := hp
 obtain rfl := VR_int hp
 have H := H.keep hb
 refine pz 1 hf fun a hf => ?_
 refine we (sqz (pz 1 hf fun a hf => ?_))
 refine lB 1 hf H TF.ls3 fun a hf => ?_
 refine wl_end (then_n (wp_block (sqz (pz 2 hf fun a hf => ?_))))
 refine wl_end (then_n (ib hF hf (fun hc hF => ?_) fun hc hF => ?_))
 ·refine sq (reg (lN 2 hf H TF.la45 fun a hf => ?_))
  refine pz 1 hf fun a hf => ?_
  refine lN 1 hf H TF.la52 fun a hf => ?_
  obtain ⟨y2, hy2, hF⟩ := bs_ hF
  refine oc hf TF.cl53 (spec_AddLight_ok (S := TT) (Plan_mkv (x := p) (H.rt 3 rfl) (H.rt 2 rfl) (H.rt 1 rfl)) (Light_mkv (x := a'.Light) (H.rt 0 rfl)) hy2) fun v2 w a hp2 hf => ?_
  obtain ⟨hb2, v3, v4, rfl, hp3, hp4⟩ := hp2
  obtain ⟨A5, c5, A6, c6, A7, c7, rfl, hl5, hl6, hl7⟩ := Plan_open hp3
  replace hl5 := H.rF hl5
  replace hl6 := H.rF hl6
  replace hl7 := H.rF hl7
  obtain rfl := VR_bool hp4
  have H := H.keep hb2
  have H := H.pT hl5
  have H := H.pT hl6
  have H := H.pT hl7
  refine pz 2 hf fun a hf => ?_
  refine sB 0 hf H TF.sz45 fun w H => ?_
  refine pz 1 hf fun a hf => ?_
  have hf := hf.pn [4, 5]
  refine wl_end (then_n (wp_ret (blk_r (then_r (?_)))))
  obtain rfl := oi hF
  refine ret_2 hf rfl (rv_cellN hf H 0 TF.la45 rfl rfl rfl) (rv_tmp hf rfl) ?_
  have H := H.lt_ [false, false, false] [] [] [2, 1, 0]
  exact ⟨_, rfl, A5, c5, A6, c6, A7, c7, rfl, H⟩
 ·refine sqz (pz 2 hf fun a hf => ?_)
  refine wl_end (then_n (ib hF hf (fun hc2 hF => ?_) fun hc2 hF => ?_))
  ·refine sq ?_
   obtain ⟨c8, hGc8, hF⟩ := bs_ hF
   have fh := hf.prune [2, 4, 6] rfl
   have Hm := H.lt_ [true, false, true] [] [] [1, 2, 3]
   refine midF 35 (.bool c8) fh Hm ?_ fun a w hf H => ?_
   ·refine dw [] 12 fun w hb => ?_
    have H := H.keep hb
    refine zp 0 hf trivial fun a hf => ?_
    refine zp 1 hf trivial fun a hf => ?_
    refine zp 2 hf trivial fun a hf => ?_
    refine iteB hGc8 (fun hc3 hGc8 => ?_) fun hc3 hGc8 => ?_
    ·have hf := hf.lit 26 rfl hc3
     refine zg 3 hf trivial fun a hf => ?_
     refine strT (H.lt_ [false, false, true] [] [] []) (fun w H => trivial) fun hS => ?_
     refine tSg 4 [] rfl rfl rfl rfl rfl rfl hf (by kernel_rfl) (by kernel_rfl) hS (fun w H => rq_loadB hf H TF.ls43 0 rfl rfl rfl) fun a hf => ?_
     refine zg 5 hf hS fun a hf => ?_
     obtain ⟨e, he, hGc8⟩ := bs_ hGc8
     obtain ⟨p2, o, cs, hx, hr, H⟩ := pre_iaddr H Tryz.underlying43 TF.sz52 1 rfl he
     refine tPg 6 rfl rfl rfl rfl rfl rfl hf (by kernel_rfl) (fun _ => hS) (fun w => rq_iaddrE hf rfl rfl rfl hx w) fun a hf => ?_
     obtain ⟨A8, c9, rfl, hl8⟩ := Light_cells hr
     have H := H.pF hl8
     refine strT (H.lt_ [false, false, true] [] [] [1]) (fun w H => H.lt_ [true] [] [] []) fun hS => ?_
     refine tSg 7 [] rfl rfl rfl rfl rfl rfl hf (by kernel_rfl) (by kernel_rfl) hS (fun w H => rq_loadIN hf H TF.la52 0 0 rfl rfl rfl rfl) fun a hf => ?_
     refine zg 8 hf hS fun a hf => ?_
     refine strT (H.lt_ [false, true, true] [] [] [1]) (fun w H => H.lt_ [false, true] [] [] [0]) fun hS => ?_
     refine tSg 9 [] rfl rfl rfl rfl rfl rfl hf (by kernel_rfl) (by kernel_rfl) hS (fun w H => rq_loadBN hf H TF.la52 0 rfl rfl rfl rfl) fun a hf => ?_
     obtain ⟨y3, hy3, hGc8⟩ := bs_ hGc8
     refine n1g 10 (by kernel_rfl) rfl rfl rfl rfl hf (oC hf TF.cl119 (spec_l20Same_ok (S := TT) (Light_mkv (x := e) (H.rt 0 rfl)) (Light_mkv (x := a'.Light) (H.rt 2 rfl)) hy3) fun v5 w a hp5 hf => ?_)
     obtain ⟨hb3, hp5⟩ := hp5
     obtain rfl := VR_bool hp5
     have H := H.keep hb3
     have hS := H.lt_ [false, true, true] [] [] [1]
     refine aS hS ?_
     refine zp 11 hf hS fun a hf => ?_
     refine dk ?_
     obtain rfl := oi hGc8
     have hf := hf.pn [35, 2, 4, 6]
     have H := H.lt_ [true, false, true] [] [] [3, 4, 5]
     exact ⟨hf, H⟩
    ·have hf := hf.lit 26 rfl hc3
     refine zU 3 hf trivial fun a hf => ?_
     refine zU 4 hf trivial fun a hf => ?_
     refine zU 5 hf trivial fun a hf => ?_
     refine zU 6 hf trivial fun a hf => ?_
     refine zU 7 hf trivial fun a hf => ?_
     refine zU 8 hf trivial fun a hf => ?_
     refine zU 9 hf trivial fun a hf => ?_
     refine zU 10 hf trivial fun a hf => ?_
     refine zp 11 hf trivial fun a hf => ?_
     refine dk ?_
     obtain rfl := oi hGc8
     have hf := hf.pn [35, 2, 4, 6]
     have H := H.lt_ [true, false, true] [] [] [1, 2, 3]
     exact ⟨hf, H⟩
   refine then_n (ib hF hf (fun hc4 hF => ?_) fun hc4 hF => ?_)
   ·refine sq (reg (lN 1 hf H TF.la45 fun a hf => ?_))
    refine pz 1 hf fun a hf => ?_
    obtain ⟨y4, hy4, hF⟩ := bs_ hF
    refine oc hf TF.cl120 (spec_l9Without_ok (S := TT) (Plan_mkv (x := p) (H.rt 2 rfl) (H.rt 1 rfl) (H.rt 0 rfl)) mk_int hy4) fun v6 w a hp6 hf => ?_
    obtain ⟨hb4, hp6⟩ := hp6
    obtain ⟨A9, c10, A10, c11, A11, c12, rfl, hl9, hl10, hl11⟩ := Plan_open hp6
    replace hl9 := H.rF hl9
    replace hl10 := H.rF hl10
    replace hl11 := H.rF hl11
    have H := H.keep hb4
    have H := H.pT hl9
    have H := H.pT hl10
    have H := H.pT hl11
    refine sB 0 hf H TF.sz45 fun w H => ?_
    refine pz 1 hf fun a hf => ?_
    refine wl_end (then_n (wp_ret (blk_r (then_r (?_)))))
    obtain rfl := oi hF
    refine ret_2 hf rfl (rv_cellN hf H 0 TF.la45 rfl rfl rfl) (rv_tmp hf rfl) ?_
    have H := H.lt_ [false, false] [] [] [2, 1, 0]
    exact ⟨_, rfl, A9, c10, A10, c11, A11, c12, rfl, H⟩
   ·refine wp_skip (blk_n (then_n (sq (reg (oq hf (rq_build hf (cs := [(.slice none 0 0), (.slice none 0 0), (.slice none 0 0)]) rfl (fun w => by kernel_rfl)) fun a hf => ?_)))))
    refine sB 0 hf H TF.sz45 fun w H => ?_
    refine pz 1 hf fun a hf => ?_
    refine wer ?_
    have H := H.pushNil (ByteArray) true
    have H := H.pushNil (Fiber) true
    have H := H.pushNil (Light) true
    obtain rfl := oi hF
    refine ret_2 hf rfl (rv_cellN hf H 0 TF.la45 rfl rfl rfl) (rv_tmp hf rfl) ?_
    have H := H.lt_ [false, false] [] [] [2, 1, 0]
    exact ⟨_, rfl, none, 0, none, 0, none, 0, rfl, H⟩
  ·refine sqz (pz 2 hf fun a hf => ?_)
   have hf := hf.pn [2, 3, 4, 39]
   refine wl_end (then_n (ib hF hf (fun hc5 hF => ?_) fun hc5 hF => ?_))
   ·refine sq (reg (lN 2 hf H TF.la45 fun a hf => ?_))
    refine pz 2 hf fun a hf => ?_
    refine lB 1 hf H TF.ls3 fun a hf => ?_
    refine pz 2 hf fun a hf => ?_
    refine lN 1 hf H TF.la49 fun a hf => ?_
    refine pz 2 hf fun a hf => ?_
    refine lN 1 hf H TF.la50 fun a hf => ?_
    obtain ⟨y5, hy5, hF⟩ := bs_ hF
    refine oc hf TF.cl121 (spec_MoveLight_ok (S := TT) (Plan_mkv (x := p) (H.rt 3 rfl) (H.rt 2 rfl) (H.rt 1 rfl)) mk_int (Route_mkv (x := a'.Light.Route) (H.rt 0 rfl)) Block_mkv hy5) fun v7 w a hp7 hf => ?_
    obtain ⟨hb5, v8, v9, rfl, hp8, hp9⟩ := hp7
    obtain ⟨A12, c13, A13, c14, A14, c15, rfl, hl12, hl13, hl14⟩ := Plan_open hp8
    replace hl12 := H.rF hl12
    replace hl13 := H.rF hl13
    replace hl14 := H.rF hl14
    obtain rfl := VR_bool hp9
    have H := H.keep hb5
    have H := H.pT hl12
    have H := H.pT hl13
    have H := H.pT hl14
    refine pz 2 hf fun a hf => ?_
    refine sB 0 hf H TF.sz45 fun w H => ?_
    refine pz 1 hf fun a hf => ?_
    have hf := hf.pn [4, 5]
    refine wl_end (then_n (wp_ret (blk_r (then_r (?_)))))
    obtain rfl := oi hF
    refine ret_2 hf rfl (rv_cellN hf H 0 TF.la45 rfl rfl rfl) (rv_tmp hf rfl) ?_
    have H := H.lt_ [false, false, false] [] [] [2, 1, 0]
    exact ⟨_, rfl, A12, c13, A13, c14, A14, c15, rfl, H⟩
   ·refine wp_skip (blk_n (then_n (sq (reg (oq hf (rq_build hf (cs := [(.slice none 0 0), (.slice none 0 0), (.slice none 0 0)]) rfl (fun w => by kernel_rfl)) fun a hf => ?_)))))
    refine sB 0 hf H TF.sz45 fun w H => ?_
    refine pz 1 hf fun a hf => ?_
    refine wer ?_
    have H := H.pushNil (ByteArray) true
    have H := H.pushNil (Fiber) true
    have H := H.pushNil (Light) true
    obtain rfl := oi hF
    refine ret_2 hf rfl (rv_cellN hf H 0 TF.la45 rfl rfl rfl) (rv_tmp hf rfl) ?_
    have H := H.lt_ [false, false, false] [] [] [2, 1, 0]
    exact ⟨_, rfl, none, 0, none, 0, none, 0, rfl, H⟩
theorem spec_l1Cur_actions_ok {S : Nat → Prop} {b0 : Nat} {cs0 : List Value} {v1_ : Value} {c : L1CurP} {p : Plan} {r : List Action × L1CurP} (hp0 : w0.heap[b0]? = some (.cells cs0.toArray 160 (0, 0))) (hr0 : GoTy.rep w0 S cs0 c) (hS0 : ¬ S b0) (h1 : VR w0 S v1_ p) (hF : spec_l1Cur_actions fu c p = some r) :
    Calls Tryz.prog 148 [(.pointer (some ⟨b0, 0, none⟩)), v1_].toArray w0 fun e w' => ∃ v, e = .returned v ∧ (Chg w0 w' [b0] ∧ ∃ cs', w'.heap[b0]? = some (.cells cs'.toArray 160 (0, 0)) ∧ GoTy.rep w' (St ⟨w0, [b0]⟩ S [⟨b0, 160, cs'⟩] [] [] false) cs' r.2 ∧ (cs'[0]? = cs0[0]? ∧ r.2.code = c.code) ∧ ∃ F0, VO w' F0 v r.1 ∧ New w0 w' F0) := by
 obtain ⟨A, c2, rfl, hl⟩ := L1CurP_cells hr0
 obtain ⟨A2, c3, A3, c4, A4, c5, rfl, hl2, hl3, hl4⟩ := Plan_open h1
 have H := Mem.startB S hp0
 have H := H.pB hS0 hl
 have H := H.pB hS0 hl2
 have H := H.pB hS0 hl3
 have H := H.pB hS0 hl4
 refine en Tryz.func148 fun a hf => ?_
 rw [spec_l1Cur_actions] at hF
 refine bx hf H fun b' a w hf H => ?_
 refine pz 1 hf fun a hf => ?_
 refine wr (wl0 rfl (op_bslice hf H (.ow []) rfl 54 ([] : List Action) [] rfl (fun w => by kernel_rfl) rfl (by decide) rfl rfl (fun i x h => by simp at h) (by decide) fun A5 a w hf H => ?_))
 refine pz 1 hf fun a hf => ?_
 refine wr (lN 0 hf H TF.la45 fun a hf => ?_)
 obtain ⟨y, hy, hF⟩ := bs_ hF
 refine oc hf TF.cl61 (spec_l9Good_ok (S := TT) (Plan_mkv (x := p) (H.rt 2 rfl) (H.rt 1 rfl) (H.rt 0 rfl)) hy) fun v w a hp hf => ?_
 obtain ⟨hb, hp⟩ := hp
 obtain rfl := VR_bool hp
 have H := H.keep hb
 refine pz 1 hf fun a hf => ?_
 refine we (sqz (pz 1 hf fun a hf => ?_))
 obtain ⟨y2, hy2, hF⟩ := bs_ hF
 refine oc hf TF.cl178 (spec_l1Cur_pick_ok (S := NB b0) (H.boxAt 1 rfl) ((L1CurP_mk (x := c) (H.nb 1 rfl (H.get 3 rfl)))) (fun h => h rfl) mk_int hy2) fun v2 w a hp2 hf => ?_
 obtain ⟨hch, cs, hbx, hr, ⟨hx, hx2⟩, hs⟩ := hp2
 obtain rfl := VR_int hs
 obtain ⟨A6, c6, rfl, hl5⟩ := L1CurP_cells hr
 obtain ⟨rfl, rfl⟩ := fx_slice hx rfl rfl
 have H := H.wroteBox 1 rfl hch hbx
 have H := H.pX 3 rfl hx2
 refine pz 1 hf fun a hf => ?_
 refine wl_end (then_n ?_)
 obtain ⟨out', hB1, hF⟩ := bs_ hF
 have hf := hf.pn [0, 3, 5, 6, 7]
 have H := H.lt_ [true, true] [true] [] [0, 1, 2, 3]
 refine loopC (fun (s : List Action × Int × List ByteArray × List Fiber × List Light × List By × Int × U64) (a : Act) (w : World) => match s with | (l, n', m, m2, m3, m4, m5, m6) => ∃ (A7 : Option Addr) (c7 : Nat) (E : Go.TypeId) (Fs : List (List Nat)) (A8 : Option Addr) (c8 : Nat) (A9 : Option Addr) (c9 : Nat) (A10 : Option Addr) (c10 : Nat), m4 = c.code ∧ Fr a 66 [(0, (.pointer (some ⟨b0, 0, none⟩))), (3, (.pointer (some ⟨b', 0, none⟩))), (5, (.slice A7 l.length c7)), (6, (.bool y)), (7, (.int .i64 n'))] ∧ Mem ⟨w0, [b0]⟩ S [⟨b', 45, [(.slice A8 m.length c8), (.slice A9 m2.length c9), (.slice A10 m3.length c10)]⟩, ⟨b0, 160, [(.slice A m4.length c2), (.int .i64 m5), (.int .u64 m6.n)]⟩] [⟨.ow Fs, E, A7, c7, (l : List Action)⟩] [] [(false, MP.val [(.slice A m4.length c2)] (m4 : List By)), (false, MP.val [(.slice A10 m3.length c10)] (m3 : List Light)), (false, MP.val [(.slice A9 m2.length c9)] (m2 : List Fiber)), (false, MP.val [(.slice A8 m.length c8)] (m : List ByteArray))] w) (fun k (s : List Action × Int × List ByteArray × List Fiber × List Light × List By × Int × U64) => spec_l1Cur_actions_L1 fu y k s.1 s.2.1 s.2.2.1 s.2.2.2.1 s.2.2.2.2.1 s.2.2.2.2.2.1 s.2.2.2.2.2.2.1 s.2.2.2.2.2.2.2 = some out') (fun s => out' = s) (([] : List Action), y2.1, p.Network.Nodes, p.Network.Fibers, p.Lights, y2.2.code, y2.2.at_, y2.2.seed) fu hB1 ⟨A5, 0, 54, [], A2, c3, A3, c4, A4, c5, hx2, hf, H⟩ (fun s h => by cases h) ?_ ?_
 ·rintro fk ⟨l, n', m, m2, m3, m4, m5, m6⟩ a w hR1 hI
  replace hR1 : spec_l1Cur_actions_L1 fu y (fk + 1) l n' m m2 m3 m4 m5 m6 = some out' := hR1
  rw [spec_l1Cur_actions_L1] at hR1
  obtain ⟨A7, c7, E, Fs, A8, c8, A9, c9, A10, c10, hsm, hf, H⟩ := hI
  refine sq (sqz (pz 2 hf fun a hf => ?_))
  refine wl_end (then_n (ib hR1 hf (fun hc hR1 => ?_) fun hc hR1 => ?_))
  ·refine ws (pz 1 hf fun a hf => ?_)
   refine lN 0 hf H TF.la45 fun a hf => ?_
   obtain ⟨y3, hy3, hR1⟩ := bs_ hR1
   refine oc hf TF.cl146 (spec_l1Cur_action_ok (S := NB b0) (H.boxAt 1 rfl) ((L1CurP_mk (x := ({ code := m4, at_ := m5, seed := m6 } : L1CurP)) (H.nb 1 rfl (H.get 0 rfl)))) (fun h => h rfl) (Plan_mkv (x := ({ Network := ({ Nodes := m, Fibers := m2 } : Network), Lights := m3 } : Plan)) (H.nb 1 rfl (H.get 3 rfl)) (H.nb 1 rfl (H.get 2 rfl)) (H.nb 1 rfl (H.get 1 rfl))) hy3) fun v3 w a hp3 hf => ?_
   obtain ⟨hch2, cs2, hbx2, hr2, ⟨hx3, hx4⟩, hs2⟩ := hp3
   obtain ⟨F, hp4, hN⟩ := hs2
   obtain ⟨A11, c11, F2, rfl, rfl, hl6⟩ := Action_vo hp4
   obtain ⟨A12, c12, rfl, hl7⟩ := L1CurP_cells hr2
   obtain ⟨rfl, rfl⟩ := fx_slice hx3 rfl rfl
   have hx5 := hx4.trans hsm
   have H := H.bO1 1 rfl hch2 hbx2 hN hl6
   have H := H.pX 0 rfl hx4
   have H := H.lend 0 rfl
   refine aL hf H TF.zv54 fun b2 a w hf H => ?_
   refine sB 0 hf H TF.sz54 fun w H => ?_
   refine wr (lN 1 hf H TF.la45 fun a hf => ?_)
   refine lN 0 hf H TF.la54 fun a hf => ?_
   obtain ⟨y4, hy4, hR1⟩ := bs_ hR1
   refine oc hf TF.cl62 (spec_l20Apply_mm (S := TT) (Plan_mkv (x := ({ Network := ({ Nodes := m, Fibers := m2 } : Network), Lights := m3 } : Plan)) (H.rt 5 rfl) (H.rt 4 rfl) (H.rt 3 rfl)) (Action_mkv (x := y3.1) (H.rt 0 rfl)) hy4) fun v4 w a hp5 hf => ?_
   obtain ⟨A13, c13, A14, c14, A15, c15, rfl, Hc⟩ := hp5
   have H := H.comp Hc (.inl rfl)
   refine pz 3 hf fun a hf => ?_
   refine aL hf H TF.zv45 fun b3 a w hf H => ?_
   refine sB 0 hf H TF.sz45 fun w H => ?_
   refine pz 1 hf fun a hf => ?_
   refine wl_end (then_n (sq ?_))
   obtain ⟨c16, hGc16, hR1⟩ := bs_ hR1
   have fh := hf.prune [0, 3, 5, 6, 7, 8, 9] rfl
   have Hm := H.lt_ [true, true, true, true] [true] [true] [0, 1, 2, 3, 4, 6, 7, 8]
   refine midF 32 (.bool c16) fh Hm ?_ fun a w hf H => ?_
   ·refine reg (pz 2 hf fun a hf => ?_)
    refine iteB hGc16 (fun hc2 hGc16 => ?_) fun hc2 hGc16 => ?_
    ·have hf := hf.lit 30 rfl hc2
     refine pz 2 hf fun a hf => ?_
     obtain rfl := oi hGc16
     have hf := hf.pn [32, 0, 3, 5, 6, 7, 8, 9]
     have H := H.lt_ [true, true, true, true] [true] [true] [0, 1, 2, 3, 4, 6, 7, 8]
     exact wl_end ⟨hf, H⟩
    ·have hf := hf.lit 30 rfl hc2
     refine pz 2 hf fun a hf => ?_
     obtain rfl := oi hGc16
     have hf := hf.pn [32, 0, 3, 5, 6, 7, 8, 9]
     have H := H.lt_ [true, true, true, true] [true] [true] [0, 1, 2, 3, 4, 6, 7, 8]
     exact wl_end ⟨hf, H⟩
   refine then_n (ib hR1 hf (fun hc3 hR1 => ?_) fun hc3 hR1 => ?_)
   ·refine sq (reg (lN 0 hf H TF.la45 fun a hf => ?_))
    refine sB 2 hf H TF.sz45 fun w H => ?_
    refine wl_end (then_n (reg (pz 1 hf fun a hf => ?_)))
    refine lN 1 hf H TF.la54 fun a hf => ?_
    have H := H.recast (X := [(⟨F2, MP.own F2 [(.slice A11 y3.1.Light.Route.Fibers.length c11)] (y3.1.Light.Route.Fibers : List Int)⟩ : DI)]) (Y := [(⟨F2, MP.own F2 [(.int .i64 y3.1.Kind), (.int .i64 y3.1.Light.Id), (.int .i64 y3.1.Light.Route.Start), (.slice A11 y3.1.Light.Route.Fibers.length c11), (.int .i64 y3.1.Light.Block.First), (.int .i64 y3.1.Light.Block.Count)] (y3.1 : Action)⟩ : DI)]) (List.Perm.of_eq (by simp)) fun _ => ps1 (Action_ownmk (x := y3.1) (H.ownAt 0 rfl)) ps0
    refine wl0 rfl (op_bsliceO hf 54 H rfl (fun w => by kernel_rfl) (by decide) fun A16 a w hf H => ?_)
    obtain ⟨l2, hl2, hR1⟩ := bs_ hR1
    have H := H.frontR 1 rfl
    refine wl0 rfl (op_appO hf H Tryz.underlying67 TF.ai54 rfl (by decide) rfl rfl hl2 (by decide) fun E2 A17 c17 a w hf H => ?_)
    refine pz 1 hf fun a hf => ?_
    refine wl_end (blk_n (then_n (reg (pz 3 hf fun a hf => ?_))))
    refine wl_end ?_
    have H := H.copyI 0 rfl (.inl rfl)
    have H := H.copyI 2 rfl (.inl rfl)
    have H := H.copyI 4 rfl (.inl rfl)
    have hf := hf.pn [0, 3, 5, 6, 7]
    have H := H.lt_ [false, false, true, true] [true] [] [7, 0, 1, 2]
    exact then_n ⟨(l2, w64 (n' - 1), y4.1.Network.Nodes, y4.1.Network.Fibers, y4.1.Lights, y3.2.code, y3.2.at_, y3.2.seed), hR1, A17, c17, E2, Fs ++ [F2], A13, c13, A14, c14, A15, c15, hx5, hf, H⟩
   ·refine sqz (pz 1 hf fun a hf => ?_)
    obtain ⟨y5, hy5, hR1⟩ := bs_ hR1
    refine oc hf TF.cl183 (spec_l1Cur_one_ok (S := NB b0) (H.boxAt 3 rfl) ((L1CurP_mk (x := y3.2) (H.nb 3 rfl (H.get 4 rfl)))) (fun h => h rfl) mk_int hy5) fun v5 w a hp6 hf => ?_
    obtain ⟨hch3, cs3, hbx3, hr3, ⟨hx6, hx7⟩, hs3⟩ := hp6
    obtain rfl := VR_bool hs3
    obtain ⟨A18, c18, rfl, hl8⟩ := L1CurP_cells hr3
    obtain ⟨rfl, rfl⟩ := fx_slice hx6 rfl rfl
    have hx8 := hx7.trans hx5
    have H := H.wroteBox 3 rfl hch3 hbx3
    have H := H.pX 4 rfl hx7
    refine wl_end (then_n (ib hR1 hf (fun hc4 hR1 => ?_) fun hc4 hR1 => ?_))
    ·refine reg (pz 1 hf fun a hf => ?_)
     refine lN 1 hf H TF.la54 fun a hf => ?_
     have H := H.recast (X := [(⟨F2, MP.own F2 [(.slice A11 y3.1.Light.Route.Fibers.length c11)] (y3.1.Light.Route.Fibers : List Int)⟩ : DI)]) (Y := [(⟨F2, MP.own F2 [(.int .i64 y3.1.Kind), (.int .i64 y3.1.Light.Id), (.int .i64 y3.1.Light.Route.Start), (.slice A11 y3.1.Light.Route.Fibers.length c11), (.int .i64 y3.1.Light.Block.First), (.int .i64 y3.1.Light.Block.Count)] (y3.1 : Action)⟩ : DI)]) (List.Perm.of_eq (by simp)) fun _ => ps1 (Action_ownmk (x := y3.1) (H.ownAt 0 rfl)) ps0
     refine wl0 rfl (op_bsliceO hf 54 H rfl (fun w => by kernel_rfl) (by decide) fun A19 a w hf H => ?_)
     obtain ⟨l3, hl3, hR1⟩ := bs_ hR1
     have H := H.frontR 1 rfl
     refine wl0 rfl (op_appO hf H Tryz.underlying67 TF.ai54 rfl (by decide) rfl rfl hl3 (by decide) fun E3 A20 c19 a w hf H => ?_)
     refine pz 1 hf fun a hf => ?_
     refine wl_end (blk_n (then_n (reg (pz 3 hf fun a hf => ?_))))
     refine wl_end ?_
     have hf := hf.pn [0, 3, 5, 6, 7]
     have H := H.lt_ [false, false, true, true] [true] [] [0, 6, 7, 8]
     exact then_n ⟨(l3, w64 (n' - 1), m, m2, m3, y5.2.code, y5.2.at_, y5.2.seed), hR1, A20, c19, E3, Fs ++ [F2], A8, c8, A9, c9, A10, c10, hx8, hf, H⟩
    ·refine wp_skip (blk_n (then_n (reg (pz 3 hf fun a hf => ?_))))
     refine wl_end ?_
     have hf := hf.pn [0, 3, 5, 6, 7]
     have H := H.lt_ [false, false, true, true] [true] [false] [0, 6, 7, 8]
     exact then_n ⟨(l, w64 (n' - 1), m, m2, m3, y5.2.code, y5.2.at_, y5.2.seed), hR1, A7, c7, E, Fs, A8, c8, A9, c9, A10, c10, hx8, hf, H⟩
  ·refine wp_exit (then_x (then_x (blk_e (?_))))
   have hf := hf.pn [0, 3, 5, 6, 7]
   have H := H.lt_ [true, true] [true] [] [0, 1, 2, 3]
   exact ⟨(l, n', m, m2, m3, m4, m5, m6), (Option.some.inj hR1).symm, A7, c7, E, Fs, A8, c8, A9, c9, A10, c10, hsm, hf, H⟩
 rintro a w ⟨⟨l4, n2, m7, m8, m9, m10, m11, m12⟩, rfl, A21, c20, E4, Fs2, A22, c21, A23, c22, A24, c23, hsm, hf, H⟩
 try dsimp only at hsm
 try dsimp only at hF
 refine then_n (sq (sqz (pz 1 hf fun a hf => ?_)))
 obtain ⟨y6, hy6, hF⟩ := bs_ hF
 refine oc hf TF.cl183 (spec_l1Cur_one_ok (S := NB b0) (H.boxAt 1 rfl) ((L1CurP_mk (x := ({ code := m10, at_ := m11, seed := m12 } : L1CurP)) (H.nb 1 rfl (H.get 0 rfl)))) (fun h => h rfl) mk_int hy6) fun v6 w a hp7 hf => ?_
 obtain ⟨hch4, cs4, hbx4, hr4, ⟨hx9, hx10⟩, hs4⟩ := hp7
 obtain rfl := VR_bool hs4
 obtain ⟨A25, c24, rfl, hl9⟩ := L1CurP_cells hr4
 obtain ⟨rfl, rfl⟩ := fx_slice hx9 rfl rfl
 have hx11 := hx10.trans hsm
 have H := H.wroteBox 1 rfl hch4 hbx4
 have H := H.pX 0 rfl hx10
 refine wl_end (then_n (ib hF hf (fun hc5 hF => ?_) fun hc5 hF => ?_))
 ·obtain ⟨out2, hB1, hF⟩ := bs_ hF
  have hf := hf.pn [0, 5]
  have H := H.lt_ [false, true] [true] [] [0]
  refine loopC (fun (s : List Action × List By × Int × U64) (a : Act) (w : World) => match s with | (l5, m13, m14, m15) => ∃ (A26 : Option Addr) (c25 : Nat) (E5 : Go.TypeId) (Fs3 : List (List Nat)), m13 = c.code ∧ Fr a 66 [(0, (.pointer (some ⟨b0, 0, none⟩))), (5, (.slice A26 l5.length c25))] ∧ Mem ⟨w0, [b0]⟩ S [⟨b0, 160, [(.slice A m13.length c2), (.int .i64 m14), (.int .u64 m15.n)]⟩] [⟨.ow Fs3, E5, A26, c25, (l5 : List Action)⟩] [] [(false, MP.val [(.slice A m13.length c2)] (m13 : List By))] w) (fun k (s : List Action × List By × Int × U64) => spec_l1Cur_actions_L2 fu k s.1 s.2.1 s.2.2.1 s.2.2.2 = some out2) (fun s => out2 = s) (l4, y6.2.code, y6.2.at_, y6.2.seed) fu hB1 ⟨A21, c20, E4, Fs2, hx11, hf, H⟩ (fun s h => by cases h) ?_ ?_
  ·rintro fk ⟨l5, m13, m14, m15⟩ a w hR1 hI
   replace hR1 : spec_l1Cur_actions_L2 fu (fk + 1) l5 m13 m14 m15 = some out2 := hR1
   rw [spec_l1Cur_actions_L2] at hR1
   obtain ⟨A26, c25, E5, Fs3, hsm2, hf, H⟩ := hI
   refine sq (sqz (pz 3 hf fun a hf => ?_))
   obtain ⟨y7, hy7, hR1⟩ := bs_ hR1
   refine oc hf TF.cl178 (spec_l1Cur_pick_ok (S := NB b0) (H.boxAt 0 rfl) ((L1CurP_mk (x := ({ code := m13, at_ := m14, seed := m15 } : L1CurP)) (H.nb 0 rfl (H.get 0 rfl)))) (fun h => h rfl) mk_int hy7) fun v7 w a hp8 hf => ?_
   obtain ⟨hch5, cs5, hbx5, hr5, ⟨hx12, hx13⟩, hs5⟩ := hp8
   obtain rfl := VR_int hs5
   obtain ⟨A27, c26, rfl, hl10⟩ := L1CurP_cells hr5
   obtain ⟨rfl, rfl⟩ := fx_slice hx12 rfl rfl
   have hx14 := hx13.trans hsm2
   have H := H.wroteBox 0 rfl hch5 hbx5
   have H := H.pX 0 rfl hx13
   refine pz 2 hf fun a hf => ?_
   refine wl_end (then_n (ib hR1 hf (fun hc6 hR1 => ?_) fun hc6 hR1 => ?_))
   ·refine wp_skip (then_n (wp_block (reg (pz 6 hf fun a hf => ?_))))
    obtain ⟨y8, hy8, hR1⟩ := bs_ hR1
    refine oc hf TF.cl186 (spec_l1Cur_linked_ok (S := NB b0) (H.boxAt 0 rfl) ((L1CurP_mk (x := y7.2) (H.nb 0 rfl (H.get 0 rfl)))) (fun h => h rfl) hy8) fun v8 w a hp9 hf => ?_
    obtain ⟨hch6, cs6, hbx6, hr6, ⟨hx15, hx16⟩, hs6⟩ := hp9
    obtain ⟨F3, hp10, hN2⟩ := hs6
    obtain ⟨A28, c27, F4, A29, c28, F5, rfl, rfl, hl11, hl12⟩ := Network_vo hp10
    obtain ⟨A30, c29, rfl, hl13⟩ := L1CurP_cells hr6
    obtain ⟨rfl, rfl⟩ := fx_slice hx15 rfl rfl
    have hx17 := hx16.trans hx14
    have H := H.bO2 0 rfl hch6 hbx6 hN2 hl11 hl12
    have H := H.pX 0 rfl hx16
    have H := H.lend 0 rfl
    have H := H.lend 1 rfl
    obtain ⟨y9, hy9, hR1⟩ := bs_ hR1
    refine oc hf TF.cl185 (spec_l1Cur_routed_ok (S := NB b0) (H.boxAt 0 rfl) ((L1CurP_mk (x := y8.2) (H.nb 0 rfl (H.get 2 rfl)))) (fun h => h rfl) (Network_mkv (x := y8.1) (H.nb 0 rfl (H.get 1 rfl)) (H.nb 0 rfl (H.get 0 rfl))) hy9) fun v9 w a hp11 hf => ?_
    obtain ⟨hch7, cs7, hbx7, hr7, ⟨hx18, hx19⟩, hs7⟩ := hp11
    obtain ⟨F6, hp12, hN3⟩ := hs7
    obtain ⟨A31, c30, F7, rfl, rfl, hl14⟩ := Route_vo hp12
    obtain ⟨A32, c31, rfl, hl15⟩ := L1CurP_cells hr7
    obtain ⟨rfl, rfl⟩ := fx_slice hx18 rfl rfl
    have hx20 := hx19.trans hx17
    have H := H.bO1 0 rfl hch7 hbx7 hN3 hl14
    have H := H.pX 2 rfl hx19
    have H := H.lend 0 rfl
    refine oq hf (rq_build hf (cs := [(.int .i64 23), (.int .i64 1)]) rfl (fun w => by kernel_rfl)) fun a hf => ?_
    refine oq hf (rq_build hf (cs := [(.int .i64 (w64 (900 + (l5.length : Int)))), (.int .i64 y9.1.Start), (.slice A31 y9.1.Fibers.length c30), (.int .i64 23), (.int .i64 1)]) rfl (fun w => by kernel_rfl)) fun a hf => ?_
    refine oq hf (rq_build hf (cs := [(.int .i64 1), (.int .i64 (w64 (900 + (l5.length : Int)))), (.int .i64 y9.1.Start), (.slice A31 y9.1.Fibers.length c30), (.int .i64 23), (.int .i64 1)]) rfl (fun w => by kernel_rfl)) fun a hf => ?_
    have H := H.recast (X := [(⟨F7, MP.own F7 [(.slice A31 y9.1.Fibers.length c30)] (y9.1.Fibers : List Int)⟩ : DI)]) (Y := [(⟨F7, MP.own F7 [(.int .i64 1), (.int .i64 (w64 (900 + (l5.length : Int)))), (.int .i64 y9.1.Start), (.slice A31 y9.1.Fibers.length c30), (.int .i64 23), (.int .i64 1)] (({ Kind := 1, Light := ({ Id := w64 (900 + (l5.length : Int)), Route := y9.1, Block := ({ First := 23, Count := 1 } : Block) } : Light) } : Action) : Action)⟩ : DI)]) (List.Perm.of_eq (by simp)) fun _ => ps1 (Action_ownmk (x := ({ Kind := 1, Light := ({ Id := w64 (900 + (l5.length : Int)), Route := y9.1, Block := ({ First := 23, Count := 1 } : Block) } : Light) } : Action)) (H.ownAt 0 rfl)) ps0
    refine wl0 rfl (op_bsliceO hf 54 H rfl (fun w => by kernel_rfl) (by decide) fun A33 a w hf H => ?_)
    obtain ⟨l6, hl6, hR1⟩ := bs_ hR1
    have H := H.frontR 1 rfl
    refine wl0 rfl (op_appO hf H Tryz.underlying67 TF.ai54 rfl (by decide) rfl rfl hl6 (by decide) fun E6 A34 c32 a w hf H => ?_)
    refine pz 1 hf fun a hf => ?_
    have hf := hf.pn [0, 5]
    refine wl_end (blk_n ?_)
    have hf := hf.pn [0, 5]
    have H := H.lt_ [true] [true] [false, false] [1]
    exact then_n ⟨(l6, y9.2.code, y9.2.at_, y9.2.seed), hR1, A34, c32, E6, Fs3 ++ [F7], hx20, hf, H⟩
   ·refine wp_exit (then_x (then_x (blk_e (?_))))
    have hf := hf.pn [0, 5]
    have H := H.lt_ [true] [true] [] [0]
    exact ⟨(l5, y7.2.code, y7.2.at_, y7.2.seed), (Option.some.inj hR1).symm, A26, c25, E5, Fs3, hx14, hf, H⟩
  rintro a w ⟨⟨l7, m16, m17, m18⟩, rfl, A35, c33, E7, Fs4, hsm2, hf, H⟩
  try dsimp only at hsm2
  try dsimp only at hF
  refine then_n (sqz (pz 2 hf fun a hf => ?_))
  refine wer ?_
  obtain ⟨F8, H⟩ := H.freezeOwn 0 rfl
  have H := H.lend 0 rfl
  obtain rfl := oi hF
  refine rT hf ?_
  have hN := H.endsB1 0 rfl
  exact ⟨_, rfl, H.chg, _, H.boxAt 0 rfl, (L1CurP_mk (x := ({ code := m16, at_ := m17, seed := m18 } : L1CurP)) (eB 0 (H.get 1 rfl))), ⟨fxc hsm2, hsm2⟩, F8, (mko_list (H.ownAt 0 rfl)), hN⟩
 ·refine wp_skip (then_n (sqz (pz 2 hf fun a hf => ?_)))
  refine wer ?_
  obtain ⟨F9, H⟩ := H.freezeOwn 0 rfl
  have H := H.lend 0 rfl
  obtain rfl := oi hF
  refine rT hf ?_
  have hN := H.endsB1 1 rfl
  exact ⟨_, rfl, H.chg, _, H.boxAt 1 rfl, (L1CurP_mk (x := y6.2) (eB 1 (H.get 1 rfl))), ⟨fxc hx11, hx11⟩, F9, (mko_list (H.ownAt 0 rfl)), hN⟩
theorem spec_DrawApplyActions_ok {S : Nat → Prop} {v0_ : Value} {code : List By} {r : Plan × List Action} (h0 : VR w0 S v0_ code) (hF : spec_DrawApplyActions fu code = some r) :
    Calls Tryz.prog 98 [v0_].toArray w0 fun e w' => ∃ v, e = .returned v ∧ (∃ (A0_0 : Option Addr) (c0_0 : Nat) (F0_0 : List Nat) (A0_1 : Option Addr) (c0_1 : Nat) (F0_1 : List Nat) (A0_2 : Option Addr) (c0_2 : Nat) (A1_0 : Option Addr) (c1_0 : Nat) (F1_0 : List Nat), v = .tuple #[(.agg #[(.slice A0_0 r.1.Network.Nodes.length c0_0), (.slice A0_1 r.1.Network.Fibers.length c0_1), (.slice A0_2 r.1.Lights.length c0_2)]), (.slice A1_0 r.2.length c1_0)] ∧ Mem ⟨w0, []⟩ S [] [] [⟨F0_0, MP.own F0_0 [(.slice A0_0 r.1.Network.Nodes.length c0_0)] (r.1.Network.Nodes : List ByteArray)⟩, ⟨F0_1, MP.own F0_1 [(.slice A0_1 r.1.Network.Fibers.length c0_1)] (r.1.Network.Fibers : List Fiber)⟩, ⟨F1_0, MP.own F1_0 [(.slice A1_0 r.2.length c1_0)] (r.2 : List Action)⟩] [(true, MP.val [(.slice A0_2 r.1.Lights.length c0_2)] (r.1.Lights : List Light))] w') := by
 obtain ⟨A, c, rfl, hl⟩ := VR_list h0
 have H := Mem.start ⟨w0, []⟩ S
 have H := H.pA hl
 refine en Tryz.func98 fun a hf => ?_
 rw [spec_DrawApplyActions] at hF
 refine sq (reg (aL hf H TF.zv45 fun b' a w hf H => ?_))
 refine pz 1 hf fun a hf => ?_
 refine wr (pz 1 hf fun a hf => ?_)
 refine oq hf (rq_build hf (cs := [(.slice A code.length c), (.int .i64 0), (.int .u64 0)]) rfl (fun w => by kernel_rfl)) fun a hf => ?_
 refine wl0 rfl (op_box hf H rfl rfl (by decide) fun b2 a w hf H => ?_)
 refine pz 1 hf fun a hf => ?_
 refine wr (pz 1 hf fun a hf => ?_)
 obtain ⟨y, hy, hF⟩ := bs_ hF
 refine oc hf TF.cl145 (spec_l1Cur_anyPlan_ok (S := NB b2) (H.boxAt 0 rfl) ((L1CurP_mk (x := ({ code := code, at_ := 0, seed := (⟨0⟩ : U64) } : L1CurP)) (H.nb 0 rfl (H.get 0 rfl)))) (fun h => h rfl) hy) fun v w a hp hf => ?_
 obtain ⟨cs, hr, ⟨hx, hx2⟩, A2, c2, F, A3, c3, F2, A4, c4, E, rfl, Hc⟩ := hp
 obtain ⟨A5, c5, rfl, hl2⟩ := L1CurP_cells hr
 obtain ⟨rfl, rfl⟩ := fx_slice hx rfl rfl
 have H := H.compB 0 rfl Hc (.inl rfl)
 have H := H.pX 0 rfl hx2
 have H := H.lend 0 rfl
 have H := H.lend 1 rfl
 refine aL hf H TF.zv45 fun b3 a w hf H => ?_
 refine sB 0 hf H TF.sz45 fun w H => ?_
 refine wl_end (then_n (sq (dw [4] 6 fun w hb => ?_)))
 have H := H.keep hb
 refine strT (H.lt_ [true, false, false] [false] [false, false] []) (fun w H => trivial) fun hS => ?_
 refine zS 0 [0, 4, 5] rfl rfl rfl rfl hf hS (fun w H => rq_loadBN hf H TF.la45 0 rfl rfl rfl rfl) fun a hf => ?_
 refine zp 1 hf hS fun a hf => ?_
 refine zS 2 [2, 3, 4, 5] rfl rfl rfl rfl hf hS (fun w H => rq_loadBN hf H TF.la45 0 rfl rfl rfl rfl) fun a hf => ?_
 have H := H.freeze 0 rfl
 obtain ⟨y2, hy2, hF⟩ := bs_ hF
 refine nn 3 rfl (oC hf TF.cl148 (spec_l1Cur_actions_ok (S := NB b2) (H.boxAt 1 rfl) ((L1CurP_mk (x := y.2) (H.nb 1 rfl (H.get 3 rfl)))) (fun h => h rfl) (Plan_mkv (x := y.1) (H.nb 1 rfl (H.get 2 rfl)) (H.nb 1 rfl (H.get 1 rfl)) (H.nb 1 rfl (H.get 0 rfl))) hy2) fun v2 w a hp2 hf => ?_)
 obtain ⟨hch, cs2, hbx, hr2, ⟨hx3, hx4⟩, hs⟩ := hp2
 obtain ⟨F3, hp3, hN⟩ := hs
 obtain ⟨A6, c6, rfl, hl3⟩ := VO_list hp3
 obtain ⟨A7, c7, rfl, hl4⟩ := L1CurP_cells hr2
 obtain ⟨rfl, rfl⟩ := fx_slice hx3 rfl rfl
 have hx5 := hx4.trans hx2
 have H := H.bO1 1 rfl hch hbx hN hl3
 have H := H.pX 3 rfl hx4
 have H := H.lend 0 rfl
 have hS := H.lt_ [true, false, false] [] [false, false, false] []
 refine aS hS ?_
 refine nn 4 rfl (op_storeB hf H 2 TF.sz45 rfl rfl rfl rfl rfl rfl (nle rfl) fun w H => ?_)
 refine ⟨fun h => absurd h (by decide), ?_⟩
 refine tp 5 rfl rfl hf (by kernel_rfl) (fun h => absurd h (by decide)) rfl fun a hf => ?_
 refine dk ?_
 refine then_n (wp_ret (?_))
 have H := H.frontD 2 rfl
 have H := H.frontD 2 rfl
 obtain rfl := oi hF
 refine ret_2 hf rfl (rv_cellN hf H 2 TF.la45 rfl rfl rfl) (rv_tmp hf rfl) ?_
 have H := H.lt_ [false, false, false] [] [true, true, true] [2]
 exact ⟨_, rfl, A2, c2, F, A3, c3, F2, A4, c4, A6, c6, F3, rfl, H⟩
theorem spec_DrawStartChange_ok {S : Nat → Prop} {v0_ : Value} {code : List By} {r : Plan × List Action} (h0 : VR w0 S v0_ code) (hF : spec_DrawStartChange fu code = some r) :
    Calls Tryz.prog 46 [v0_].toArray w0 fun e w' => ∃ v, e = .returned v ∧ (∃ (A0_0 : Option Addr) (c0_0 : Nat) (F0_0 : List Nat) (A0_1 : Option Addr) (c0_1 : Nat) (F0_1 : List Nat) (A0_2 : Option Addr) (c0_2 : Nat) (A1_0 : Option Addr) (c1_0 : Nat) (F1_0 : List Nat), v = .tuple #[(.agg #[(.slice A0_0 r.1.Network.Nodes.length c0_0), (.slice A0_1 r.1.Network.Fibers.length c0_1), (.slice A0_2 r.1.Lights.length c0_2)]), (.slice A1_0 r.2.length c1_0)] ∧ Mem ⟨w0, []⟩ S [] [] [⟨F0_0, MP.own F0_0 [(.slice A0_0 r.1.Network.Nodes.length c0_0)] (r.1.Network.Nodes : List ByteArray)⟩, ⟨F0_1, MP.own F0_1 [(.slice A0_1 r.1.Network.Fibers.length c0_1)] (r.1.Network.Fibers : List Fiber)⟩, ⟨F1_0, MP.own F1_0 [(.slice A1_0 r.2.length c1_0)] (r.2 : List Action)⟩] [(true, MP.val [(.slice A0_2 r.1.Lights.length c0_2)] (r.1.Lights : List Light))] w') := by
 obtain ⟨A, c, rfl, hl⟩ := VR_list h0
 have H := Mem.start ⟨w0, []⟩ S
 have H := H.pA hl
 refine en Tryz.func46 fun a hf => ?_
 rw [spec_DrawStartChange] at hF
 refine sq (reg (aL hf H TF.zv45 fun b' a w hf H => ?_))
 refine pz 1 hf fun a hf => ?_
 refine wr (pz 1 hf fun a hf => ?_)
 obtain ⟨y, hy, hF⟩ := bs_ hF
 refine oc hf TF.cl98 (spec_DrawApplyActions_ok (S := TT) (mk_list (H.rt 0 rfl)) hy) fun v w a hp hf => ?_
 obtain ⟨A2, c2, F, A3, c3, F2, A4, c4, A5, c5, F3, rfl, Hc⟩ := hp
 have H := H.comp Hc (.inl rfl)
 have H := H.lend 0 rfl
 have H := H.lend 1 rfl
 have H := H.lend 2 rfl
 refine pz 2 hf fun a hf => ?_
 refine sB 0 hf H TF.sz45 fun w H => ?_
 refine pz 1 hf fun a hf => ?_
 refine wer ?_
 have H := H.frontD 2 rfl
 have H := H.frontD 2 rfl
 have H := H.frontD 2 rfl
 obtain rfl := oi hF
 refine ret_2 hf rfl (rv_cellN hf H 0 TF.la45 rfl rfl rfl) (rv_tmp hf rfl) ?_
 have H := H.lt_ [false] [] [true, true, true] [3]
 exact ⟨_, rfl, A2, c2, F, A3, c3, F2, A4, c4, A5, c5, F3, rfl, H⟩
theorem impl_StartChange_ok {S : Nat → Prop} {v0_ : Value} {v1_ : Value} {p : Plan} {list : List Action} {r : Change × Bool} (h0 : VR w0 S v0_ p) (h1 : VR w0 S v1_ list) (hF : impl_StartChange fu p list = some r) :
    Calls Tryz.prog 47 [v0_, v1_].toArray w0 fun e w' => ∃ v, e = .returned v ∧ (Below w0.heap.size w0 w' ∧ ∃ F0, ∃ u0 u1, v = .tuple #[u0, u1] ∧ VO w' F0 u0 r.1 ∧ VR w' (St ⟨w0, []⟩ S [] [] [] true) u1 r.2 ∧ New w0 w' F0) := by
 obtain ⟨A, c, A2, c2, A3, c3, rfl, hl, hl2, hl3⟩ := Plan_open h0
 obtain ⟨A4, c4, rfl, hl4⟩ := VR_list h1
 have H := Mem.start ⟨w0, []⟩ S
 have H := H.pA hl
 have H := H.pA hl2
 have H := H.pA hl3
 have H := H.pA hl4
 refine en Tryz.func47 fun a hf => ?_
 rw [impl_StartChange] at hF
 refine bx hf H fun b' a w hf H => ?_
 refine aL hf H TF.zv76 fun b2 a w hf H => ?_
 refine pz 1 hf fun a hf => ?_
 refine wl_end (then_n (sq (sq ?_)))
 obtain ⟨c5, hGc5, hF⟩ := bs_ hF
 have fh := hf.prune [1, 2, 4] rfl
 have Hm := H.lt_ [true, true] [] [] [0, 1, 2, 3]
 refine midF 13 (.bool c5) fh Hm ?_ fun a w hf H => ?_
 ·refine reg (lN 1 hf H TF.la45 fun a hf => ?_)
  obtain ⟨y, hy, hGc5⟩ := bs_ hGc5
  refine oc hf TF.cl50 (impl_IsValidPlan_ok (S := TT) (Plan_mkv (x := p) (H.rt 3 rfl) (H.rt 2 rfl) (H.rt 1 rfl)) hy) fun v w a hp hf => ?_
  obtain ⟨hb, hp⟩ := hp
  obtain rfl := VR_bool hp
  have H := H.keep hb
  refine pz 2 hf fun a hf => ?_
  refine iteB hGc5 (fun hc hGc5 => ?_) fun hc hGc5 => ?_
  ·have hf := hf.lit 9 rfl hc
   refine pz 4 hf fun a hf => ?_
   obtain rfl := oi hGc5
   have hf := hf.pn [13, 1, 2, 4]
   have H := H.lt_ [true, true] [] [] [0, 1, 2, 3]
   exact wl_end ⟨hf, H⟩
  ·have hf := hf.lit 9 rfl hc
   refine pz 4 hf fun a hf => ?_
   obtain rfl := oi hGc5
   have hf := hf.pn [13, 1, 2, 4]
   have H := H.lt_ [true, true] [] [] [0, 1, 2, 3]
   exact wl_end ⟨hf, H⟩
 refine then_n (ib hF hf (fun hc2 hF => ?_) fun hc2 hF => ?_)
 ·refine sq (reg (oq hf (rq_build hf (cs := [(.slice none 0 0), (.slice none 0 0), (.slice none 0 0), (.slice none 0 0), (.slice none 0 0), (.bool false)]) rfl (fun w => by kernel_rfl)) fun a hf => ?_))
  refine sB 0 hf H TF.sz76 fun w H => ?_
  refine pz 1 hf fun a hf => ?_
  refine wl_end (then_n (wp_ret (then_r (?_))))
  have H := H.ownNil (ByteArray)
  have H := H.lend 0 rfl
  have H := H.ownNil (Fiber)
  have H := H.lend 0 rfl
  have H := H.ownNil (Light)
  have H := H.lend 0 rfl
  have H := H.ownNil (Action)
  have H := H.lend 0 rfl
  have H := H.ownNil (Action)
  have H := H.lend 0 rfl
  have H := H.frontD 1 rfl
  have H := H.frontD 2 rfl
  have H := H.frontD 3 rfl
  have H := H.frontD 4 rfl
  obtain rfl := oi hF
  refine ret_2 hf rfl (rv_cellN hf H 0 TF.la76 rfl rfl rfl) (rv_tmp hf rfl) ?_
  have hN := H.ends (X := [(⟨[], MP.own [] [(.slice none 0 0)] ([] : List ByteArray)⟩ : DI), (⟨[], MP.own [] [(.slice none 0 0)] ([] : List Fiber)⟩ : DI), (⟨[], MP.own [] [(.slice none 0 0)] ([] : List Light)⟩ : DI), (⟨[], MP.own [] [(.slice none 0 0)] ([] : List Action)⟩ : DI), (⟨[], MP.own [] [(.slice none 0 0)] ([] : List Action)⟩ : DI)])
  simp only [List.flatMap_cons, List.flatMap_nil, List.append_nil, List.append_assoc] at hN
  exact ⟨_, rfl, H.bel, ([] ++ ([] ++ ([] ++ ([] ++ [])))), _, _, rfl, ⟨_, Change_ownmk (x := ({ Plan := ({ Network := ({ Nodes := [], Fibers := [] } : Network), Lights := [] } : Plan), Actions := [], Undo := [], Back := false } : Change)) (H.ownAt 0 rfl) (H.ownAt 1 rfl) (H.ownAt 2 rfl) (H.ownAt 3 rfl) (H.ownAt 4 rfl), rfl⟩, mk_bool, by first | exact hN | simpa using hN⟩
 ·refine wp_skip (then_n (sq (reg (lN 1 hf H TF.la45 fun a hf => ?_))))
  refine pz 1 hf fun a hf => ?_
  refine oq hf (rq_build hf (cs := [(.slice A p.Network.Nodes.length c), (.slice A2 p.Network.Fibers.length c2), (.slice A3 p.Lights.length c3), (.slice A4 list.length c4), (.slice none 0 0), (.bool false)]) rfl (fun w => by kernel_rfl)) fun a hf => ?_
  have H := H.pushNil (Action) true
  obtain ⟨y2, hy2, hF⟩ := bs_ hF
  refine oc hf TF.cl94 (impl_copyChange_ok (S := TT) (Change_mkv (x := ({ Plan := p, Actions := list, Undo := [], Back := false } : Change)) (H.rt 4 rfl) (H.rt 3 rfl) (H.rt 2 rfl) (H.rt 1 rfl) (H.rt 0 rfl)) hy2) fun v2 w a hp2 hf => ?_
  obtain ⟨hb2, F, hp3, hN⟩ := hp2
  obtain ⟨A5, c6, F2, A6, c7, F3, A7, c8, F4, A8, c9, F5, A9, c10, F6, rfl, rfl, hl5, hl6, hl7, hl8, hl9⟩ := Change_vo hp3
  have H := H.addOwn hb2 (X := [(⟨F2, MP.own F2 [(.slice A5 y2.Plan.Network.Nodes.length c6)] (y2.Plan.Network.Nodes : List ByteArray)⟩ : DI), (⟨F3, MP.own F3 [(.slice A6 y2.Plan.Network.Fibers.length c7)] (y2.Plan.Network.Fibers : List Fiber)⟩ : DI), (⟨F4, MP.own F4 [(.slice A7 y2.Plan.Lights.length c8)] (y2.Plan.Lights : List Light)⟩ : DI), (⟨F5, MP.own F5 [(.slice A8 y2.Actions.length c9)] (y2.Actions : List Action)⟩ : DI), (⟨F6, MP.own F6 [(.slice A9 y2.Undo.length c10)] (y2.Undo : List Action)⟩ : DI)]) (by simpa using hN.1) (ps1 hl5 (ps1 hl6 (ps1 hl7 (ps1 hl8 (ps1 hl9 ps0))))) (by simpa using hN.2)
  have H := H.lend 0 rfl
  have H := H.lend 1 rfl
  have H := H.lend 2 rfl
  have H := H.lend 3 rfl
  have H := H.lend 4 rfl
  refine sB 0 hf H TF.sz76 fun w H => ?_
  refine pz 1 hf fun a hf => ?_
  refine wer ?_
  have H := H.frontD 4 rfl
  have H := H.frontD 4 rfl
  have H := H.frontD 4 rfl
  have H := H.frontD 4 rfl
  have H := H.frontD 4 rfl
  obtain rfl := oi hF
  refine ret_2 hf rfl (rv_cellN hf H 0 TF.la76 rfl rfl rfl) (rv_tmp hf rfl) ?_
  have hN := H.ends (X := [(⟨F2, MP.own F2 [(.slice A5 y2.Plan.Network.Nodes.length c6)] (y2.Plan.Network.Nodes : List ByteArray)⟩ : DI), (⟨F3, MP.own F3 [(.slice A6 y2.Plan.Network.Fibers.length c7)] (y2.Plan.Network.Fibers : List Fiber)⟩ : DI), (⟨F4, MP.own F4 [(.slice A7 y2.Plan.Lights.length c8)] (y2.Plan.Lights : List Light)⟩ : DI), (⟨F5, MP.own F5 [(.slice A8 y2.Actions.length c9)] (y2.Actions : List Action)⟩ : DI), (⟨F6, MP.own F6 [(.slice A9 y2.Undo.length c10)] (y2.Undo : List Action)⟩ : DI)])
  simp only [List.flatMap_cons, List.flatMap_nil, List.append_nil, List.append_assoc] at hN
  exact ⟨_, rfl, H.bel, (F2 ++ (F3 ++ (F4 ++ (F5 ++ F6)))), _, _, rfl, ⟨_, Change_ownmk (x := y2) (H.ownAt 0 rfl) (H.ownAt 1 rfl) (H.ownAt 2 rfl) (H.ownAt 3 rfl) (H.ownAt 4 rfl), rfl⟩, mk_bool, by first | exact hN | simpa using hN⟩
theorem spec_StartChange_ok {S : Nat → Prop} {v0_ : Value} {v1_ : Value} {p : Plan} {list : List Action} {r : Change × Bool} (h0 : VR w0 S v0_ p) (h1 : VR w0 S v1_ list) (hF : spec_StartChange fu p list = some r) :
    Calls Tryz.prog 48 [v0_, v1_].toArray w0 fun e w' => ∃ v, e = .returned v ∧ (Below w0.heap.size w0 w' ∧ ∃ F0, ∃ u0 u1, v = .tuple #[u0, u1] ∧ VO w' F0 u0 r.1 ∧ VR w' (St ⟨w0, []⟩ S [] [] [] true) u1 r.2 ∧ New w0 w' F0) := by
 obtain ⟨A, c, A2, c2, A3, c3, rfl, hl, hl2, hl3⟩ := Plan_open h0
 obtain ⟨A4, c4, rfl, hl4⟩ := VR_list h1
 have H := Mem.start ⟨w0, []⟩ S
 have H := H.pA hl
 have H := H.pA hl2
 have H := H.pA hl3
 have H := H.pA hl4
 refine en Tryz.func48 fun a hf => ?_
 rw [spec_StartChange] at hF
 refine bx hf H fun b' a w hf H => ?_
 refine aL hf H TF.zv76 fun b2 a w hf H => ?_
 refine pz 1 hf fun a hf => ?_
 refine wl_end (then_n (sq (sq ?_)))
 obtain ⟨c5, hGc5, hF⟩ := bs_ hF
 have fh := hf.prune [1, 2, 4] rfl
 have Hm := H.lt_ [true, true] [] [] [0, 1, 2, 3]
 refine midF 13 (.bool c5) fh Hm ?_ fun a w hf H => ?_
 ·refine reg (lN 1 hf H TF.la45 fun a hf => ?_)
  obtain ⟨y, hy, hGc5⟩ := bs_ hGc5
  refine oc hf TF.cl61 (spec_l9Good_ok (S := TT) (Plan_mkv (x := p) (H.rt 3 rfl) (H.rt 2 rfl) (H.rt 1 rfl)) hy) fun v w a hp hf => ?_
  obtain ⟨hb, hp⟩ := hp
  obtain rfl := VR_bool hp
  have H := H.keep hb
  refine pz 2 hf fun a hf => ?_
  refine iteB hGc5 (fun hc hGc5 => ?_) fun hc hGc5 => ?_
  ·have hf := hf.lit 9 rfl hc
   refine pz 4 hf fun a hf => ?_
   obtain rfl := oi hGc5
   have hf := hf.pn [13, 1, 2, 4]
   have H := H.lt_ [true, true] [] [] [0, 1, 2, 3]
   exact wl_end ⟨hf, H⟩
  ·have hf := hf.lit 9 rfl hc
   refine pz 4 hf fun a hf => ?_
   obtain rfl := oi hGc5
   have hf := hf.pn [13, 1, 2, 4]
   have H := H.lt_ [true, true] [] [] [0, 1, 2, 3]
   exact wl_end ⟨hf, H⟩
 refine then_n (ib hF hf (fun hc2 hF => ?_) fun hc2 hF => ?_)
 ·refine sq (reg (oq hf (rq_build hf (cs := [(.slice none 0 0), (.slice none 0 0), (.slice none 0 0), (.slice none 0 0), (.slice none 0 0), (.bool false)]) rfl (fun w => by kernel_rfl)) fun a hf => ?_))
  refine sB 0 hf H TF.sz76 fun w H => ?_
  refine pz 1 hf fun a hf => ?_
  refine wl_end (then_n (wp_ret (then_r (?_))))
  have H := H.ownNil (ByteArray)
  have H := H.lend 0 rfl
  have H := H.ownNil (Fiber)
  have H := H.lend 0 rfl
  have H := H.ownNil (Light)
  have H := H.lend 0 rfl
  have H := H.ownNil (Action)
  have H := H.lend 0 rfl
  have H := H.ownNil (Action)
  have H := H.lend 0 rfl
  have H := H.frontD 1 rfl
  have H := H.frontD 2 rfl
  have H := H.frontD 3 rfl
  have H := H.frontD 4 rfl
  obtain rfl := oi hF
  refine ret_2 hf rfl (rv_cellN hf H 0 TF.la76 rfl rfl rfl) (rv_tmp hf rfl) ?_
  have hN := H.ends (X := [(⟨[], MP.own [] [(.slice none 0 0)] ([] : List ByteArray)⟩ : DI), (⟨[], MP.own [] [(.slice none 0 0)] ([] : List Fiber)⟩ : DI), (⟨[], MP.own [] [(.slice none 0 0)] ([] : List Light)⟩ : DI), (⟨[], MP.own [] [(.slice none 0 0)] ([] : List Action)⟩ : DI), (⟨[], MP.own [] [(.slice none 0 0)] ([] : List Action)⟩ : DI)])
  simp only [List.flatMap_cons, List.flatMap_nil, List.append_nil, List.append_assoc] at hN
  exact ⟨_, rfl, H.bel, ([] ++ ([] ++ ([] ++ ([] ++ [])))), _, _, rfl, ⟨_, Change_ownmk (x := ({ Plan := ({ Network := ({ Nodes := [], Fibers := [] } : Network), Lights := [] } : Plan), Actions := [], Undo := [], Back := false } : Change)) (H.ownAt 0 rfl) (H.ownAt 1 rfl) (H.ownAt 2 rfl) (H.ownAt 3 rfl) (H.ownAt 4 rfl), rfl⟩, mk_bool, by first | exact hN | simpa using hN⟩
 ·refine wp_skip (then_n (sq (reg (lN 1 hf H TF.la45 fun a hf => ?_))))
  obtain ⟨y2, hy2, hF⟩ := bs_ hF
  refine oc hf TF.cl81 (spec_l9Own_ok (S := TT) (Plan_mkv (x := p) (H.rt 3 rfl) (H.rt 2 rfl) (H.rt 1 rfl)) hy2) fun v2 w a hp2 hf => ?_
  obtain ⟨hb2, F, hp3, hN⟩ := hp2
  obtain ⟨A5, c6, F2, A6, c7, F3, A7, c8, F4, rfl, rfl, hl5, hl6, hl7⟩ := Plan_vo hp3
  have H := H.aO3 hb2 hN hl5 hl6 hl7
  have H := H.lend 0 rfl
  have H := H.lend 1 rfl
  have H := H.lend 2 rfl
  refine pz 1 hf fun a hf => ?_
  obtain ⟨y3, hy3, hF⟩ := bs_ hF
  refine oc hf TF.cl92 (spec_l20Copies_ok (S := TT) (mk_list (H.rt 3 rfl)) hy3) fun v3 w a hp4 hf => ?_
  obtain ⟨hb3, F5, hp5, hN2⟩ := hp4
  obtain ⟨A8, c9, rfl, hl8⟩ := VO_list hp5
  have H := H.aO1 hb3 hN2 hl8
  have H := H.lend 0 rfl
  refine oq hf (rq_build hf (cs := [(.slice A5 y2.Network.Nodes.length c6), (.slice A6 y2.Network.Fibers.length c7), (.slice A7 y2.Lights.length c8), (.slice A8 y3.length c9), (.slice none 0 0), (.bool false)]) rfl (fun w => by kernel_rfl)) fun a hf => ?_
  refine sB 0 hf H TF.sz76 fun w H => ?_
  refine pz 1 hf fun a hf => ?_
  refine wer ?_
  have H := H.ownNil (Action)
  have H := H.lend 0 rfl
  have H := H.frontD 1 rfl
  have H := H.frontD 4 rfl
  have H := H.frontD 4 rfl
  have H := H.frontD 4 rfl
  obtain rfl := oi hF
  refine ret_2 hf rfl (rv_cellN hf H 0 TF.la76 rfl rfl rfl) (rv_tmp hf rfl) ?_
  have hN := H.ends (X := [(⟨F2, MP.own F2 [(.slice A5 y2.Network.Nodes.length c6)] (y2.Network.Nodes : List ByteArray)⟩ : DI), (⟨F3, MP.own F3 [(.slice A6 y2.Network.Fibers.length c7)] (y2.Network.Fibers : List Fiber)⟩ : DI), (⟨F4, MP.own F4 [(.slice A7 y2.Lights.length c8)] (y2.Lights : List Light)⟩ : DI), (⟨F5, MP.own F5 [(.slice A8 y3.length c9)] (y3 : List Action)⟩ : DI), (⟨[], MP.own [] [(.slice none 0 0)] ([] : List Action)⟩ : DI)])
  simp only [List.flatMap_cons, List.flatMap_nil, List.append_nil, List.append_assoc] at hN
  exact ⟨_, rfl, H.bel, (F2 ++ (F3 ++ (F4 ++ (F5 ++ [])))), _, _, rfl, ⟨_, Change_ownmk (x := ({ Plan := y2, Actions := y3, Undo := [], Back := false } : Change)) (H.ownAt 0 rfl) (H.ownAt 1 rfl) (H.ownAt 2 rfl) (H.ownAt 3 rfl) (H.ownAt 4 rfl), rfl⟩, mk_bool, by first | exact hN | simpa using hN⟩
theorem laws_FnChanges_ok {S : Nat → Prop} {v0_ : Value} {code : List By} {r : Bool} (h0 : VR w0 S v0_ code) (hF : laws_FnChanges fu code = some r) :
    Calls Tryz.prog 9 [v0_].toArray w0 fun e w' => ∃ v, e = .returned v ∧ (Below w0.heap.size w0 w' ∧ VR w' (St ⟨w0, []⟩ S [] [] [] true) v r) := by
 obtain ⟨A, c, rfl, hl⟩ := VR_list h0
 have H := Mem.start ⟨w0, []⟩ S
 have H := H.pA hl
 refine en Tryz.func9 fun a hf => ?_
 rw [laws_FnChanges] at hF
 refine sqz (pz 1 hf fun a hf => ?_)
 refine we (sqz (pz 1 hf fun a hf => ?_))
 obtain ⟨y, hy, hF⟩ := bs_ hF
 refine oc hf TF.cl40 (laws_vBig_ok (S := TT) (mk_list (H.rt 0 rfl)) hy) fun v w a hp hf => ?_
 obtain ⟨hb, hp⟩ := hp
 obtain rfl := VR_bool hp
 have H := H.keep hb
 refine wl_end (then_n (ib hF hf (fun hc hF => ?_) fun hc hF => ?_))
 ·refine sqz (pz 1 hf fun a hf => ?_)
  refine wl_end (then_n (wp_ret (then_r (?_))))
  obtain rfl := oi hF
  refine rT hf ?_
  exact ⟨_, rfl, H.bel, mk_bool⟩
 ·refine wp_skip (then_n (sqz (pz 1 hf fun a hf => ?_)))
  obtain ⟨y2, hy2, hF⟩ := bs_ hF
  refine oc hf TF.cl46 (spec_DrawStartChange_ok (S := TT) (mk_list (H.rt 0 rfl)) hy2) fun v2 w a hp2 hf => ?_
  obtain ⟨A2, c2, F, A3, c3, F2, A4, c4, A5, c5, F3, rfl, Hc⟩ := hp2
  have H := H.comp Hc (.inl rfl)
  have H := H.lend 0 rfl
  have H := H.lend 1 rfl
  have H := H.lend 2 rfl
  refine pz 3 hf fun a hf => ?_
  refine aL hf H TF.zv45 fun b' a w hf H => ?_
  refine sB 0 hf H TF.sz45 fun w H => ?_
  refine pz 1 hf fun a hf => ?_
  refine wr (lN 0 hf H TF.la45 fun a hf => ?_)
  refine pz 1 hf fun a hf => ?_
  obtain ⟨y3, hy3, hF⟩ := bs_ hF
  refine oc hf TF.cl47 (impl_StartChange_ok (S := TT) (Plan_mkv (x := y2.1) (H.rt 2 rfl) (H.rt 1 rfl) (H.rt 3 rfl)) (mk_list (H.rt 0 rfl)) hy3) fun v3 w a hp3 hf => ?_
  obtain ⟨hb2, F4, v4, v5, rfl, hp4, hp5, hN⟩ := hp3
  obtain ⟨A6, c6, F5, A7, c7, F6, A8, c8, F7, A9, c9, F8, A10, c10, F9, rfl, rfl, hl2, hl3, hl4, hl5, hl6⟩ := Change_vo hp4
  obtain rfl := VR_bool hp5
  have H := H.addOwn hb2 (X := [(⟨F5, MP.own F5 [(.slice A6 y3.1.Plan.Network.Nodes.length c6)] (y3.1.Plan.Network.Nodes : List ByteArray)⟩ : DI), (⟨F6, MP.own F6 [(.slice A7 y3.1.Plan.Network.Fibers.length c7)] (y3.1.Plan.Network.Fibers : List Fiber)⟩ : DI), (⟨F7, MP.own F7 [(.slice A8 y3.1.Plan.Lights.length c8)] (y3.1.Plan.Lights : List Light)⟩ : DI), (⟨F8, MP.own F8 [(.slice A9 y3.1.Actions.length c9)] (y3.1.Actions : List Action)⟩ : DI), (⟨F9, MP.own F9 [(.slice A10 y3.1.Undo.length c10)] (y3.1.Undo : List Action)⟩ : DI)]) (by simpa using hN.1) (ps1 hl2 (ps1 hl3 (ps1 hl4 (ps1 hl5 (ps1 hl6 ps0))))) (by simpa using hN.2)
  have H := H.lend 0 rfl
  have H := H.lend 1 rfl
  have H := H.lend 2 rfl
  have H := H.lend 3 rfl
  have H := H.lend 4 rfl
  refine pz 3 hf fun a hf => ?_
  refine aL hf H TF.zv76 fun b2 a w hf H => ?_
  refine sB 0 hf H TF.sz76 fun w H => ?_
  refine pz 1 hf fun a hf => ?_
  have hf := hf.pn [3, 4, 5, 6]
  refine wl_end (then_n (sq (sq (reg (lN 1 hf H TF.la45 fun a hf => ?_)))))
  refine pz 1 hf fun a hf => ?_
  obtain ⟨y4, hy4, hF⟩ := bs_ hF
  refine oc hf TF.cl48 (spec_StartChange_ok (S := TT) (Plan_mkv (x := y2.1) (H.rt 7 rfl) (H.rt 6 rfl) (H.rt 8 rfl)) (mk_list (H.rt 5 rfl)) hy4) fun v6 w a hp6 hf => ?_
  obtain ⟨hb3, F10, v7, v8, rfl, hp7, hp8, hN2⟩ := hp6
  obtain ⟨A11, c11, F11, A12, c12, F12, A13, c13, F13, A14, c14, F14, A15, c15, F15, rfl, rfl, hl7, hl8, hl9, hl10, hl11⟩ := Change_vo hp7
  obtain rfl := VR_bool hp8
  have H := H.addOwn hb3 (X := [(⟨F11, MP.own F11 [(.slice A11 y4.1.Plan.Network.Nodes.length c11)] (y4.1.Plan.Network.Nodes : List ByteArray)⟩ : DI), (⟨F12, MP.own F12 [(.slice A12 y4.1.Plan.Network.Fibers.length c12)] (y4.1.Plan.Network.Fibers : List Fiber)⟩ : DI), (⟨F13, MP.own F13 [(.slice A13 y4.1.Plan.Lights.length c13)] (y4.1.Plan.Lights : List Light)⟩ : DI), (⟨F14, MP.own F14 [(.slice A14 y4.1.Actions.length c14)] (y4.1.Actions : List Action)⟩ : DI), (⟨F15, MP.own F15 [(.slice A15 y4.1.Undo.length c15)] (y4.1.Undo : List Action)⟩ : DI)]) (by simpa using hN2.1) (ps1 hl7 (ps1 hl8 (ps1 hl9 (ps1 hl10 (ps1 hl11 ps0))))) (by simpa using hN2.2)
  have H := H.lend 0 rfl
  have H := H.lend 1 rfl
  have H := H.lend 2 rfl
  have H := H.lend 3 rfl
  have H := H.lend 4 rfl
  refine pz 3 hf fun a hf => ?_
  refine aL hf H TF.zv76 fun b3 a w hf H => ?_
  refine sB 0 hf H TF.sz76 fun w H => ?_
  refine pz 1 hf fun a hf => ?_
  refine wr (pz 3 hf fun a hf => ?_)
  refine wl_end (then_n (ib hF hf (fun hc2 hF => ?_) fun hc2 hF => ?_))
  ·refine sqz (pz 1 hf fun a hf => ?_)
   have hf := hf.pn [2]
   refine wl_end (then_n (wp_ret (then_r (?_))))
   obtain rfl := oi hF
   refine rT hf ?_
   exact ⟨_, rfl, H.bel, mk_bool⟩
  ·refine wp_skip (then_n (sq (sqz (pz 2 hf fun a hf => ?_))))
   have hf := hf.pn [3, 4, 5, 39]
   refine wl_end (then_n (ib hF hf (fun hc3 hF => ?_) fun hc3 hF => ?_))
   ·refine sqz (pz 1 hf fun a hf => ?_)
    refine lB 1 hf H TF.ls67 fun a hf => ?_
    refine pz 3 hf fun a hf => ?_
    refine wl_end (then_n (wp_ret (then_r (?_))))
    obtain rfl := oi hF
    refine rT hf ?_
    exact ⟨_, rfl, H.bel, mk_bool⟩
   ·refine wp_skip (then_n (sq (reg (lN 2 hf H TF.la45 fun a hf => ?_))))
    refine pz 1 hf fun a hf => ?_
    obtain ⟨y5, hy5, hF⟩ := bs_ hF
    refine oc hf TF.cl28 (impl_ApplyActions_ok (S := TT) (Plan_mkv (x := y2.1) (H.rt 12 rfl) (H.rt 11 rfl) (H.rt 13 rfl)) (mk_list (H.rt 10 rfl)) hy5) fun v9 w a hp9 hf => ?_
    obtain ⟨hb4, F16, v10, v11, v12, rfl, hp10, hp11, hp12, hN3⟩ := hp9
    obtain ⟨A16, c16, F17, A17, c17, F18, A18, c18, F19, rfl, rfl, hl12, hl13, hl14⟩ := Plan_vo hp10
    obtain rfl := VR_int hp11
    obtain rfl := VR_bool hp12
    have H := H.aO3 hb4 hN3 hl12 hl13 hl14
    have H := H.lend 0 rfl
    have H := H.lend 1 rfl
    have H := H.lend 2 rfl
    refine pz 4 hf fun a hf => ?_
    refine aL hf H TF.zv45 fun b4 a w hf H => ?_
    refine sB 0 hf H TF.sz45 fun w H => ?_
    refine pz 2 hf fun a hf => ?_
    refine wl_end (then_n (sq (sq ?_)))
    obtain ⟨c19, hGc19, hF⟩ := bs_ hF
    have fh := hf.prune [3, 4, 5, 9, 10] rfl
    have Hm := H.lt_ [true, false, true, true] [] [true, true, true, false, false, false, false, false, true, true, true, true, true, true, true, true] [0, 1, 2, 8, 9, 10, 11, 12, 13, 14, 15, 16]
    refine midF 64 (.bool c19) fh Hm ?_ fun a w hf H => ?_
    ·refine reg (pz 3 hf fun a hf => ?_)
     refine iteB hGc19 (fun hc4 hGc19 => ?_) fun hc4 hGc19 => ?_
     ·have hf := hf.lit 53 rfl hc4
      refine pz 5 hf fun a hf => ?_
      refine wlsu hf rfl rfl rfl rfl (by decide) fun a hf => ?_
      refine wlsu hf rfl rfl rfl rfl (by decide) fun a hf => ?_
      refine wlsu hf rfl rfl rfl rfl (by decide) fun a hf => ?_
      refine wlsu hf rfl rfl rfl rfl (by decide) fun a hf => ?_
      refine pz 2 hf fun a hf => ?_
      obtain rfl := oi hGc19
      have hf := hf.pn [64, 3, 4, 5, 9, 10]
      have H := H.lt_ [true, false, true, true] [] [true, true, true, false, false, false, false, false, true, true, true, true, true, true, true, true] [0, 1, 2, 8, 9, 10, 11, 12, 13, 14, 15, 16]
      exact wl_end ⟨hf, H⟩
     ·have hf := hf.lit 53 rfl hc4
      refine pz 5 hf fun a hf => ?_
      refine iteB hGc19 (fun hc5 hGc19 => ?_) fun hc5 hGc19 => ?_
      ·have hf := hf.lit 58 rfl hc5
       refine wlg hf rfl rfl rfl (op_q hf (rq_loadBN hf H TF.la45 0 rfl rfl rfl rfl) rfl (by decide) fun a hf => ?_)
       refine wlg hf rfl rfl rfl (op_q hf (rq_loadBN hf H TF.la45 3 rfl rfl rfl rfl) rfl (by decide) fun a hf => ?_)
       obtain ⟨y6, hy6, hGc19⟩ := bs_ hGc19
       refine wlg hf rfl rfl rfl (oC hf TF.cl42 (laws_vPlans_ok (S := TT) (Plan_mkv (x := y5.1) (H.rt 2 rfl) (H.rt 1 rfl) (H.rt 0 rfl)) (Plan_mkv (x := y2.1) (H.rt 15 rfl) (H.rt 14 rfl) (H.rt 16 rfl)) hy6) fun v13 w a hp13 hf => ?_)
       obtain ⟨hb5, hp13⟩ := hp13
       obtain rfl := VR_bool hp13
       have H := H.keep hb5
       refine pz 3 hf fun a hf => ?_
       obtain rfl := oi hGc19
       have hf := hf.pn [64, 3, 4, 5, 9, 10]
       have H := H.lt_ [true, false, true, true] [] [true, true, true, false, false, false, false, false, true, true, true, true, true, true, true, true] [0, 1, 2, 8, 9, 10, 11, 12, 13, 14, 15, 16]
       exact wl_end ⟨hf, H⟩
      ·have hf := hf.lit 58 rfl hc5
       refine pz 6 hf fun a hf => ?_
       obtain rfl := oi hGc19
       have hf := hf.pn [64, 3, 4, 5, 9, 10]
       have H := H.lt_ [true, false, true, true] [] [true, true, true, false, false, false, false, false, true, true, true, true, true, true, true, true] [0, 1, 2, 8, 9, 10, 11, 12, 13, 14, 15, 16]
       exact wl_end ⟨hf, H⟩
    refine then_n (ib hF hf (fun hc6 hF => ?_) fun hc6 hF => ?_)
    ·refine sqz (pz 1 hf fun a hf => ?_)
     refine wl_end (then_n (wp_ret (then_r (?_))))
     obtain rfl := oi hF
     refine rT hf ?_
     exact ⟨_, rfl, H.bel, mk_bool⟩
    ·refine wp_skip (then_n (sq (sqz (pz 1 hf fun a hf => ?_))))
     refine wl_end (then_n ?_)
     obtain ⟨out', hB1, hF⟩ := bs_ hF
     have hf := hf.pn [3, 4, 5, 9, 10, 12]
     have H := H.lt_ [true, true, true] [] [true, true, true, false, false, false, false, false, true, true, true] [3, 4, 5, 6, 7, 0, 1, 2, 8, 9, 10, 11]
     refine loopC (fun (s : Int × List ByteArray × List Fiber × List Light × List Action × List Action × Bool) (a : Act) (w : World) => match s with | (steps, m, m2, m3, m4, m5, m6) => ∃ (A19 : Option Addr) (c20 : Nat) (A20 : Option Addr) (c21 : Nat) (A21 : Option Addr) (c22 : Nat) (A22 : Option Addr) (c23 : Nat) (A23 : Option Addr) (c24 : Nat), Fr a 113 [(3, (.pointer (some ⟨b', 0, none⟩))), (4, (.slice A5 y2.2.length c5)), (5, (.pointer (some ⟨b2, 0, none⟩))), (9, (.pointer (some ⟨b4, 0, none⟩))), (10, (.int .i64 y5.2.1)), (12, (.int .i64 steps))] ∧ Mem ⟨w0, []⟩ S [⟨b4, 45, [(.slice A16 y5.1.Network.Nodes.length c16), (.slice A17 y5.1.Network.Fibers.length c17), (.slice A18 y5.1.Lights.length c18)]⟩, ⟨b2, 76, [(.slice A19 m.length c20), (.slice A20 m2.length c21), (.slice A21 m3.length c22), (.slice A22 m4.length c23), (.slice A23 m5.length c24), (.bool m6)]⟩, ⟨b', 45, [(.slice A2 y2.1.Network.Nodes.length c2), (.slice A3 y2.1.Network.Fibers.length c3), (.slice A4 y2.1.Lights.length c4)]⟩] [] [⟨F17, MP.own F17 [(.slice A16 y5.1.Network.Nodes.length c16)] (y5.1.Network.Nodes : List ByteArray)⟩, ⟨F18, MP.own F18 [(.slice A17 y5.1.Network.Fibers.length c17)] (y5.1.Network.Fibers : List Fiber)⟩, ⟨F19, MP.own F19 [(.slice A18 y5.1.Lights.length c18)] (y5.1.Lights : List Light)⟩, ⟨F, MP.own F [(.slice A2 y2.1.Network.Nodes.length c2)] (y2.1.Network.Nodes : List ByteArray)⟩, ⟨F2, MP.own F2 [(.slice A3 y2.1.Network.Fibers.length c3)] (y2.1.Network.Fibers : List Fiber)⟩, ⟨F3, MP.own F3 [(.slice A5 y2.2.length c5)] (y2.2 : List Action)⟩] [(true, MP.val [(.slice A23 m5.length c24)] (m5 : List Action)), (true, MP.val [(.slice A22 m4.length c23)] (m4 : List Action)), (true, MP.val [(.slice A21 m3.length c22)] (m3 : List Light)), (true, MP.val [(.slice A20 m2.length c21)] (m2 : List Fiber)), (true, MP.val [(.slice A19 m.length c20)] (m : List ByteArray)), (true, MP.val [(.slice A18 y5.1.Lights.length c18)] (y5.1.Lights : List Light)), (true, MP.val [(.slice A17 y5.1.Network.Fibers.length c17)] (y5.1.Network.Fibers : List Fiber)), (true, MP.val [(.slice A16 y5.1.Network.Nodes.length c16)] (y5.1.Network.Nodes : List ByteArray)), (true, MP.val [(.slice A5 y2.2.length c5)] (y2.2 : List Action)), (true, MP.val [(.slice A3 y2.1.Network.Fibers.length c3)] (y2.1.Network.Fibers : List Fiber)), (true, MP.val [(.slice A2 y2.1.Network.Nodes.length c2)] (y2.1.Network.Nodes : List ByteArray)), (true, MP.val [(.slice A4 y2.1.Lights.length c4)] (y2.1.Lights : List Light))] w) (fun k (s : Int × List ByteArray × List Fiber × List Light × List Action × List Action × Bool) => laws_FnChanges_L1 fu y2 y5 k s.1 s.2.1 s.2.2.1 s.2.2.2.1 s.2.2.2.2.1 s.2.2.2.2.2.1 s.2.2.2.2.2.2 = some out') (fun s => out' = Out.next s) (0, y3.1.Plan.Network.Nodes, y3.1.Plan.Network.Fibers, y3.1.Plan.Lights, y3.1.Actions, y3.1.Undo, y3.1.Back) fu hB1 ⟨A6, c6, A7, c7, A8, c8, A9, c9, A10, c10, hf, H⟩ (fun s h => by cases h) ?_ ?_
     ·rintro fk ⟨steps, m, m2, m3, m4, m5, m6⟩ a w hR1 hI
      replace hR1 : laws_FnChanges_L1 fu y2 y5 (fk + 1) steps m m2 m3 m4 m5 m6 = some out' := hR1
      rw [laws_FnChanges_L1] at hR1
      obtain ⟨A19, c20, A20, c21, A21, c22, A22, c23, A23, c24, hf, H⟩ := hI
      refine sq (sqz (pz 2 hf fun a hf => ?_))
      refine wl_end (then_n (ib hR1 hf (fun hc7 hR1 => ?_) fun hc7 hR1 => ?_))
      ·refine ws (lN 1 hf H TF.la76 fun a hf => ?_)
       obtain ⟨y7, hy7, hR1⟩ := bs_ hR1
       refine oc hf TF.cl34 (impl_StepChange_ok (S := TT) (Change_mkv (x := ({ Plan := ({ Network := ({ Nodes := m, Fibers := m2 } : Network), Lights := m3 } : Plan), Actions := m4, Undo := m5, Back := m6 } : Change)) (H.rt 4 rfl) (H.rt 3 rfl) (H.rt 2 rfl) (H.rt 1 rfl) (H.rt 0 rfl)) hy7) fun v14 w a hp14 hf => ?_
       obtain ⟨hb6, v15, v16, v17, rfl, hp15, hp16, hp17⟩ := hp14
       obtain ⟨A24, c25, A25, c26, A26, c27, A27, c28, A28, c29, rfl, hl15, hl16, hl17, hl18, hl19⟩ := Change_open hp15
       obtain rfl := VR_int hp16
       obtain rfl := VR_bool hp17
       obtain ⟨F20, H⟩ := H.addRo hb6 (p := MP.and (MP.val [(.slice A24 y7.1.Plan.Network.Nodes.length c25)] (y7.1.Plan.Network.Nodes : List ByteArray)) (MP.and (MP.val [(.slice A25 y7.1.Plan.Network.Fibers.length c26)] (y7.1.Plan.Network.Fibers : List Fiber)) (MP.and (MP.val [(.slice A26 y7.1.Plan.Lights.length c27)] (y7.1.Plan.Lights : List Light)) (MP.and (MP.val [(.slice A27 y7.1.Actions.length c28)] (y7.1.Actions : List Action)) (MP.val [(.slice A28 y7.1.Undo.length c29)] (y7.1.Undo : List Action)))))) ⟨hl15, ⟨hl16, ⟨hl17, ⟨hl18, hl19⟩⟩⟩⟩
       have H := H.lendQ 0 (q := MP.val [(.slice A24 y7.1.Plan.Network.Nodes.length c25)] (y7.1.Plan.Network.Nodes : List ByteArray)) rfl fun _ _ h => h.1
       have H := H.lendQ 0 (q := MP.val [(.slice A25 y7.1.Plan.Network.Fibers.length c26)] (y7.1.Plan.Network.Fibers : List Fiber)) rfl fun _ _ h => h.2.1
       have H := H.lendQ 0 (q := MP.val [(.slice A26 y7.1.Plan.Lights.length c27)] (y7.1.Plan.Lights : List Light)) rfl fun _ _ h => h.2.2.1
       have H := H.lendQ 0 (q := MP.val [(.slice A27 y7.1.Actions.length c28)] (y7.1.Actions : List Action)) rfl fun _ _ h => h.2.2.2.1
       have H := H.lendQ 0 (q := MP.val [(.slice A28 y7.1.Undo.length c29)] (y7.1.Undo : List Action)) rfl fun _ _ h => h.2.2.2.2
       refine pz 4 hf fun a hf => ?_
       refine aL hf H TF.zv76 fun b5 a w hf H => ?_
       refine sB 0 hf H TF.sz76 fun w H => ?_
       refine pz 2 hf fun a hf => ?_
       refine wl_end (then_n (sq (sq ?_)))
       obtain ⟨c30, hGc30, hR1⟩ := bs_ hR1
       have fh2 := hf.prune [3, 4, 5, 9, 10, 12, 13, 14] rfl
       have Hm2 := H.lt_ [true, true, true, true] [] [true, true, true, true, true, true, true] [0, 1, 2, 3, 4, 5, 6, 7, 8, 9, 10, 11, 12, 13, 14, 15, 16]
       refine midF 87 (.bool c30) fh2 Hm2 ?_ fun a w hf H => ?_
       ·refine reg (pz 3 hf fun a hf => ?_)
        refine iteB hGc30 (fun hc8 hGc30 => ?_) fun hc8 hGc30 => ?_
        ·have hf := hf.lit 77 rfl hc8
         refine pz 10 hf fun a hf => ?_
         obtain rfl := oi hGc30
         have hf := hf.pn [87, 3, 4, 5, 9, 10, 12, 13, 14]
         have H := H.lt_ [true, true, true, true] [] [true, true, true, true, true, true, true] [0, 1, 2, 3, 4, 5, 6, 7, 8, 9, 10, 11, 12, 13, 14, 15, 16]
         exact wl_end ⟨hf, H⟩
        ·have hf := hf.lit 77 rfl hc8
         refine wlg hf rfl rfl rfl (op_q hf (rq_loadBN hf H TF.la76 0 rfl rfl rfl rfl) rfl (by decide) fun a hf => ?_)
         obtain ⟨y8, hy8, hGc30⟩ := bs_ hGc30
         refine wlg hf rfl rfl rfl (oC hf TF.cl49 (impl_IsValidChange_ok (S := TT) (Change_mkv (x := y7.1) (H.rt 4 rfl) (H.rt 3 rfl) (H.rt 2 rfl) (H.rt 1 rfl) (H.rt 0 rfl)) hy8) fun v18 w a hp18 hf => ?_)
         obtain ⟨hb7, hp18⟩ := hp18
         obtain rfl := VR_bool hp18
         have H := H.keep hb7
         refine pz 3 hf fun a hf => ?_
         refine iteB hGc30 (fun hc9 hGc30 => ?_) fun hc9 hGc30 => ?_
         ·have hf := hf.lit 82 rfl hc9
          refine pz 5 hf fun a hf => ?_
          obtain rfl := oi hGc30
          have hf := hf.pn [87, 3, 4, 5, 9, 10, 12, 13, 14]
          have H := H.lt_ [true, true, true, true] [] [true, true, true, true, true, true, true] [0, 1, 2, 3, 4, 5, 6, 7, 8, 9, 10, 11, 12, 13, 14, 15, 16]
          exact wl_end ⟨hf, H⟩
         ·have hf := hf.lit 82 rfl hc9
          refine pz 1 hf fun a hf => ?_
          refine wlg hf rfl rfl rfl (op_q hf (rq_loadBN hf H TF.la45 0 rfl rfl rfl rfl) rfl (by decide) fun a hf => ?_)
          obtain ⟨y9, hy9, hGc30⟩ := bs_ hGc30
          refine wlg hf rfl rfl rfl (oC hf TF.cl50 (impl_IsValidPlan_ok (S := TT) (Plan_mkv (x := y7.1.Plan) (H.rt 4 rfl) (H.rt 3 rfl) (H.rt 2 rfl)) hy9) fun v19 w a hp19 hf => ?_)
          obtain ⟨hb8, hp19⟩ := hp19
          obtain rfl := VR_bool hp19
          have H := H.keep hb8
          refine pz 2 hf fun a hf => ?_
          obtain rfl := oi hGc30
          have hf := hf.pn [87, 3, 4, 5, 9, 10, 12, 13, 14]
          have H := H.lt_ [true, true, true, true] [] [true, true, true, true, true, true, true] [0, 1, 2, 3, 4, 5, 6, 7, 8, 9, 10, 11, 12, 13, 14, 15, 16]
          exact wl_end ⟨hf, H⟩
       refine then_n (ib hR1 hf (fun hc10 hR1 => ?_) fun hc10 hR1 => ?_)
       ·refine sqz (pz 1 hf fun a hf => ?_)
        refine wl_end (then_n (wp_ret (then_r (blk_r (then_r (then_r (blk_r (then_r (then_r (?_))))))))))
        obtain rfl := oi hR1
        replace hF := on_ret hF
        obtain rfl := oi hF
        refine rT hf ?_
        exact ⟨_, rfl, H.bel, mk_bool⟩
       ·refine wp_skip (then_n (sq (reg (lN 0 hf H TF.la76 fun a hf => ?_))))
        refine sB 2 hf H TF.sz76 fun w H => ?_
        refine we (sqz (pz 2 hf fun a hf => ?_))
        refine wl_end (then_n (ib hR1 hf (fun hc11 hR1 => ?_) fun hc11 hR1 => ?_))
        ·refine sq ?_
         obtain ⟨c31, hGc31, hR1⟩ := bs_ hR1
         have fh3 := hf.prune [] rfl
         have Hm3 := H.lt_ [false, false, false, false] [] [false, false, false, false, false, false, false] []
         refine midF 2 (.bool c31) fh3 Hm3 ?_ fun a w hf H => ?_
         ·refine reg (pz 5 hf fun a hf => ?_)
          refine iteB hGc31 (fun hc12 hGc31 => ?_) fun hc12 hGc31 => ?_
          ·have hf := hf.lit 95 rfl hc12
           refine pz 1 hf fun a hf => ?_
           refine wlg hf rfl rfl rfl (op_q hf (rq_loadBN hf H TF.la45 2 rfl rfl rfl rfl) rfl (by decide) fun a hf => ?_)
           refine wlg hf rfl rfl rfl (op_q hf (rq_loadBN hf H TF.la45 1 rfl rfl rfl rfl) rfl (by decide) fun a hf => ?_)
           obtain ⟨y10, hy10, hGc31⟩ := bs_ hGc31
           refine wlg hf rfl rfl rfl (oC hf TF.cl42 (laws_vPlans_ok (S := TT) (Plan_mkv (x := y7.1.Plan) (H.rt 4 rfl) (H.rt 3 rfl) (H.rt 2 rfl)) (Plan_mkv (x := y5.1) (H.rt 12 rfl) (H.rt 11 rfl) (H.rt 10 rfl)) hy10) fun v20 w a hp20 hf => ?_)
           obtain ⟨hb9, hp20⟩ := hp20
           obtain rfl := VR_bool hp20
           have H := H.keep hb9
           refine pz 2 hf fun a hf => ?_
           obtain rfl := oi hGc31
           have hf := hf.pn [2]
           have H := H.lt_ [false, false, false, false] [] [false, false, false, false, false, false, false] []
           exact wl_end ⟨hf, H⟩
          ·have hf := hf.lit 95 rfl hc12
           refine pz 6 hf fun a hf => ?_
           obtain rfl := oi hGc31
           have hf := hf.pn [2]
           have H := H.lt_ [false, false, false, false] [] [false, false, false, false, false, false, false] []
           exact wl_end ⟨hf, H⟩
         refine then_n (wp_ret (then_r (blk_r (then_r (then_r (blk_r (then_r (then_r (?_)))))))))
         obtain rfl := oi hR1
         replace hF := on_ret hF
         obtain rfl := oi hF
         refine rT hf ?_
         exact ⟨_, rfl, H.bel, mk_bool⟩
        ·refine wp_skip (then_n (sqz (pz 2 hf fun a hf => ?_)))
         refine wl_end (then_n (ib hR1 hf (fun hc13 hR1 => ?_) fun hc13 hR1 => ?_))
         ·refine sq ?_
          obtain ⟨c32, hGc32, hR1⟩ := bs_ hR1
          have fh4 := hf.prune [] rfl
          have Hm4 := H.lt_ [false, false, false, false] [] [false, false, false, false, false, false, false] []
          refine midF 2 (.bool c32) fh4 Hm4 ?_ fun a w hf H => ?_
          ·refine reg (pz 5 hf fun a hf => ?_)
           refine iteB hGc32 (fun hc14 hGc32 => ?_) fun hc14 hGc32 => ?_
           ·have hf := hf.lit 107 rfl hc14
            refine pz 1 hf fun a hf => ?_
            refine wlg hf rfl rfl rfl (op_q hf (rq_loadBN hf H TF.la45 2 rfl rfl rfl rfl) rfl (by decide) fun a hf => ?_)
            refine wlg hf rfl rfl rfl (op_q hf (rq_loadBN hf H TF.la45 3 rfl rfl rfl rfl) rfl (by decide) fun a hf => ?_)
            obtain ⟨y11, hy11, hGc32⟩ := bs_ hGc32
            refine wlg hf rfl rfl rfl (oC hf TF.cl42 (laws_vPlans_ok (S := TT) (Plan_mkv (x := y7.1.Plan) (H.rt 4 rfl) (H.rt 3 rfl) (H.rt 2 rfl)) (Plan_mkv (x := y2.1) (H.rt 15 rfl) (H.rt 14 rfl) (H.rt 16 rfl)) hy11) fun v21 w a hp21 hf => ?_)
            obtain ⟨hb10, hp21⟩ := hp21
            obtain rfl := VR_bool hp21
            have H := H.keep hb10
            refine pz 2 hf fun a hf => ?_
            obtain rfl := oi hGc32
            have hf := hf.pn [2]
            have H := H.lt_ [false, false, false, false] [] [false, false, false, false, false, false, false] []
            exact wl_end ⟨hf, H⟩
           ·have hf := hf.lit 107 rfl hc14
            refine pz 6 hf fun a hf => ?_
            obtain rfl := oi hGc32
            have hf := hf.pn [2]
            have H := H.lt_ [false, false, false, false] [] [false, false, false, false, false, false, false] []
            exact wl_end ⟨hf, H⟩
          refine then_n (wp_ret (blk_r (then_r (then_r (blk_r (then_r (then_r (?_))))))))
          obtain rfl := oi hR1
          replace hF := on_ret hF
          obtain rfl := oi hF
          refine rT hf ?_
          exact ⟨_, rfl, H.bel, mk_bool⟩
         ·refine wp_skip (blk_n (then_n (reg (pz 3 hf fun a hf => ?_))))
          refine wl_end ?_
          have hf := hf.pn [3, 4, 5, 9, 10, 12]
          have H := H.lt_ [false, true, true, true] [] [false, true, true, true, true, true, true] [0, 1, 2, 3, 4, 10, 11, 12, 13, 14, 15, 16]
          exact then_n ⟨(w64 (steps + 1), y7.1.Plan.Network.Nodes, y7.1.Plan.Network.Fibers, y7.1.Plan.Lights, y7.1.Actions, y7.1.Undo, y7.1.Back), hR1, A24, c25, A25, c26, A26, c27, A27, c28, A28, c29, hf, H⟩
      ·refine wp_exit (then_x (then_x (blk_e (?_))))
       have hf := hf.pn [3, 4, 5, 9, 10, 12]
       have H := H.lt_ [true, true, true] [] [true, true, true, true, true, true] [0, 1, 2, 3, 4, 5, 6, 7, 8, 9, 10, 11]
       exact ⟨(steps, m, m2, m3, m4, m5, m6), (Option.some.inj hR1).symm, A19, c20, A20, c21, A21, c22, A22, c23, A23, c24, hf, H⟩
     rintro a w ⟨⟨steps2, m7, m8, m9, m10, m11, m12⟩, rfl, A29, c33, A30, c34, A31, c35, A32, c36, A33, c37, hf, H⟩
     replace hF := on_next hF
     try dsimp only at hF
     refine then_n (sqz (pz 1 hf fun a hf => ?_))
     refine wer ?_
     obtain rfl := oi hF
     refine rT hf ?_
     exact ⟨_, rfl, H.bel, mk_bool⟩
end AT
