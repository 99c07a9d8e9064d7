/- The Go functions do what is told of them, by program (gen.py). -/
import Derived.Test.YtiedecncmihbeaaGreatWFnLights1
set_option linter.unusedVariables false
set_option linter.unusedSimpArgs false
set_option maxRecDepth 100000
set_option maxHeartbeats 1000000
namespace AT
open Go Go.RowKit Go.Proofs
variable {fu : Nat} {w0 : World}

/- (*loop.example/g00897/spec.l1Cur).light -/
theorem spec_l1Cur_light_ok {S : Nat → Prop} {b0 : Nat} {cs0 : List Value} {v1_ : Value} {c : L1CurP} {p : Plan} {r : Light × L1CurP} (hp0 : w0.heap[b0]? = some (.cells cs0.toArray 160 (0, 0))) (hr0 : GoTy.rep w0 S cs0 c) (hS0 : ¬ S b0) (h1 : VR w0 S v1_ p) (hF : spec_l1Cur_light fu c p = some r) :
    Calls Tryz.prog 158 [(.pointer (some ⟨b0, 0, none⟩)), v1_].toArray w0 fun e w' => ∃ v, e = .returned v ∧ (Chg w0 w' [b0] ∧ ∃ cs', w'.heap[b0]? = some (.cells cs'.toArray 160 (0, 0)) ∧ GoTy.rep w' (St ⟨w0, [b0]⟩ S [⟨b0, 160, cs'⟩] [] [] false) cs' r.2 ∧ (cs'[0]? = cs0[0]? ∧ r.2.code = c.code) ∧ ∃ F0, VO w' F0 v r.1 ∧ New w0 w' F0) := by
 obtain ⟨A, c2, rfl, hl⟩ := L1CurP_cells hr0
 obtain ⟨A2, c3, A3, c4, A4, c5, rfl, hl2, hl3, hl4⟩ := Plan_open h1
 have H := Mem.startB S hp0
 have H := H.argB (by simpa using hS0) (p := MP.val [(.slice A c.code.length c2)] c.code) hl
 have H := H.argB (by simpa using hS0) (p := MP.val [(.slice A2 p.Network.Nodes.length c3)] p.Network.Nodes) hl2
 have H := H.argB (by simpa using hS0) (p := MP.val [(.slice A3 p.Network.Fibers.length c4)] p.Network.Fibers) hl3
 have H := H.argB (by simpa using hS0) (p := MP.val [(.slice A4 p.Lights.length c5)] p.Lights) hl4
 refine en Tryz.func158 fun a hf => ?_
 rw [spec_l1Cur_light] at hF
 refine sq (reg (wl0 rfl (op_box hf H rfl rfl (by decide) fun b' a w hf H => ?_)))
 refine wl0 rfl (op_alloc hf H TF.zv52 rfl (by decide) fun b2 a w hf H => ?_)
 refine wl_end (then_n (sq (drawn [11] (bs := [false, false, false, false, false, false, false, false, false, false, false, false]) (fuel := 12) (Checked.mixed Tryz.checked) rfl rfl fun w hb => ?_)))
 have H := H.keep hb
 refine zp 0 hf trivial fun a hf => ?_
 refine zp 3 hf trivial fun a hf => ?_
 refine zp 4 hf trivial fun a hf => ?_
 refine strT (H.let [false, true, false] [] [] [] rfl rfl rfl rfl) (fun w H => trivial) fun hS => ?_
 refine tS 5 [5, 6, 8, 9, 11] rfl rfl rfl rfl hf (by kernel_rfl) (by kernel_rfl) hS (fun w H => rq_loadBN hf H TF.la42 0 rfl rfl rfl rfl) fun a hf => ?_
 refine zp 7 hf hS fun a hf => ?_
 refine on2 (i := 1) (j := 10) (bi := [true, true, false, true, true, true, false, true, false, false, false, false]) (bj := [true, false, false, true, true, true, false, true, false, false, true, false]) (by kernel_rfl) rfl rfl rfl rfl rfl rfl ?_ ?_
 ·refine (op_bslice hf H (.sh true) rfl 3 ([30, 31, 1, 2, 4, 5, 999] : List Int) [(.int .i64 30), (.int .i64 31), (.int .i64 1), (.int .i64 2), (.int .i64 4), (.int .i64 5), (.int .i64 999)] rfl (fun w => by kernel_rfl) rfl (by decide) rfl trivial (elI [30, 31, 1, 2, 4, 5, 999]) (by decide) fun A5 a w hf H => ?_)
  have hS := H.lt_ [false, true, false] [false] [] []
  refine ⟨fun _ => hS, ?_⟩
  refine on2 (i := 2) (j := 10) (bi := [true, true, true, true, true, true, false, true, false, false, false, false]) (bj := [true, true, false, true, true, true, false, true, false, false, true, false]) (by kernel_rfl) rfl rfl rfl rfl rfl rfl ?_ ?_
  ·have H := H.freeze 0 rfl
   obtain ⟨y, hy, hF⟩ := bind_some hF
   refine (op_call hf TF.cl179 rfl (by decide) (spec_l1Cur_among_ok (S := St ⟨w0, [b0]⟩ S [⟨b2, 52, [(.int .i64 0), (.int .i64 0), (.slice none 0 0), (.int .i64 0), (.int .i64 0)]⟩, ⟨b', 45, [(.slice A2 p.Network.Nodes.length c3), (.slice A3 p.Network.Fibers.length c4), (.slice A4 p.Lights.length c5)]⟩, ⟨b0, 160, [(.slice A c.code.length c2), (.int .i64 c.at_), (.int .u64 c.seed.n)]⟩] [] [] false) (H.boxAt 2 rfl) ((L1CurP_mk (x := c) (H.get 4 rfl))) (H.notSt 2 rfl _) (mk_list (rep_weak (α := List Int) (H.get 0 rfl))) hy) fun v w a hp hf => ?_)
   obtain ⟨hch, cs, hbx, hr, ⟨hx, hx2⟩, hs⟩ := hp
   obtain rfl := VR_int hs
   obtain ⟨A6, c6, rfl, hl5⟩ := L1CurP_cells hr
   obtain ⟨rfl, rfl⟩ := fx_slice hx rfl rfl
   have H := H.wroteBox 2 rfl hch hbx
   have H := H.push (false, MP.val [(.slice A y.2.code.length c2)] (y.2.code : List By)) (by rw [hx2]; exact H.get 4 rfl)
   have hS := H.lt_ [false, true, false] [] [] []
   refine ⟨fun _ => hS, ?_⟩
   refine on2 (i := 6) (j := 10) (bi := [true, true, true, true, true, true, true, true, false, false, false, false]) (bj := [true, true, true, true, true, true, false, true, false, false, true, false]) (by kernel_rfl) rfl rfl rfl rfl rfl rfl ?_ ?_
   ·obtain ⟨y2, hy2, hF⟩ := bind_some hF
    refine (op_call hf TF.cl181 rfl (by decide) (spec_l1Cur_anyRoute_ok (S := St ⟨w0, [b0]⟩ S [⟨b2, 52, [(.int .i64 0), (.int .i64 0), (.slice none 0 0), (.int .i64 0), (.int .i64 0)]⟩, ⟨b', 45, [(.slice A2 p.Network.Nodes.length c3), (.slice A3 p.Network.Fibers.length c4), (.slice A4 p.Lights.length c5)]⟩, ⟨b0, 160, [(.slice A y.2.code.length c2), (.int .i64 y.2.at_), (.int .u64 y.2.seed.n)]⟩] [] [] false) (H.boxAt 2 rfl) ((L1CurP_mk (x := y.2) (H.get 0 rfl))) (H.notSt 2 rfl _) (Network_mkv (x := p.Network) (H.get 4 rfl) (H.get 3 rfl)) hy2) fun v2 w a hp2 hf => ?_)
    obtain ⟨hch2, cs2, hbx2, hr2, ⟨hx3, hx4⟩, hs2⟩ := hp2
    obtain ⟨F, hp3, hN⟩ := hs2
    obtain ⟨A7, c7, F2, rfl, rfl, hl6⟩ := Route_vo hp3
    obtain ⟨A8, c8, rfl, hl7⟩ := L1CurP_cells hr2
    obtain ⟨rfl, rfl⟩ := fx_slice hx3 rfl rfl
    have hx5 := hx4.trans hx2
    have H := H.wroteBoxO 2 rfl hch2 hbx2 (X := [(⟨F2, MP.own F2 [(.slice A7 y2.1.Fibers.length c7)] (y2.1.Fibers : List Int)⟩ : DI)]) (by simpa using hN.1) (ps1 hl6 ps0) (by simpa using hN.2)
    have H := H.push (false, MP.val [(.slice A y2.2.code.length c2)] (y2.2.code : List By)) (by rw [hx4]; exact H.get 0 rfl)
    have H := H.lend 0 rfl
    have hS := H.lt_ [false, true, false] [] [false] []
    refine ⟨fun _ => hS, ?_⟩
    refine on2 (i := 8) (j := 10) (bi := [true, true, true, true, true, true, true, true, true, false, false, false]) (bj := [true, true, true, true, true, true, true, true, false, false, true, false]) (by kernel_rfl) rfl rfl rfl rfl rfl rfl ?_ ?_
    ·obtain ⟨y3, hy3, hF⟩ := bind_some hF
     refine (op_call hf TF.cl180 rfl (by decide) (spec_l1Cur_block_ok (S := St ⟨w0, [b0]⟩ S [⟨b2, 52, [(.int .i64 0), (.int .i64 0), (.slice none 0 0), (.int .i64 0), (.int .i64 0)]⟩, ⟨b', 45, [(.slice A2 p.Network.Nodes.length c3), (.slice A3 p.Network.Fibers.length c4), (.slice A4 p.Lights.length c5)]⟩, ⟨b0, 160, [(.slice A y2.2.code.length c2), (.int .i64 y2.2.at_), (.int .u64 y2.2.seed.n)]⟩] [] [⟨F2, MP.own F2 [(.slice A7 y2.1.Fibers.length c7)] (y2.1.Fibers : List Int)⟩] false) (H.boxAt 2 rfl) ((L1CurP_mk (x := y2.2) (H.get 1 rfl))) (H.notSt 2 rfl _) hy3) fun v3 w a hp4 hf => ?_)
     obtain ⟨hch3, cs3, hbx3, hr3, ⟨hx6, hx7⟩, hs3⟩ := hp4
     obtain rfl := Block_open hs3
     obtain ⟨A9, c9, rfl, hl8⟩ := L1CurP_cells hr3
     obtain ⟨rfl, rfl⟩ := fx_slice hx6 rfl rfl
     have hx8 := hx7.trans hx5
     have H := H.wroteBox 2 rfl hch3 hbx3
     have H := H.push (false, MP.val [(.slice A y3.2.code.length c2)] (y3.2.code : List By)) (by rw [hx7]; exact H.get 1 rfl)
     have hS := H.lt_ [false, true, false] [] [false] []
     refine ⟨fun _ => hS, ?_⟩
     refine tP 9 rfl rfl rfl rfl hf (by kernel_rfl) (fun _ => hS) (fun w => rq_build hf (cs := [(.int .i64 y.1), (.int .i64 y2.1.Start), (.slice A7 y2.1.Fibers.length c7), (.int .i64 y3.1.First), (.int .i64 y3.1.Count)]) rfl (fun w => by kernel_rfl)) fun a hf => ?_
     refine n1 10 (by kernel_rfl) rfl rfl (op_alloc hf H TF.zv52 rfl (by decide) fun b3 a w hf H => ?_)
     have hS := H.lt_ [false, false, true, false] [] [false] []
     refine ⟨fun _ => hS, ?_⟩
     refine n1 11 (by kernel_rfl) rfl rfl (op_storeB hf H 0 TF.sz52 rfl rfl rfl rfl rfl rfl (nle rfl) fun w H => ?_)
     refine ⟨fun h => absurd h (by decide), ?_⟩
     refine dn (by kernel_rfl) ?_
     refine then_n (sq (sqz (pz 1 hf fun a hf => ?_)))
     obtain ⟨y4, hy4, hF⟩ := bind_some hF
     refine oc hf TF.cl183 (spec_l1Cur_one_ok (S := St ⟨w0, [b0]⟩ S [⟨b3, 52, [(.int .i64 y.1), (.int .i64 y2.1.Start), (.slice A7 y2.1.Fibers.length c7), (.int .i64 y3.1.First), (.int .i64 y3.1.Count)]⟩, ⟨b2, 52, [(.int .i64 0), (.int .i64 0), (.slice none 0 0), (.int .i64 0), (.int .i64 0)]⟩, ⟨b', 45, [(.slice A2 p.Network.Nodes.length c3), (.slice A3 p.Network.Fibers.length c4), (.slice A4 p.Lights.length c5)]⟩, ⟨b0, 160, [(.slice A y3.2.code.length c2), (.int .i64 y3.2.at_), (.int .u64 y3.2.seed.n)]⟩] [] [⟨F2, MP.own F2 [(.slice A7 y2.1.Fibers.length c7)] (y2.1.Fibers : List Int)⟩] false) (H.boxAt 3 rfl) ((L1CurP_mk (x := y3.2) (H.get 0 rfl))) (H.notSt 3 rfl _) mk_int hy4) fun v4 w a hp5 hf => ?_
     obtain ⟨hch4, cs4, hbx4, hr4, ⟨hx9, hx10⟩, hs4⟩ := hp5
     obtain rfl := VR_bool hs4
     obtain ⟨A10, c10, rfl, hl9⟩ := L1CurP_cells hr4
     obtain ⟨rfl, rfl⟩ := fx_slice hx9 rfl rfl
     have hx11 := hx10.trans hx8
     have H := H.wroteBox 3 rfl hch4 hbx4
     have H := H.push (false, MP.val [(.slice A y4.2.code.length c2)] (y4.2.code : List By)) (by rw [hx10]; exact H.get 0 rfl)
     have hf := hf.pn [0, 4, 5, 17]
     refine wl_end (then_n (ib hF hf (fun hc hF => ?_) fun hc hF => ?_))
     ·refine reg (pz 1 hf fun a hf => ?_)
      refine wl0 rfl (op_bslice hf H (.sh true) rfl 3 ([0, 1000] : List Int) [(.int .i64 0), (.int .i64 1000)] rfl (fun w => by kernel_rfl) rfl (by decide) rfl trivial (elI [0, 1000]) (by decide) fun A11 a w hf H => ?_)
      have H := H.freeze 0 rfl
      obtain ⟨y5, hy5, hF⟩ := bind_some hF
      refine oc hf TF.cl179 (spec_l1Cur_among_ok (S := St ⟨w0, [b0]⟩ S [⟨b3, 52, [(.int .i64 y.1), (.int .i64 y2.1.Start), (.slice A7 y2.1.Fibers.length c7), (.int .i64 y3.1.First), (.int .i64 y3.1.Count)]⟩, ⟨b2, 52, [(.int .i64 0), (.int .i64 0), (.slice none 0 0), (.int .i64 0), (.int .i64 0)]⟩, ⟨b', 45, [(.slice A2 p.Network.Nodes.length c3), (.slice A3 p.Network.Fibers.length c4), (.slice A4 p.Lights.length c5)]⟩, ⟨b0, 160, [(.slice A y4.2.code.length c2), (.int .i64 y4.2.at_), (.int .u64 y4.2.seed.n)]⟩] [] [⟨F2, MP.own F2 [(.slice A7 y2.1.Fibers.length c7)] (y2.1.Fibers : List Int)⟩] false) (H.boxAt 3 rfl) ((L1CurP_mk (x := y4.2) (H.get 1 rfl))) (H.notSt 3 rfl _) (mk_list (rep_weak (α := List Int) (H.get 0 rfl))) hy5) fun v5 w a hp6 hf => ?_
      obtain ⟨hch5, cs5, hbx5, hr5, ⟨hx12, hx13⟩, hs5⟩ := hp6
      obtain rfl := VR_int hs5
      obtain ⟨A12, c11, rfl, hl10⟩ := L1CurP_cells hr5
      obtain ⟨rfl, rfl⟩ := fx_slice hx12 rfl rfl
      have hx14 := hx13.trans hx11
      have H := H.wroteBox 3 rfl hch5 hbx5
      have H := H.push (false, MP.val [(.slice A y5.2.code.length c2)] (y5.2.code : List By)) (by rw [hx13]; exact H.get 1 rfl)
      refine pz 1 hf fun a hf => ?_
      refine wl0 rfl (op_storeB hf H 0 TF.sz3 rfl rfl rfl rfl rfl rfl (nle rfl) fun w H => ?_)
      refine wr (oq hf (rq_loadBN hf H TF.la52 0 rfl rfl rfl rfl) fun a hf => ?_)
      refine wl0 rfl (op_storeB hf H 1 TF.sz52 rfl rfl rfl rfl rfl rfl (nle rfl) fun w H => ?_)
      refine wl_end (then_n (wp_ret (?_)))
      obtain rfl := Option.some.inj hF
      refine ret_1 (fn := Tryz.f158) (r := .cell 4 52) hf rfl (rv_cellN hf H 1 TF.la52 rfl rfl rfl) ?_
      have hN := H.endsB (X := [(⟨F2, MP.own F2 [(.slice A7 y2.1.Fibers.length c7)] (y2.1.Fibers : List Int)⟩ : DI)]) 3 rfl
      simp only [List.flatMap_cons, List.flatMap_nil, List.append_nil, List.append_assoc] at hN
      exact ⟨_, rfl, H.chg, _, H.boxAt 3 rfl, (L1CurP_mk (x := y5.2) (rep_endB (M := _) (i := 3) rfl (α := List By) (H.get 0 rfl))), ⟨congrArg (fun l => some (Value.slice A (List.length l) c2)) hx14, hx14⟩, F2, ⟨_, Light_ownmk (x := ({ Id := y5.1, Route := y2.1, Block := y3.1 } : Light)) (H.ownAt 0 rfl), rfl⟩, by first | exact hN | simpa using hN⟩
     ·refine wp_skip (then_n (sq (reg (oq hf (rq_loadBN hf H TF.la52 0 rfl rfl rfl rfl) fun a hf => ?_))))
      refine wl0 rfl (op_storeB hf H 1 TF.sz52 rfl rfl rfl rfl rfl rfl (nle rfl) fun w H => ?_)
      refine wl_end (then_n (wp_ret (?_)))
      obtain rfl := Option.some.inj hF
      refine ret_1 (fn := Tryz.f158) (r := .cell 4 52) hf rfl (rv_cellN hf H 1 TF.la52 rfl rfl rfl) ?_
      have hN := H.endsB (X := [(⟨F2, MP.own F2 [(.slice A7 y2.1.Fibers.length c7)] (y2.1.Fibers : List Int)⟩ : DI)]) 3 rfl
      simp only [List.flatMap_cons, List.flatMap_nil, List.append_nil, List.append_assoc] at hN
      exact ⟨_, rfl, H.chg, _, H.boxAt 3 rfl, (L1CurP_mk (x := y4.2) (rep_endB (M := _) (i := 3) rfl (α := List By) (H.get 0 rfl))), ⟨congrArg (fun l => some (Value.slice A (List.length l) c2)) hx11, hx11⟩, F2, ⟨_, Light_ownmk (x := ({ Id := y.1, Route := y2.1, Block := y3.1 } : Light)) (H.ownAt 0 rfl), rfl⟩, by first | exact hN | simpa using hN⟩
    ·refine (op_alloc hf H TF.zv52 rfl (by decide) fun b3 a w hf H => ?_)
     have hS := H.lt_ [false, false, true, false] [] [false] []
     refine ⟨fun _ => hS, ?_⟩
     obtain ⟨y3, hy3, hF⟩ := bind_some hF
     refine n1 8 (by kernel_rfl) rfl rfl (op_call hf TF.cl180 rfl (by decide) (spec_l1Cur_block_ok (S := St ⟨w0, [b0]⟩ S [⟨b3, 52, [(.int .i64 0), (.int .i64 0), (.slice none 0 0), (.int .i64 0), (.int .i64 0)]⟩, ⟨b2, 52, [(.int .i64 0), (.int .i64 0), (.slice none 0 0), (.int .i64 0), (.int .i64 0)]⟩, ⟨b', 45, [(.slice A2 p.Network.Nodes.length c3), (.slice A3 p.Network.Fibers.length c4), (.slice A4 p.Lights.length c5)]⟩, ⟨b0, 160, [(.slice A y2.2.code.length c2), (.int .i64 y2.2.at_), (.int .u64 y2.2.seed.n)]⟩] [] [⟨F2, MP.own F2 [(.slice A7 y2.1.Fibers.length c7)] (y2.1.Fibers : List Int)⟩] false) (H.boxAt 3 rfl) ((L1CurP_mk (x := y2.2) (H.get 1 rfl))) (H.notSt 3 rfl _) hy3) fun v3 w a hp4 hf => ?_)
     obtain ⟨hch3, cs3, hbx3, hr3, ⟨hx6, hx7⟩, hs3⟩ := hp4
     obtain rfl := Block_open hs3
     obtain ⟨A9, c9, rfl, hl8⟩ := L1CurP_cells hr3
     obtain ⟨rfl, rfl⟩ := fx_slice hx6 rfl rfl
     have hx8 := hx7.trans hx5
     have H := H.wroteBox 3 rfl hch3 hbx3
     have H := H.push (false, MP.val [(.slice A y3.2.code.length c2)] (y3.2.code : List By)) (by rw [hx7]; exact H.get 1 rfl)
     have hS := H.lt_ [false, false, true, false] [] [false] []
     refine ⟨fun _ => hS, ?_⟩
     refine tP 9 rfl rfl rfl rfl hf (by kernel_rfl) (fun _ => hS) (fun w => rq_build hf (cs := [(.int .i64 y.1), (.int .i64 y2.1.Start), (.slice A7 y2.1.Fibers.length c7), (.int .i64 y3.1.First), (.int .i64 y3.1.Count)]) rfl (fun w => by kernel_rfl)) fun a hf => ?_
     refine n1 11 (by kernel_rfl) rfl rfl (op_storeB hf H 0 TF.sz52 rfl rfl rfl rfl rfl rfl (nle rfl) fun w H => ?_)
     refine ⟨fun h => absurd h (by decide), ?_⟩
     refine dn (by kernel_rfl) ?_
     refine then_n (sq (sqz (pz 1 hf fun a hf => ?_)))
     obtain ⟨y4, hy4, hF⟩ := bind_some hF
     refine oc hf TF.cl183 (spec_l1Cur_one_ok (S := St ⟨w0, [b0]⟩ S [⟨b3, 52, [(.int .i64 y.1), (.int .i64 y2.1.Start), (.slice A7 y2.1.Fibers.length c7), (.int .i64 y3.1.First), (.int .i64 y3.1.Count)]⟩, ⟨b2, 52, [(.int .i64 0), (.int .i64 0), (.slice none 0 0), (.int .i64 0), (.int .i64 0)]⟩, ⟨b', 45, [(.slice A2 p.Network.Nodes.length c3), (.slice A3 p.Network.Fibers.length c4), (.slice A4 p.Lights.length c5)]⟩, ⟨b0, 160, [(.slice A y3.2.code.length c2), (.int .i64 y3.2.at_), (.int .u64 y3.2.seed.n)]⟩] [] [⟨F2, MP.own F2 [(.slice A7 y2.1.Fibers.length c7)] (y2.1.Fibers : List Int)⟩] false) (H.boxAt 3 rfl) ((L1CurP_mk (x := y3.2) (H.get 0 rfl))) (H.notSt 3 rfl _) mk_int hy4) fun v4 w a hp5 hf => ?_
     obtain ⟨hch4, cs4, hbx4, hr4, ⟨hx9, hx10⟩, hs4⟩ := hp5
     obtain rfl := VR_bool hs4
     obtain ⟨A10, c10, rfl, hl9⟩ := L1CurP_cells hr4
     obtain ⟨rfl, rfl⟩ := fx_slice hx9 rfl rfl
     have hx11 := hx10.trans hx8
     have H := H.wroteBox 3 rfl hch4 hbx4
     have H := H.push (false, MP.val [(.slice A y4.2.code.length c2)] (y4.2.code : List By)) (by rw [hx10]; exact H.get 0 rfl)
     have hf := hf.pn [0, 4, 5, 17]
     refine wl_end (then_n (ib hF hf (fun hc hF => ?_) fun hc hF => ?_))
     ·refine reg (pz 1 hf fun a hf => ?_)
      refine wl0 rfl (op_bslice hf H (.sh true) rfl 3 ([0, 1000] : List Int) [(.int .i64 0), (.int .i64 1000)] rfl (fun w => by kernel_rfl) rfl (by decide) rfl trivial (elI [0, 1000]) (by decide) fun A11 a w hf H => ?_)
      have H := H.freeze 0 rfl
      obtain ⟨y5, hy5, hF⟩ := bind_some hF
      refine oc hf TF.cl179 (spec_l1Cur_among_ok (S := St ⟨w0, [b0]⟩ S [⟨b3, 52, [(.int .i64 y.1), (.int .i64 y2.1.Start), (.slice A7 y2.1.Fibers.length c7), (.int .i64 y3.1.First), (.int .i64 y3.1.Count)]⟩, ⟨b2, 52, [(.int .i64 0), (.int .i64 0), (.slice none 0 0), (.int .i64 0), (.int .i64 0)]⟩, ⟨b', 45, [(.slice A2 p.Network.Nodes.length c3), (.slice A3 p.Network.Fibers.length c4), (.slice A4 p.Lights.length c5)]⟩, ⟨b0, 160, [(.slice A y4.2.code.length c2), (.int .i64 y4.2.at_), (.int .u64 y4.2.seed.n)]⟩] [] [⟨F2, MP.own F2 [(.slice A7 y2.1.Fibers.length c7)] (y2.1.Fibers : List Int)⟩] false) (H.boxAt 3 rfl) ((L1CurP_mk (x := y4.2) (H.get 1 rfl))) (H.notSt 3 rfl _) (mk_list (rep_weak (α := List Int) (H.get 0 rfl))) hy5) fun v5 w a hp6 hf => ?_
      obtain ⟨hch5, cs5, hbx5, hr5, ⟨hx12, hx13⟩, hs5⟩ := hp6
      obtain rfl := VR_int hs5
      obtain ⟨A12, c11, rfl, hl10⟩ := L1CurP_cells hr5
      obtain ⟨rfl, rfl⟩ := fx_slice hx12 rfl rfl
      have hx14 := hx13.trans hx11
      have H := H.wroteBox 3 rfl hch5 hbx5
      have H := H.push (false, MP.val [(.slice A y5.2.code.length c2)] (y5.2.code : List By)) (by rw [hx13]; exact H.get 1 rfl)
      refine pz 1 hf fun a hf => ?_
      refine wl0 rfl (op_storeB hf H 0 TF.sz3 rfl rfl rfl rfl rfl rfl (nle rfl) fun w H => ?_)
      refine wr (oq hf (rq_loadBN hf H TF.la52 0 rfl rfl rfl rfl) fun a hf => ?_)
      refine wl0 rfl (op_storeB hf H 1 TF.sz52 rfl rfl rfl rfl rfl rfl (nle rfl) fun w H => ?_)
      refine wl_end (then_n (wp_ret (?_)))
      obtain rfl := Option.some.inj hF
      refine ret_1 (fn := Tryz.f158) (r := .cell 4 52) hf rfl (rv_cellN hf H 1 TF.la52 rfl rfl rfl) ?_
      have hN := H.endsB (X := [(⟨F2, MP.own F2 [(.slice A7 y2.1.Fibers.length c7)] (y2.1.Fibers : List Int)⟩ : DI)]) 3 rfl
      simp only [List.flatMap_cons, List.flatMap_nil, List.append_nil, List.append_assoc] at hN
      exact ⟨_, rfl, H.chg, _, H.boxAt 3 rfl, (L1CurP_mk (x := y5.2) (rep_endB (M := _) (i := 3) rfl (α := List By) (H.get 0 rfl))), ⟨congrArg (fun l => some (Value.slice A (List.length l) c2)) hx14, hx14⟩, F2, ⟨_, Light_ownmk (x := ({ Id := y5.1, Route := y2.1, Block := y3.1 } : Light)) (H.ownAt 0 rfl), rfl⟩, by first | exact hN | simpa using hN⟩
     ·refine wp_skip (then_n (sq (reg (oq hf (rq_loadBN hf H TF.la52 0 rfl rfl rfl rfl) fun a hf => ?_))))
      refine wl0 rfl (op_storeB hf H 1 TF.sz52 rfl rfl rfl rfl rfl rfl (nle rfl) fun w H => ?_)
      refine wl_end (then_n (wp_ret (?_)))
      obtain rfl := Option.some.inj hF
      refine ret_1 (fn := Tryz.f158) (r := .cell 4 52) hf rfl (rv_cellN hf H 1 TF.la52 rfl rfl rfl) ?_
      have hN := H.endsB (X := [(⟨F2, MP.own F2 [(.slice A7 y2.1.Fibers.length c7)] (y2.1.Fibers : List Int)⟩ : DI)]) 3 rfl
      simp only [List.flatMap_cons, List.flatMap_nil, List.append_nil, List.append_assoc] at hN
      exact ⟨_, rfl, H.chg, _, H.boxAt 3 rfl, (L1CurP_mk (x := y4.2) (rep_endB (M := _) (i := 3) rfl (α := List By) (H.get 0 rfl))), ⟨congrArg (fun l => some (Value.slice A (List.length l) c2)) hx11, hx11⟩, F2, ⟨_, Light_ownmk (x := ({ Id := y.1, Route := y2.1, Block := y3.1 } : Light)) (H.ownAt 0 rfl), rfl⟩, by first | exact hN | simpa using hN⟩
   ·refine (op_alloc hf H TF.zv52 rfl (by decide) fun b3 a w hf H => ?_)
    have hS := H.lt_ [false, false, true, false] [] [] []
    refine ⟨fun _ => hS, ?_⟩
    obtain ⟨y2, hy2, hF⟩ := bind_some hF
    refine n1 6 (by kernel_rfl) rfl rfl (op_call hf TF.cl181 rfl (by decide) (spec_l1Cur_anyRoute_ok (S := St ⟨w0, [b0]⟩ S [⟨b3, 52, [(.int .i64 0), (.int .i64 0), (.slice none 0 0), (.int .i64 0), (.int .i64 0)]⟩, ⟨b2, 52, [(.int .i64 0), (.int .i64 0), (.slice none 0 0), (.int .i64 0), (.int .i64 0)]⟩, ⟨b', 45, [(.slice A2 p.Network.Nodes.length c3), (.slice A3 p.Network.Fibers.length c4), (.slice A4 p.Lights.length c5)]⟩, ⟨b0, 160, [(.slice A y.2.code.length c2), (.int .i64 y.2.at_), (.int .u64 y.2.seed.n)]⟩] [] [] false) (H.boxAt 3 rfl) ((L1CurP_mk (x := y.2) (H.get 0 rfl))) (H.notSt 3 rfl _) (Network_mkv (x := p.Network) (H.get 4 rfl) (H.get 3 rfl)) hy2) fun v2 w a hp2 hf => ?_)
    obtain ⟨hch2, cs2, hbx2, hr2, ⟨hx3, hx4⟩, hs2⟩ := hp2
    obtain ⟨F, hp3, hN⟩ := hs2
    obtain ⟨A7, c7, F2, rfl, rfl, hl6⟩ := Route_vo hp3
    obtain ⟨A8, c8, rfl, hl7⟩ := L1CurP_cells hr2
    obtain ⟨rfl, rfl⟩ := fx_slice hx3 rfl rfl
    have hx5 := hx4.trans hx2
    have H := H.wroteBoxO 3 rfl hch2 hbx2 (X := [(⟨F2, MP.own F2 [(.slice A7 y2.1.Fibers.length c7)] (y2.1.Fibers : List Int)⟩ : DI)]) (by simpa using hN.1) (ps1 hl6 ps0) (by simpa using hN.2)
    have H := H.push (false, MP.val [(.slice A y2.2.code.length c2)] (y2.2.code : List By)) (by rw [hx4]; exact H.get 0 rfl)
    have H := H.lend 0 rfl
    have hS := H.lt_ [false, false, true, false] [] [false] []
    refine ⟨fun _ => hS, ?_⟩
    obtain ⟨y3, hy3, hF⟩ := bind_some hF
    refine n1 8 (by kernel_rfl) rfl rfl (op_call hf TF.cl180 rfl (by decide) (spec_l1Cur_block_ok (S := St ⟨w0, [b0]⟩ S [⟨b3, 52, [(.int .i64 0), (.int .i64 0), (.slice none 0 0), (.int .i64 0), (.int .i64 0)]⟩, ⟨b2, 52, [(.int .i64 0), (.int .i64 0), (.slice none 0 0), (.int .i64 0), (.int .i64 0)]⟩, ⟨b', 45, [(.slice A2 p.Network.Nodes.length c3), (.slice A3 p.Network.Fibers.length c4), (.slice A4 p.Lights.length c5)]⟩, ⟨b0, 160, [(.slice A y2.2.code.length c2), (.int .i64 y2.2.at_), (.int .u64 y2.2.seed.n)]⟩] [] [⟨F2, MP.own F2 [(.slice A7 y2.1.Fibers.length c7)] (y2.1.Fibers : List Int)⟩] false) (H.boxAt 3 rfl) ((L1CurP_mk (x := y2.2) (H.get 1 rfl))) (H.notSt 3 rfl _) hy3) fun v3 w a hp4 hf => ?_)
    obtain ⟨hch3, cs3, hbx3, hr3, ⟨hx6, hx7⟩, hs3⟩ := hp4
    obtain rfl := Block_open hs3
    obtain ⟨A9, c9, rfl, hl8⟩ := L1CurP_cells hr3
    obtain ⟨rfl, rfl⟩ := fx_slice hx6 rfl rfl
    have hx8 := hx7.trans hx5
    have H := H.wroteBox 3 rfl hch3 hbx3
    have H := H.push (false, MP.val [(.slice A y3.2.code.length c2)] (y3.2.code : List By)) (by rw [hx7]; exact H.get 1 rfl)
    have hS := H.lt_ [false, false, true, false] [] [false] []
    refine ⟨fun _ => hS, ?_⟩
    refine tP 9 rfl rfl rfl rfl hf (by kernel_rfl) (fun _ => hS) (fun w => rq_build hf (cs := [(.int .i64 y.1), (.int .i64 y2.1.Start), (.slice A7 y2.1.Fibers.length c7), (.int .i64 y3.1.First), (.int .i64 y3.1.Count)]) rfl (fun w => by kernel_rfl)) fun a hf => ?_
    refine n1 11 (by kernel_rfl) rfl rfl (op_storeB hf H 0 TF.sz52 rfl rfl rfl rfl rfl rfl (nle rfl) fun w H => ?_)
    refine ⟨fun h => absurd h (by decide), ?_⟩
    refine dn (by kernel_rfl) ?_
    refine then_n (sq (sqz (pz 1 hf fun a hf => ?_)))
    obtain ⟨y4, hy4, hF⟩ := bind_some hF
    refine oc hf TF.cl183 (spec_l1Cur_one_ok (S := St ⟨w0, [b0]⟩ S [⟨b3, 52, [(.int .i64 y.1), (.int .i64 y2.1.Start), (.slice A7 y2.1.Fibers.length c7), (.int .i64 y3.1.First), (.int .i64 y3.1.Count)]⟩, ⟨b2, 52, [(.int .i64 0), (.int .i64 0), (.slice none 0 0), (.int .i64 0), (.int .i64 0)]⟩, ⟨b', 45, [(.slice A2 p.Network.Nodes.length c3), (.slice A3 p.Network.Fibers.length c4), (.slice A4 p.Lights.length c5)]⟩, ⟨b0, 160, [(.slice A y3.2.code.length c2), (.int .i64 y3.2.at_), (.int .u64 y3.2.seed.n)]⟩] [] [⟨F2, MP.own F2 [(.slice A7 y2.1.Fibers.length c7)] (y2.1.Fibers : List Int)⟩] false) (H.boxAt 3 rfl) ((L1CurP_mk (x := y3.2) (H.get 0 rfl))) (H.notSt 3 rfl _) mk_int hy4) fun v4 w a hp5 hf => ?_
    obtain ⟨hch4, cs4, hbx4, hr4, ⟨hx9, hx10⟩, hs4⟩ := hp5
    obtain rfl := VR_bool hs4
    obtain ⟨A10, c10, rfl, hl9⟩ := L1CurP_cells hr4
    obtain ⟨rfl, rfl⟩ := fx_slice hx9 rfl rfl
    have hx11 := hx10.trans hx8
    have H := H.wroteBox 3 rfl hch4 hbx4
    have H := H.push (false, MP.val [(.slice A y4.2.code.length c2)] (y4.2.code : List By)) (by rw [hx10]; exact H.get 0 rfl)
    have hf := hf.pn [0, 4, 5, 17]
    refine wl_end (then_n (ib hF hf (fun hc hF => ?_) fun hc hF => ?_))
    ·refine reg (pz 1 hf fun a hf => ?_)
     refine wl0 rfl (op_bslice hf H (.sh true) rfl 3 ([0, 1000] : List Int) [(.int .i64 0), (.int .i64 1000)] rfl (fun w => by kernel_rfl) rfl (by decide) rfl trivial (elI [0, 1000]) (by decide) fun A11 a w hf H => ?_)
     have H := H.freeze 0 rfl
     obtain ⟨y5, hy5, hF⟩ := bind_some hF
     refine oc hf TF.cl179 (spec_l1Cur_among_ok (S := St ⟨w0, [b0]⟩ S [⟨b3, 52, [(.int .i64 y.1), (.int .i64 y2.1.Start), (.slice A7 y2.1.Fibers.length c7), (.int .i64 y3.1.First), (.int .i64 y3.1.Count)]⟩, ⟨b2, 52, [(.int .i64 0), (.int .i64 0), (.slice none 0 0), (.int .i64 0), (.int .i64 0)]⟩, ⟨b', 45, [(.slice A2 p.Network.Nodes.length c3), (.slice A3 p.Network.Fibers.length c4), (.slice A4 p.Lights.length c5)]⟩, ⟨b0, 160, [(.slice A y4.2.code.length c2), (.int .i64 y4.2.at_), (.int .u64 y4.2.seed.n)]⟩] [] [⟨F2, MP.own F2 [(.slice A7 y2.1.Fibers.length c7)] (y2.1.Fibers : List Int)⟩] false) (H.boxAt 3 rfl) ((L1CurP_mk (x := y4.2) (H.get 1 rfl))) (H.notSt 3 rfl _) (mk_list (rep_weak (α := List Int) (H.get 0 rfl))) hy5) fun v5 w a hp6 hf => ?_
     obtain ⟨hch5, cs5, hbx5, hr5, ⟨hx12, hx13⟩, hs5⟩ := hp6
     obtain rfl := VR_int hs5
     obtain ⟨A12, c11, rfl, hl10⟩ := L1CurP_cells hr5
     obtain ⟨rfl, rfl⟩ := fx_slice hx12 rfl rfl
     have hx14 := hx13.trans hx11
     have H := H.wroteBox 3 rfl hch5 hbx5
     have H := H.push (false, MP.val [(.slice A y5.2.code.length c2)] (y5.2.code : List By)) (by rw [hx13]; exact H.get 1 rfl)
     refine pz 1 hf fun a hf => ?_
     refine wl0 rfl (op_storeB hf H 0 TF.sz3 rfl rfl rfl rfl rfl rfl (nle rfl) fun w H => ?_)
     refine wr (oq hf (rq_loadBN hf H TF.la52 0 rfl rfl rfl rfl) fun a hf => ?_)
     refine wl0 rfl (op_storeB hf H 1 TF.sz52 rfl rfl rfl rfl rfl rfl (nle rfl) fun w H => ?_)
     refine wl_end (then_n (wp_ret (?_)))
     obtain rfl := Option.some.inj hF
     refine ret_1 (fn := Tryz.f158) (r := .cell 4 52) hf rfl (rv_cellN hf H 1 TF.la52 rfl rfl rfl) ?_
     have hN := H.endsB (X := [(⟨F2, MP.own F2 [(.slice A7 y2.1.Fibers.length c7)] (y2.1.Fibers : List Int)⟩ : DI)]) 3 rfl
     simp only [List.flatMap_cons, List.flatMap_nil, List.append_nil, List.append_assoc] at hN
     exact ⟨_, rfl, H.chg, _, H.boxAt 3 rfl, (L1CurP_mk (x := y5.2) (rep_endB (M := _) (i := 3) rfl (α := List By) (H.get 0 rfl))), ⟨congrArg (fun l => some (Value.slice A (List.length l) c2)) hx14, hx14⟩, F2, ⟨_, Light_ownmk (x := ({ Id := y5.1, Route := y2.1, Block := y3.1 } : Light)) (H.ownAt 0 rfl), rfl⟩, by first | exact hN | simpa using hN⟩
    ·refine wp_skip (then_n (sq (reg (oq hf (rq_loadBN hf H TF.la52 0 rfl rfl rfl rfl) fun a hf => ?_))))
     refine wl0 rfl (op_storeB hf H 1 TF.sz52 rfl rfl rfl rfl rfl rfl (nle rfl) fun w H => ?_)
     refine wl_end (then_n (wp_ret (?_)))
     obtain rfl := Option.some.inj hF
     refine ret_1 (fn := Tryz.f158) (r := .cell 4 52) hf rfl (rv_cellN hf H 1 TF.la52 rfl rfl rfl) ?_
     have hN := H.endsB (X := [(⟨F2, MP.own F2 [(.slice A7 y2.1.Fibers.length c7)] (y2.1.Fibers : List Int)⟩ : DI)]) 3 rfl
     simp only [List.flatMap_cons, List.flatMap_nil, List.append_nil, List.append_assoc] at hN
     exact ⟨_, rfl, H.chg, _, H.boxAt 3 rfl, (L1CurP_mk (x := y4.2) (rep_endB (M := _) (i := 3) rfl (α := List By) (H.get 0 rfl))), ⟨congrArg (fun l => some (Value.slice A (List.length l) c2)) hx11, hx11⟩, F2, ⟨_, Light_ownmk (x := ({ Id := y.1, Route := y2.1, Block := y3.1 } : Light)) (H.ownAt 0 rfl), rfl⟩, by first | exact hN | simpa using hN⟩
  ·refine (op_alloc hf H TF.zv52 rfl (by decide) fun b3 a w hf H => ?_)
   have hS := H.lt_ [false, false, true, false] [false] [] []
   refine ⟨fun _ => hS, ?_⟩
   have H := H.freeze 0 rfl
   obtain ⟨y, hy, hF⟩ := bind_some hF
   refine n1 2 (by kernel_rfl) rfl rfl (op_call hf TF.cl179 rfl (by decide) (spec_l1Cur_among_ok (S := St ⟨w0, [b0]⟩ S [⟨b3, 52, [(.int .i64 0), (.int .i64 0), (.slice none 0 0), (.int .i64 0), (.int .i64 0)]⟩, ⟨b2, 52, [(.int .i64 0), (.int .i64 0), (.slice none 0 0), (.int .i64 0), (.int .i64 0)]⟩, ⟨b', 45, [(.slice A2 p.Network.Nodes.length c3), (.slice A3 p.Network.Fibers.length c4), (.slice A4 p.Lights.length c5)]⟩, ⟨b0, 160, [(.slice A c.code.length c2), (.int .i64 c.at_), (.int .u64 c.seed.n)]⟩] [] [] false) (H.boxAt 3 rfl) ((L1CurP_mk (x := c) (H.get 4 rfl))) (H.notSt 3 rfl _) (mk_list (rep_weak (α := List Int) (H.get 0 rfl))) hy) fun v w a hp hf => ?_)
   obtain ⟨hch, cs, hbx, hr, ⟨hx, hx2⟩, hs⟩ := hp
   obtain rfl := VR_int hs
   obtain ⟨A6, c6, rfl, hl5⟩ := L1CurP_cells hr
   obtain ⟨rfl, rfl⟩ := fx_slice hx rfl rfl
   have H := H.wroteBox 3 rfl hch hbx
   have H := H.push (false, MP.val [(.slice A y.2.code.length c2)] (y.2.code : List By)) (by rw [hx2]; exact H.get 4 rfl)
   have hS := H.lt_ [false, false, true, false] [] [] []
   refine ⟨fun _ => hS, ?_⟩
   obtain ⟨y2, hy2, hF⟩ := bind_some hF
   refine n1 6 (by kernel_rfl) rfl rfl (op_call hf TF.cl181 rfl (by decide) (spec_l1Cur_anyRoute_ok (S := St ⟨w0, [b0]⟩ S [⟨b3, 52, [(.int .i64 0), (.int .i64 0), (.slice none 0 0), (.int .i64 0), (.int .i64 0)]⟩, ⟨b2, 52, [(.int .i64 0), (.int .i64 0), (.slice none 0 0), (.int .i64 0), (.int .i64 0)]⟩, ⟨b', 45, [(.slice A2 p.Network.Nodes.length c3), (.slice A3 p.Network.Fibers.length c4), (.slice A4 p.Lights.length c5)]⟩, ⟨b0, 160, [(.slice A y.2.code.length c2), (.int .i64 y.2.at_), (.int .u64 y.2.seed.n)]⟩] [] [] false) (H.boxAt 3 rfl) ((L1CurP_mk (x := y.2) (H.get 0 rfl))) (H.notSt 3 rfl _) (Network_mkv (x := p.Network) (H.get 4 rfl) (H.get 3 rfl)) hy2) fun v2 w a hp2 hf => ?_)
   obtain ⟨hch2, cs2, hbx2, hr2, ⟨hx3, hx4⟩, hs2⟩ := hp2
   obtain ⟨F, hp3, hN⟩ := hs2
   obtain ⟨A7, c7, F2, rfl, rfl, hl6⟩ := Route_vo hp3
   obtain ⟨A8, c8, rfl, hl7⟩ := L1CurP_cells hr2
   obtain ⟨rfl, rfl⟩ := fx_slice hx3 rfl rfl
   have hx5 := hx4.trans hx2
   have H := H.wroteBoxO 3 rfl hch2 hbx2 (X := [(⟨F2, MP.own F2 [(.slice A7 y2.1.Fibers.length c7)] (y2.1.Fibers : List Int)⟩ : DI)]) (by simpa using hN.1) (ps1 hl6 ps0) (by simpa using hN.2)
   have H := H.push (false, MP.val [(.slice A y2.2.code.length c2)] (y2.2.code : List By)) (by rw [hx4]; exact H.get 0 rfl)
   have H := H.lend 0 rfl
   have hS := H.lt_ [false, false, true, false] [] [false] []
   refine ⟨fun _ => hS, ?_⟩
   obtain ⟨y3, hy3, hF⟩ := bind_some hF
   refine n1 8 (by kernel_rfl) rfl rfl (op_call hf TF.cl180 rfl (by decide) (spec_l1Cur_block_ok (S := St ⟨w0, [b0]⟩ S [⟨b3, 52, [(.int .i64 0), (.int .i64 0), (.slice none 0 0), (.int .i64 0), (.int .i64 0)]⟩, ⟨b2, 52, [(.int .i64 0), (.int .i64 0), (.slice none 0 0), (.int .i64 0), (.int .i64 0)]⟩, ⟨b', 45, [(.slice A2 p.Network.Nodes.length c3), (.slice A3 p.Network.Fibers.length c4), (.slice A4 p.Lights.length c5)]⟩, ⟨b0, 160, [(.slice A y2.2.code.length c2), (.int .i64 y2.2.at_), (.int .u64 y2.2.seed.n)]⟩] [] [⟨F2, MP.own F2 [(.slice A7 y2.1.Fibers.length c7)] (y2.1.Fibers : List Int)⟩] false) (H.boxAt 3 rfl) ((L1CurP_mk (x := y2.2) (H.get 1 rfl))) (H.notSt 3 rfl _) hy3) fun v3 w a hp4 hf => ?_)
   obtain ⟨hch3, cs3, hbx3, hr3, ⟨hx6, hx7⟩, hs3⟩ := hp4
   obtain rfl := Block_open hs3
   obtain ⟨A9, c9, rfl, hl8⟩ := L1CurP_cells hr3
   obtain ⟨rfl, rfl⟩ := fx_slice hx6 rfl rfl
   have hx8 := hx7.trans hx5
   have H := H.wroteBox 3 rfl hch3 hbx3
   have H := H.push (false, MP.val [(.slice A y3.2.code.length c2)] (y3.2.code : List By)) (by rw [hx7]; exact H.get 1 rfl)
   have hS := H.lt_ [false, false, true, false] [] [false] []
   refine ⟨fun _ => hS, ?_⟩
   refine tP 9 rfl rfl rfl rfl hf (by kernel_rfl) (fun _ => hS) (fun w => rq_build hf (cs := [(.int .i64 y.1), (.int .i64 y2.1.Start), (.slice A7 y2.1.Fibers.length c7), (.int .i64 y3.1.First), (.int .i64 y3.1.Count)]) rfl (fun w => by kernel_rfl)) fun a hf => ?_
   refine n1 11 (by kernel_rfl) rfl rfl (op_storeB hf H 0 TF.sz52 rfl rfl rfl rfl rfl rfl (nle rfl) fun w H => ?_)
   refine ⟨fun h => absurd h (by decide), ?_⟩
   refine dn (by kernel_rfl) ?_
   refine then_n (sq (sqz (pz 1 hf fun a hf => ?_)))
   obtain ⟨y4, hy4, hF⟩ := bind_some hF
   refine oc hf TF.cl183 (spec_l1Cur_one_ok (S := St ⟨w0, [b0]⟩ S [⟨b3, 52, [(.int .i64 y.1), (.int .i64 y2.1.Start), (.slice A7 y2.1.Fibers.length c7), (.int .i64 y3.1.First), (.int .i64 y3.1.Count)]⟩, ⟨b2, 52, [(.int .i64 0), (.int .i64 0), (.slice none 0 0), (.int .i64 0), (.int .i64 0)]⟩, ⟨b', 45, [(.slice A2 p.Network.Nodes.length c3), (.slice A3 p.Network.Fibers.length c4), (.slice A4 p.Lights.length c5)]⟩, ⟨b0, 160, [(.slice A y3.2.code.length c2), (.int .i64 y3.2.at_), (.int .u64 y3.2.seed.n)]⟩] [] [⟨F2, MP.own F2 [(.slice A7 y2.1.Fibers.length c7)] (y2.1.Fibers : List Int)⟩] false) (H.boxAt 3 rfl) ((L1CurP_mk (x := y3.2) (H.get 0 rfl))) (H.notSt 3 rfl _) mk_int hy4) fun v4 w a hp5 hf => ?_
   obtain ⟨hch4, cs4, hbx4, hr4, ⟨hx9, hx10⟩, hs4⟩ := hp5
   obtain rfl := VR_bool hs4
   obtain ⟨A10, c10, rfl, hl9⟩ := L1CurP_cells hr4
   obtain ⟨rfl, rfl⟩ := fx_slice hx9 rfl rfl
   have hx11 := hx10.trans hx8
   have H := H.wroteBox 3 rfl hch4 hbx4
   have H := H.push (false, MP.val [(.slice A y4.2.code.length c2)] (y4.2.code : List By)) (by rw [hx10]; exact H.get 0 rfl)
   have hf := hf.pn [0, 4, 5, 17]
   refine wl_end (then_n (ib hF hf (fun hc hF => ?_) fun hc hF => ?_))
   ·refine reg (pz 1 hf fun a hf => ?_)
    refine wl0 rfl (op_bslice hf H (.sh true) rfl 3 ([0, 1000] : List Int) [(.int .i64 0), (.int .i64 1000)] rfl (fun w => by kernel_rfl) rfl (by decide) rfl trivial (elI [0, 1000]) (by decide) fun A11 a w hf H => ?_)
    have H := H.freeze 0 rfl
    obtain ⟨y5, hy5, hF⟩ := bind_some hF
    refine oc hf TF.cl179 (spec_l1Cur_among_ok (S := St ⟨w0, [b0]⟩ S [⟨b3, 52, [(.int .i64 y.1), (.int .i64 y2.1.Start), (.slice A7 y2.1.Fibers.length c7), (.int .i64 y3.1.First), (.int .i64 y3.1.Count)]⟩, ⟨b2, 52, [(.int .i64 0), (.int .i64 0), (.slice none 0 0), (.int .i64 0), (.int .i64 0)]⟩, ⟨b', 45, [(.slice A2 p.Network.Nodes.length c3), (.slice A3 p.Network.Fibers.length c4), (.slice A4 p.Lights.length c5)]⟩, ⟨b0, 160, [(.slice A y4.2.code.length c2), (.int .i64 y4.2.at_), (.int .u64 y4.2.seed.n)]⟩] [] [⟨F2, MP.own F2 [(.slice A7 y2.1.Fibers.length c7)] (y2.1.Fibers : List Int)⟩] false) (H.boxAt 3 rfl) ((L1CurP_mk (x := y4.2) (H.get 1 rfl))) (H.notSt 3 rfl _) (mk_list (rep_weak (α := List Int) (H.get 0 rfl))) hy5) fun v5 w a hp6 hf => ?_
    obtain ⟨hch5, cs5, hbx5, hr5, ⟨hx12, hx13⟩, hs5⟩ := hp6
    obtain rfl := VR_int hs5
    obtain ⟨A12, c11, rfl, hl10⟩ := L1CurP_cells hr5
    obtain ⟨rfl, rfl⟩ := fx_slice hx12 rfl rfl
    have hx14 := hx13.trans hx11
    have H := H.wroteBox 3 rfl hch5 hbx5
    have H := H.push (false, MP.val [(.slice A y5.2.code.length c2)] (y5.2.code : List By)) (by rw [hx13]; exact H.get 1 rfl)
    refine pz 1 hf fun a hf => ?_
    refine wl0 rfl (op_storeB hf H 0 TF.sz3 rfl rfl rfl rfl rfl rfl (nle rfl) fun w H => ?_)
    refine wr (oq hf (rq_loadBN hf H TF.la52 0 rfl rfl rfl rfl) fun a hf => ?_)
    refine wl0 rfl (op_storeB hf H 1 TF.sz52 rfl rfl rfl rfl rfl rfl (nle rfl) fun w H => ?_)
    refine wl_end (then_n (wp_ret (?_)))
    obtain rfl := Option.some.inj hF
    refine ret_1 (fn := Tryz.f158) (r := .cell 4 52) hf rfl (rv_cellN hf H 1 TF.la52 rfl rfl rfl) ?_
    have hN := H.endsB (X := [(⟨F2, MP.own F2 [(.slice A7 y2.1.Fibers.length c7)] (y2.1.Fibers : List Int)⟩ : DI)]) 3 rfl
    simp only [List.flatMap_cons, List.flatMap_nil, List.append_nil, List.append_assoc] at hN
    exact ⟨_, rfl, H.chg, _, H.boxAt 3 rfl, (L1CurP_mk (x := y5.2) (rep_endB (M := _) (i := 3) rfl (α := List By) (H.get 0 rfl))), ⟨congrArg (fun l => some (Value.slice A (List.length l) c2)) hx14, hx14⟩, F2, ⟨_, Light_ownmk (x := ({ Id := y5.1, Route := y2.1, Block := y3.1 } : Light)) (H.ownAt 0 rfl), rfl⟩, by first | exact hN | simpa using hN⟩
   ·refine wp_skip (then_n (sq (reg (oq hf (rq_loadBN hf H TF.la52 0 rfl rfl rfl rfl) fun a hf => ?_))))
    refine wl0 rfl (op_storeB hf H 1 TF.sz52 rfl rfl rfl rfl rfl rfl (nle rfl) fun w H => ?_)
    refine wl_end (then_n (wp_ret (?_)))
    obtain rfl := Option.some.inj hF
    refine ret_1 (fn := Tryz.f158) (r := .cell 4 52) hf rfl (rv_cellN hf H 1 TF.la52 rfl rfl rfl) ?_
    have hN := H.endsB (X := [(⟨F2, MP.own F2 [(.slice A7 y2.1.Fibers.length c7)] (y2.1.Fibers : List Int)⟩ : DI)]) 3 rfl
    simp only [List.flatMap_cons, List.flatMap_nil, List.append_nil, List.append_assoc] at hN
    exact ⟨_, rfl, H.chg, _, H.boxAt 3 rfl, (L1CurP_mk (x := y4.2) (rep_endB (M := _) (i := 3) rfl (α := List By) (H.get 0 rfl))), ⟨congrArg (fun l => some (Value.slice A (List.length l) c2)) hx11, hx11⟩, F2, ⟨_, Light_ownmk (x := ({ Id := y.1, Route := y2.1, Block := y3.1 } : Light)) (H.ownAt 0 rfl), rfl⟩, by first | exact hN | simpa using hN⟩
 ·refine (op_alloc hf H TF.zv52 rfl (by decide) fun b3 a w hf H => ?_)
  have hS := H.lt_ [false, false, true, false] [] [] []
  refine ⟨fun _ => hS, ?_⟩
  refine n1 1 (by kernel_rfl) rfl rfl (op_bslice hf H (.sh true) rfl 3 ([30, 31, 1, 2, 4, 5, 999] : List Int) [(.int .i64 30), (.int .i64 31), (.int .i64 1), (.int .i64 2), (.int .i64 4), (.int .i64 5), (.int .i64 999)] rfl (fun w => by kernel_rfl) rfl (by decide) rfl trivial (elI [30, 31, 1, 2, 4, 5, 999]) (by decide) fun A5 a w hf H => ?_)
  have hS := H.lt_ [false, false, true, false] [false] [] []
  refine ⟨fun _ => hS, ?_⟩
  have H := H.freeze 0 rfl
  obtain ⟨y, hy, hF⟩ := bind_some hF
  refine n1 2 (by kernel_rfl) rfl rfl (op_call hf TF.cl179 rfl (by decide) (spec_l1Cur_among_ok (S := St ⟨w0, [b0]⟩ S [⟨b3, 52, [(.int .i64 0), (.int .i64 0), (.slice none 0 0), (.int .i64 0), (.int .i64 0)]⟩, ⟨b2, 52, [(.int .i64 0), (.int .i64 0), (.slice none 0 0), (.int .i64 0), (.int .i64 0)]⟩, ⟨b', 45, [(.slice A2 p.Network.Nodes.length c3), (.slice A3 p.Network.Fibers.length c4), (.slice A4 p.Lights.length c5)]⟩, ⟨b0, 160, [(.slice A c.code.length c2), (.int .i64 c.at_), (.int .u64 c.seed.n)]⟩] [] [] false) (H.boxAt 3 rfl) ((L1CurP_mk (x := c) (H.get 4 rfl))) (H.notSt 3 rfl _) (mk_list (rep_weak (α := List Int) (H.get 0 rfl))) hy) fun v w a hp hf => ?_)
  obtain ⟨hch, cs, hbx, hr, ⟨hx, hx2⟩, hs⟩ := hp
  obtain rfl := VR_int hs
  obtain ⟨A6, c6, rfl, hl5⟩ := L1CurP_cells hr
  obtain ⟨rfl, rfl⟩ := fx_slice hx rfl rfl
  have H := H.wroteBox 3 rfl hch hbx
  have H := H.push (false, MP.val [(.slice A y.2.code.length c2)] (y.2.code : List By)) (by rw [hx2]; exact H.get 4 rfl)
  have hS := H.lt_ [false, false, true, false] [] [] []
  refine ⟨fun _ => hS, ?_⟩
  obtain ⟨y2, hy2, hF⟩ := bind_some hF
  refine n1 6 (by kernel_rfl) rfl rfl (op_call hf TF.cl181 rfl (by decide) (spec_l1Cur_anyRoute_ok (S := St ⟨w0, [b0]⟩ S [⟨b3, 52, [(.int .i64 0), (.int .i64 0), (.slice none 0 0), (.int .i64 0), (.int .i64 0)]⟩, ⟨b2, 52, [(.int .i64 0), (.int .i64 0), (.slice none 0 0), (.int .i64 0), (.int .i64 0)]⟩, ⟨b', 45, [(.slice A2 p.Network.Nodes.length c3), (.slice A3 p.Network.Fibers.length c4), (.slice A4 p.Lights.length c5)]⟩, ⟨b0, 160, [(.slice A y.2.code.length c2), (.int .i64 y.2.at_), (.int .u64 y.2.seed.n)]⟩] [] [] false) (H.boxAt 3 rfl) ((L1CurP_mk (x := y.2) (H.get 0 rfl))) (H.notSt 3 rfl _) (Network_mkv (x := p.Network) (H.get 4 rfl) (H.get 3 rfl)) hy2) fun v2 w a hp2 hf => ?_)
  obtain ⟨hch2, cs2, hbx2, hr2, ⟨hx3, hx4⟩, hs2⟩ := hp2
  obtain ⟨F, hp3, hN⟩ := hs2
  obtain ⟨A7, c7, F2, rfl, rfl, hl6⟩ := Route_vo hp3
  obtain ⟨A8, c8, rfl, hl7⟩ := L1CurP_cells hr2
  obtain ⟨rfl, rfl⟩ := fx_slice hx3 rfl rfl
  have hx5 := hx4.trans hx2
  have H := H.wroteBoxO 3 rfl hch2 hbx2 (X := [(⟨F2, MP.own F2 [(.slice A7 y2.1.Fibers.length c7)] (y2.1.Fibers : List Int)⟩ : DI)]) (by simpa using hN.1) (ps1 hl6 ps0) (by simpa using hN.2)
  have H := H.push (false, MP.val [(.slice A y2.2.code.length c2)] (y2.2.code : List By)) (by rw [hx4]; exact H.get 0 rfl)
  have H := H.lend 0 rfl
  have hS := H.lt_ [false, false, true, false] [] [false] []
  refine ⟨fun _ => hS, ?_⟩
  obtain ⟨y3, hy3, hF⟩ := bind_some hF
  refine n1 8 (by kernel_rfl) rfl rfl (op_call hf TF.cl180 rfl (by decide) (spec_l1Cur_block_ok (S := St ⟨w0, [b0]⟩ S [⟨b3, 52, [(.int .i64 0), (.int .i64 0), (.slice none 0 0), (.int .i64 0), (.int .i64 0)]⟩, ⟨b2, 52, [(.int .i64 0), (.int .i64 0), (.slice none 0 0), (.int .i64 0), (.int .i64 0)]⟩, ⟨b', 45, [(.slice A2 p.Network.Nodes.length c3), (.slice A3 p.Network.Fibers.length c4), (.slice A4 p.Lights.length c5)]⟩, ⟨b0, 160, [(.slice A y2.2.code.length c2), (.int .i64 y2.2.at_), (.int .u64 y2.2.seed.n)]⟩] [] [⟨F2, MP.own F2 [(.slice A7 y2.1.Fibers.length c7)] (y2.1.Fibers : List Int)⟩] false) (H.boxAt 3 rfl) ((L1CurP_mk (x := y2.2) (H.get 1 rfl))) (H.notSt 3 rfl _) hy3) fun v3 w a hp4 hf => ?_)
  obtain ⟨hch3, cs3, hbx3, hr3, ⟨hx6, hx7⟩, hs3⟩ := hp4
  obtain rfl := Block_open hs3
  obtain ⟨A9, c9, rfl, hl8⟩ := L1CurP_cells hr3
  obtain ⟨rfl, rfl⟩ := fx_slice hx6 rfl rfl
  have hx8 := hx7.trans hx5
  have H := H.wroteBox 3 rfl hch3 hbx3
  have H := H.push (false, MP.val [(.slice A y3.2.code.length c2)] (y3.2.code : List By)) (by rw [hx7]; exact H.get 1 rfl)
  have hS := H.lt_ [false, false, true, false] [] [false] []
  refine ⟨fun _ => hS, ?_⟩
  refine tP 9 rfl rfl rfl rfl hf (by kernel_rfl) (fun _ => hS) (fun w => rq_build hf (cs := [(.int .i64 y.1), (.int .i64 y2.1.Start), (.slice A7 y2.1.Fibers.length c7), (.int .i64 y3.1.First), (.int .i64 y3.1.Count)]) rfl (fun w => by kernel_rfl)) fun a hf => ?_
  refine n1 11 (by kernel_rfl) rfl rfl (op_storeB hf H 0 TF.sz52 rfl rfl rfl rfl rfl rfl (nle rfl) fun w H => ?_)
  refine ⟨fun h => absurd h (by decide), ?_⟩
  refine dn (by kernel_rfl) ?_
  refine then_n (sq (sqz (pz 1 hf fun a hf => ?_)))
  obtain ⟨y4, hy4, hF⟩ := bind_some hF
  refine oc hf TF.cl183 (spec_l1Cur_one_ok (S := St ⟨w0, [b0]⟩ S [⟨b3, 52, [(.int .i64 y.1), (.int .i64 y2.1.Start), (.slice A7 y2.1.Fibers.length c7), (.int .i64 y3.1.First), (.int .i64 y3.1.Count)]⟩, ⟨b2, 52, [(.int .i64 0), (.int .i64 0), (.slice none 0 0), (.int .i64 0), (.int .i64 0)]⟩, ⟨b', 45, [(.slice A2 p.Network.Nodes.length c3), (.slice A3 p.Network.Fibers.length c4), (.slice A4 p.Lights.length c5)]⟩, ⟨b0, 160, [(.slice A y3.2.code.length c2), (.int .i64 y3.2.at_), (.int .u64 y3.2.seed.n)]⟩] [] [⟨F2, MP.own F2 [(.slice A7 y2.1.Fibers.length c7)] (y2.1.Fibers : List Int)⟩] false) (H.boxAt 3 rfl) ((L1CurP_mk (x := y3.2) (H.get 0 rfl))) (H.notSt 3 rfl _) mk_int hy4) fun v4 w a hp5 hf => ?_
  obtain ⟨hch4, cs4, hbx4, hr4, ⟨hx9, hx10⟩, hs4⟩ := hp5
  obtain rfl := VR_bool hs4
  obtain ⟨A10, c10, rfl, hl9⟩ := L1CurP_cells hr4
  obtain ⟨rfl, rfl⟩ := fx_slice hx9 rfl rfl
  have hx11 := hx10.trans hx8
  have H := H.wroteBox 3 rfl hch4 hbx4
  have H := H.push (false, MP.val [(.slice A y4.2.code.length c2)] (y4.2.code : List By)) (by rw [hx10]; exact H.get 0 rfl)
  have hf := hf.pn [0, 4, 5, 17]
  refine wl_end (then_n (ib hF hf (fun hc hF => ?_) fun hc hF => ?_))
  ·refine reg (pz 1 hf fun a hf => ?_)
   refine wl0 rfl (op_bslice hf H (.sh true) rfl 3 ([0, 1000] : List Int) [(.int .i64 0), (.int .i64 1000)] rfl (fun w => by kernel_rfl) rfl (by decide) rfl trivial (elI [0, 1000]) (by decide) fun A11 a w hf H => ?_)
   have H := H.freeze 0 rfl
   obtain ⟨y5, hy5, hF⟩ := bind_some hF
   refine oc hf TF.cl179 (spec_l1Cur_among_ok (S := St ⟨w0, [b0]⟩ S [⟨b3, 52, [(.int .i64 y.1), (.int .i64 y2.1.Start), (.slice A7 y2.1.Fibers.length c7), (.int .i64 y3.1.First), (.int .i64 y3.1.Count)]⟩, ⟨b2, 52, [(.int .i64 0), (.int .i64 0), (.slice none 0 0), (.int .i64 0), (.int .i64 0)]⟩, ⟨b', 45, [(.slice A2 p.Network.Nodes.length c3), (.slice A3 p.Network.Fibers.length c4), (.slice A4 p.Lights.length c5)]⟩, ⟨b0, 160, [(.slice A y4.2.code.length c2), (.int .i64 y4.2.at_), (.int .u64 y4.2.seed.n)]⟩] [] [⟨F2, MP.own F2 [(.slice A7 y2.1.Fibers.length c7)] (y2.1.Fibers : List Int)⟩] false) (H.boxAt 3 rfl) ((L1CurP_mk (x := y4.2) (H.get 1 rfl))) (H.notSt 3 rfl _) (mk_list (rep_weak (α := List Int) (H.get 0 rfl))) hy5) fun v5 w a hp6 hf => ?_
   obtain ⟨hch5, cs5, hbx5, hr5, ⟨hx12, hx13⟩, hs5⟩ := hp6
   obtain rfl := VR_int hs5
   obtain ⟨A12, c11, rfl, hl10⟩ := L1CurP_cells hr5
   obtain ⟨rfl, rfl⟩ := fx_slice hx12 rfl rfl
   have hx14 := hx13.trans hx11
   have H := H.wroteBox 3 rfl hch5 hbx5
   have H := H.push (false, MP.val [(.slice A y5.2.code.length c2)] (y5.2.code : List By)) (by rw [hx13]; exact H.get 1 rfl)
   refine pz 1 hf fun a hf => ?_
   refine wl0 rfl (op_storeB hf H 0 TF.sz3 rfl rfl rfl rfl rfl rfl (nle rfl) fun w H => ?_)
   refine wr (oq hf (rq_loadBN hf H TF.la52 0 rfl rfl rfl rfl) fun a hf => ?_)
   refine wl0 rfl (op_storeB hf H 1 TF.sz52 rfl rfl rfl rfl rfl rfl (nle rfl) fun w H => ?_)
   refine wl_end (then_n (wp_ret (?_)))
   obtain rfl := Option.some.inj hF
   refine ret_1 (fn := Tryz.f158) (r := .cell 4 52) hf rfl (rv_cellN hf H 1 TF.la52 rfl rfl rfl) ?_
   have hN := H.endsB (X := [(⟨F2, MP.own F2 [(.slice A7 y2.1.Fibers.length c7)] (y2.1.Fibers : List Int)⟩ : DI)]) 3 rfl
   simp only [List.flatMap_cons, List.flatMap_nil, List.append_nil, List.append_assoc] at hN
   exact ⟨_, rfl, H.chg, _, H.boxAt 3 rfl, (L1CurP_mk (x := y5.2) (rep_endB (M := _) (i := 3) rfl (α := List By) (H.get 0 rfl))), ⟨congrArg (fun l => some (Value.slice A (List.length l) c2)) hx14, hx14⟩, F2, ⟨_, Light_ownmk (x := ({ Id := y5.1, Route := y2.1, Block := y3.1 } : Light)) (H.ownAt 0 rfl), rfl⟩, by first | exact hN | simpa using hN⟩
  ·refine wp_skip (then_n (sq (reg (oq hf (rq_loadBN hf H TF.la52 0 rfl rfl rfl rfl) fun a hf => ?_))))
   refine wl0 rfl (op_storeB hf H 1 TF.sz52 rfl rfl rfl rfl rfl rfl (nle rfl) fun w H => ?_)
   refine wl_end (then_n (wp_ret (?_)))
   obtain rfl := Option.some.inj hF
   refine ret_1 (fn := Tryz.f158) (r := .cell 4 52) hf rfl (rv_cellN hf H 1 TF.la52 rfl rfl rfl) ?_
   have hN := H.endsB (X := [(⟨F2, MP.own F2 [(.slice A7 y2.1.Fibers.length c7)] (y2.1.Fibers : List Int)⟩ : DI)]) 3 rfl
   simp only [List.flatMap_cons, List.flatMap_nil, List.append_nil, List.append_assoc] at hN
   exact ⟨_, rfl, H.chg, _, H.boxAt 3 rfl, (L1CurP_mk (x := y4.2) (rep_endB (M := _) (i := 3) rfl (α := List By) (H.get 0 rfl))), ⟨congrArg (fun l => some (Value.slice A (List.length l) c2)) hx11, hx11⟩, F2, ⟨_, Light_ownmk (x := ({ Id := y.1, Route := y2.1, Block := y3.1 } : Light)) (H.ownAt 0 rfl), rfl⟩, by first | exact hN | simpa using hN⟩

theorem laws_vNetworks_ok {S : Nat → Prop} {v0_ : Value} {v1_ : Value} {a' : Network} {b' : Network} {r : Bool} (h0 : VR w0 S v0_ a') (h1 : VR w0 S v1_ b') (hF : laws_vNetworks fu a' b' = some r) :
    Calls Tryz.prog 96 [v0_, v1_].toArray w0 fun e w' => ∃ v, e = .returned v ∧ (Below w0.heap.size w0 w' ∧ VR w' (St ⟨w0, []⟩ S [] [] [] true) v r) := by
 obtain ⟨A, c, A2, c2, rfl, hl, hl2⟩ := Network_open h0
 obtain ⟨A3, c3, A4, c4, rfl, hl3, hl4⟩ := Network_open h1
 have H := Mem.start ⟨w0, []⟩ S
 have H := H.pushArg (MP.val [(.slice A a'.Nodes.length c)] a'.Nodes) hl
 have H := H.pushArg (MP.val [(.slice A2 a'.Fibers.length c2)] a'.Fibers) hl2
 have H := H.pushArg (MP.val [(.slice A3 b'.Nodes.length c3)] b'.Nodes) hl3
 have H := H.pushArg (MP.val [(.slice A4 b'.Fibers.length c4)] b'.Fibers) hl4
 refine en Tryz.func96 fun a hf => ?_
 rw [laws_vNetworks] at hF
 refine sq (reg (wl0 rfl (op_box hf H rfl rfl (by decide) fun b2 a w hf H => ?_)))
 refine wl0 rfl (op_box hf H rfl rfl (by decide) fun b3 a w hf H => ?_)
 refine pz 1 hf fun a hf => ?_
 refine wl_end (then_n (sq (sq ?_)))
 obtain ⟨c5, hGc5, hF⟩ := bind_some hF
 have fh := hf.prune [2, 3] rfl
 have Hm := H.lt_ [true, true] [] [] [0, 1, 2, 3]
 refine midF 22 (.bool c5) fh Hm ?_ fun a w hf H => ?_
 ·refine reg (pz 1 hf fun a hf => ?_)
  refine oq hf (rq_loadB hf H TF.ls22 1 rfl rfl rfl) fun a hf => ?_
  refine pz 2 hf fun a hf => ?_
  refine oq hf (rq_loadB hf H TF.ls22 0 rfl rfl rfl) fun a hf => ?_
  refine pz 3 hf fun a hf => ?_
  refine iteB hGc5 (fun hc hGc5 => ?_) fun hc hGc5 => ?_
  ·have hf := hf.lit 14 rfl hc
   refine pz 8 hf fun a hf => ?_
   obtain rfl := Option.some.inj hGc5
   have hf := hf.pn [22, 2, 3]
   have H := H.lt_ [true, true] [] [] [0, 1, 2, 3]
   exact wl_end ⟨hf, H⟩
  ·have hf := hf.lit 14 rfl hc
   refine pz 1 hf fun a hf => ?_
   refine wlg hf rfl rfl rfl (op_q hf (rq_loadB hf H TF.ls40 1 rfl rfl rfl) rfl (by decide) fun a hf => ?_)
   refine pz 2 hf fun a hf => ?_
   refine wlg hf rfl rfl rfl (op_q hf (rq_loadB hf H TF.ls40 0 rfl rfl rfl) rfl (by decide) fun a hf => ?_)
   refine pz 3 hf fun a hf => ?_
   obtain rfl := Option.some.inj hGc5
   have hf := hf.pn [22, 2, 3]
   have H := H.lt_ [true, true] [] [] [0, 1, 2, 3]
   exact wl_end ⟨hf, H⟩
 refine then_n (ib hF hf (fun hc2 hF => ?_) fun hc2 hF => ?_)
 ·refine sqz (pz 1 hf fun a hf => ?_)
  refine wl_end (then_n (wp_ret (then_r (?_))))
  obtain rfl := Option.some.inj hF
  refine ret_1 hf rfl (rv_tmp hf rfl) ?_
  exact ⟨_, rfl, H.bel, mk_bool⟩
 ·refine wp_skip (then_n (sq (sqz (pz 1 hf fun a hf => ?_))))
  refine wl_end (then_n ?_)
  obtain ⟨out', hB1, hF⟩ := bind_some hF
  have hf := hf.pn [2, 3, 5]
  have H := H.lt_ [true, true] [] [] [0, 1, 2, 3]
  refine loopC (fun (s : Int) (a : Act) (w : World) => match s with | i => Fr a 59 [(2, (.pointer (some ⟨b2, 0, none⟩))), (3, (.pointer (some ⟨b3, 0, none⟩))), (5, (.int .i64 i))] ∧ Mem ⟨w0, []⟩ S [⟨b3, 42, [(.slice A3 b'.Nodes.length c3), (.slice A4 b'.Fibers.length c4)]⟩, ⟨b2, 42, [(.slice A a'.Nodes.length c), (.slice A2 a'.Fibers.length c2)]⟩] [] [] [(false, MP.val [(.slice A4 b'.Fibers.length c4)] (b'.Fibers : List Fiber)), (false, MP.val [(.slice A3 b'.Nodes.length c3)] (b'.Nodes : List ByteArray)), (false, MP.val [(.slice A2 a'.Fibers.length c2)] (a'.Fibers : List Fiber)), (false, MP.val [(.slice A a'.Nodes.length c)] (a'.Nodes : List ByteArray))] w) (fun k (s : Int) => laws_vNetworks_L1 fu a' b' k s = some out') (fun s => out' = Out.next s) 0 fu hB1 ⟨hf, H⟩ (fun s h => by cases h) ?_ ?_
  ·rintro fk i a w hR1 hI
   replace hR1 : laws_vNetworks_L1 fu a' b' (fk + 1) i = some out' := hR1
   rw [laws_vNetworks_L1] at hR1
   obtain ⟨hf, H⟩ := hI
   refine sq (sqz (pz 2 hf fun a hf => ?_))
   refine oq hf (rq_loadB hf H TF.ls22 1 rfl rfl rfl) fun a hf => ?_
   refine pz 2 hf fun a hf => ?_
   refine wl_end (then_n (ib hR1 hf (fun hc3 hR1 => ?_) fun hc3 hR1 => ?_))
   ·refine wp_skip (then_n (sq (wp_block (sq (drawn [] (bs := [false, false, false, false, false, false, false, false, false, false, false]) (fuel := 11) (Checked.mixed Tryz.checked) rfl rfl fun w hb => ?_)))))
    have H := H.keep hb
    refine zp 0 hf trivial fun a hf => ?_
    refine strT (H.let [false, true] [] [] [] rfl rfl rfl rfl) (fun w H => trivial) fun hS => ?_
    refine tS 1 [] rfl rfl rfl rfl hf (by kernel_rfl) (by kernel_rfl) hS (fun w H => rq_loadB hf H TF.ls22 0 rfl rfl rfl) fun a hf => ?_
    refine zp 2 hf hS fun a hf => ?_
    obtain ⟨e, he, hR1⟩ := bind_some hR1
    obtain ⟨p, o, cs, hx, hr, H⟩ := pre_iaddr H Tryz.underlying22 TF.sz9 3 rfl he
    refine tP 3 rfl rfl rfl rfl hf (by kernel_rfl) (fun _ => hS) (fun w => rq_iaddrE hf rfl rfl rfl hx w) fun a hf => ?_
    obtain rfl := hr
    refine strT (H.let [false, true] [] [] [0] rfl rfl rfl rfl) (fun w H => H.let [true] [] [] [] rfl rfl rfl rfl) fun hS => ?_
    refine tS 4 [] rfl rfl rfl rfl hf (by kernel_rfl) (by kernel_rfl) hS (fun w H => rq_loadI hf H TF.ls9 0 0 rfl rfl rfl) fun a hf => ?_
    refine zp 5 hf hS fun a hf => ?_
    refine strT (H.let [true, true] [] [] [0] rfl rfl rfl rfl) (fun w H => H.let [false, true] [] [] [0] rfl rfl rfl rfl) fun hS => ?_
    refine tS 6 [] rfl rfl rfl rfl hf (by kernel_rfl) (by kernel_rfl) hS (fun w H => rq_loadB hf H TF.ls22 0 rfl rfl rfl) fun a hf => ?_
    refine zp 7 hf hS fun a hf => ?_
    obtain ⟨e2, he2, hR1⟩ := bind_some hR1
    obtain ⟨p2, o2, cs2, hx2, hr2, H⟩ := pre_iaddr H Tryz.underlying22 TF.sz9 2 rfl he2
    refine tP 8 rfl rfl rfl rfl hf (by kernel_rfl) (fun _ => hS) (fun w => rq_iaddrE hf rfl rfl rfl hx2 w) fun a hf => ?_
    obtain rfl := hr2
    refine strT (H.let [true, true] [] [] [0, 1] rfl rfl rfl rfl) (fun w H => H.let [true, true] [] [] [1] rfl rfl rfl rfl) fun hS => ?_
    refine tS 9 [] rfl rfl rfl rfl hf (by kernel_rfl) (by kernel_rfl) hS (fun w H => rq_loadI hf H TF.ls9 0 0 rfl rfl rfl) fun a hf => ?_
    refine zp 10 hf hS fun a hf => ?_
    refine dn (by kernel_rfl) ?_
    have hf := hf.pn [2, 3, 5, 40]
    refine then_n (ib hR1 hf (fun hc4 hR1 => ?_) fun hc4 hR1 => ?_)
    ·refine sqz (pz 1 hf fun a hf => ?_)
     refine wl_end (then_n (wp_ret (blk_r (then_r (then_r (blk_r (then_r (then_r (?_)))))))))
     obtain rfl := Option.some.inj hR1
     replace hF := on_ret hF
     obtain rfl := Option.some.inj hF
     refine ret_1 hf rfl (rv_tmp hf rfl) ?_
     exact ⟨_, rfl, H.bel, mk_bool⟩
    ·refine wp_skip (blk_n (then_n (reg (pz 3 hf fun a hf => ?_))))
     refine wl_end ?_
     have hf := hf.pn [2, 3, 5]
     have H := H.lt_ [true, true] [] [] [2, 3, 4, 5]
     exact then_n ⟨w64 (i + 1), hR1, hf, H⟩
   ·refine wp_exit (then_x (then_x (blk_e (?_))))
    have hf := hf.pn [2, 3, 5]
    have H := H.lt_ [true, true] [] [] [0, 1, 2, 3]
    exact ⟨i, (Option.some.inj hR1).symm, hf, H⟩
  rintro a w ⟨i2, rfl, hf, H⟩
  replace hF := on_next hF
  refine then_n (sq (sqz (pz 1 hf fun a hf => ?_)))
  refine wl_end (then_n ?_)
  obtain ⟨out2, hB1, hF⟩ := bind_some hF
  have hf := hf.pn [2, 3, 6]
  have H := H.lt_ [true, true] [] [] [0, 1, 2, 3]
  refine loopC (fun (s : Int) (a : Act) (w : World) => match s with | i3 => Fr a 59 [(2, (.pointer (some ⟨b2, 0, none⟩))), (3, (.pointer (some ⟨b3, 0, none⟩))), (6, (.int .i64 i3))] ∧ Mem ⟨w0, []⟩ S [⟨b3, 42, [(.slice A3 b'.Nodes.length c3), (.slice A4 b'.Fibers.length c4)]⟩, ⟨b2, 42, [(.slice A a'.Nodes.length c), (.slice A2 a'.Fibers.length c2)]⟩] [] [] [(false, MP.val [(.slice A4 b'.Fibers.length c4)] (b'.Fibers : List Fiber)), (false, MP.val [(.slice A3 b'.Nodes.length c3)] (b'.Nodes : List ByteArray)), (false, MP.val [(.slice A2 a'.Fibers.length c2)] (a'.Fibers : List Fiber)), (false, MP.val [(.slice A a'.Nodes.length c)] (a'.Nodes : List ByteArray))] w) (fun k (s : Int) => laws_vNetworks_L2 fu a' b' k s = some out2) (fun s => out2 = Out.next s) 0 fu hB1 ⟨hf, H⟩ (fun s h => by cases h) ?_ ?_
  ·rintro fk i3 a w hR1 hI
   replace hR1 : laws_vNetworks_L2 fu a' b' (fk + 1) i3 = some out2 := hR1
   rw [laws_vNetworks_L2] at hR1
   obtain ⟨hf, H⟩ := hI
   refine sq (sqz (pz 2 hf fun a hf => ?_))
   refine oq hf (rq_loadB hf H TF.ls40 1 rfl rfl rfl) fun a hf => ?_
   refine pz 2 hf fun a hf => ?_
   refine wl_end (then_n (ib hR1 hf (fun hc5 hR1 => ?_) fun hc5 hR1 => ?_))
   ·refine wp_skip (then_n (sq (wp_block (sq (drawn [] (bs := [false, false, false, false, false, false, false, false, false, false, false]) (fuel := 11) (Checked.mixed Tryz.checked) rfl rfl fun w hb => ?_)))))
    have H := H.keep hb
    refine zp 0 hf trivial fun a hf => ?_
    refine strT (H.let [false, true] [] [] [] rfl rfl rfl rfl) (fun w H => trivial) fun hS => ?_
    refine tS 1 [] rfl rfl rfl rfl hf (by kernel_rfl) (by kernel_rfl) hS (fun w H => rq_loadB hf H TF.ls40 0 rfl rfl rfl) fun a hf => ?_
    refine zp 2 hf hS fun a hf => ?_
    obtain ⟨e3, he3, hR1⟩ := bind_some hR1
    obtain ⟨p3, o3, cs3, hx3, hr3, H⟩ := pre_iaddr H Tryz.underlying40 TF.sz164 2 rfl he3
    refine tP 3 rfl rfl rfl rfl hf (by kernel_rfl) (fun _ => hS) (fun w => rq_iaddrE hf rfl rfl rfl hx3 w) fun a hf => ?_
    obtain rfl := Fiber_cells hr3
    refine strT (H.let [false, true] [] [] [0] rfl rfl rfl rfl) (fun w H => H.let [true] [] [] [] rfl rfl rfl rfl) fun hS => ?_
    refine tS 4 [] rfl rfl rfl rfl hf (by kernel_rfl) (by kernel_rfl) hS (fun w H => rq_loadIN hf H TF.la164 0 0 rfl rfl rfl rfl) fun a hf => ?_
    refine zp 5 hf hS fun a hf => ?_
    refine strT (H.let [true, true] [] [] [0] rfl rfl rfl rfl) (fun w H => H.let [false, true] [] [] [0] rfl rfl rfl rfl) fun hS => ?_
    refine tS 6 [] rfl rfl rfl rfl hf (by kernel_rfl) (by kernel_rfl) hS (fun w H => rq_loadB hf H TF.ls40 0 rfl rfl rfl) fun a hf => ?_
    refine zp 7 hf hS fun a hf => ?_
    obtain ⟨e4, he4, hR1⟩ := bind_some hR1
    obtain ⟨p4, o4, cs4, hx4, hr4, H⟩ := pre_iaddr H Tryz.underlying40 TF.sz164 1 rfl he4
    refine tP 8 rfl rfl rfl rfl hf (by kernel_rfl) (fun _ => hS) (fun w => rq_iaddrE hf rfl rfl rfl hx4 w) fun a hf => ?_
    obtain rfl := Fiber_cells hr4
    refine strT (H.let [true, true] [] [] [0, 1] rfl rfl rfl rfl) (fun w H => H.let [true, true] [] [] [1] rfl rfl rfl rfl) fun hS => ?_
    refine tS 9 [] rfl rfl rfl rfl hf (by kernel_rfl) (by kernel_rfl) hS (fun w H => rq_loadIN hf H TF.la164 0 0 rfl rfl rfl rfl) fun a hf => ?_
    refine tP 10 rfl rfl rfl rfl hf (by kernel_rfl) (fun _ => hS) (fun w => rq_neT hf TF.qeqt164 ([e3.A, e3.B, e3.Length, e3.Risk] : List Int) ([e4.A, e4.B, e4.Length, e4.Risk] : List Int) rfl rfl rfl rfl rfl rfl) fun a hf => ?_
    refine dn (by kernel_rfl) ?_
    have hf := hf.pn [2, 3, 6, 58]
    refine then_n (ib hR1 hf (fun hc6 hR1 => ?_) fun hc6 hR1 => ?_)
    ·refine sqz (pz 1 hf fun a hf => ?_)
     refine wl_end (then_n (wp_ret (blk_r (then_r (then_r (blk_r (then_r (then_r (?_)))))))))
     obtain rfl := Option.some.inj hR1
     replace hF := on_ret hF
     obtain rfl := Option.some.inj hF
     refine ret_1 hf rfl (rv_tmp hf rfl) ?_
     exact ⟨_, rfl, H.bel, mk_bool⟩
    ·refine wp_skip (blk_n (then_n (reg (pz 3 hf fun a hf => ?_))))
     refine wl_end ?_
     have hf := hf.pn [2, 3, 6]
     have H := H.lt_ [true, true] [] [] [2, 3, 4, 5]
     exact then_n ⟨w64 (i3 + 1), hR1, hf, H⟩
   ·refine wp_exit (then_x (then_x (blk_e (?_))))
    have hf := hf.pn [2, 3, 6]
    have H := H.lt_ [true, true] [] [] [0, 1, 2, 3]
    exact ⟨i3, (Option.some.inj hR1).symm, hf, H⟩
  rintro a w ⟨i4, rfl, hf, H⟩
  replace hF := on_next hF
  refine then_n (sqz (pz 1 hf fun a hf => ?_))
  refine wl_end (then_n (wp_ret (?_)))
  obtain rfl := Option.some.inj hF
  refine ret_1 hf rfl (rv_tmp hf rfl) ?_
  exact ⟨_, rfl, H.bel, mk_bool⟩

theorem laws_vInts_ok {S : Nat → Prop} {v0_ : Value} {v1_ : Value} {a' : List Int} {b' : List Int} {r : Bool} (h0 : VR w0 S v0_ a') (h1 : VR w0 S v1_ b') (hF : laws_vInts fu a' b' = some r) :
    Calls Tryz.prog 184 [v0_, v1_].toArray w0 fun e w' => ∃ v, e = .returned v ∧ (Below w0.heap.size w0 w' ∧ VR w' (St ⟨w0, []⟩ S [] [] [] true) v r) := by
 obtain ⟨A, c, rfl, hl⟩ := VR_list h0
 obtain ⟨A2, c2, rfl, hl2⟩ := VR_list h1
 have H := Mem.start ⟨w0, []⟩ S
 have H := H.pushArg (MP.val [(.slice A a'.length c)] a') hl
 have H := H.pushArg (MP.val [(.slice A2 b'.length c2)] b') hl2
 refine en Tryz.func184 fun a hf => ?_
 rw [laws_vInts] at hF
 refine sqz (pz 1 hf fun a hf => ?_)
 refine wl_end (then_n (sq (sqz (pz 5 hf fun a hf => ?_))))
 refine wl_end (then_n (ib hF hf (fun hc hF => ?_) fun hc hF => ?_))
 ·refine sqz (pz 1 hf fun a hf => ?_)
  refine wl_end (then_n (wp_ret (then_r (?_))))
  obtain rfl := Option.some.inj hF
  refine ret_1 hf rfl (rv_tmp hf rfl) ?_
  exact ⟨_, rfl, H.bel, mk_bool⟩
 ·refine wp_skip (then_n (sq (sqz (pz 1 hf fun a hf => ?_))))
  refine wl_end (then_n ?_)
  obtain ⟨out', hB1, hF⟩ := bind_some hF
  have hf := hf.pn [0, 1, 5]
  have H := H.lt_ [] [] [] [0, 1]
  refine loopC (fun (s : Int) (a : Act) (w : World) => match s with | i => Fr a 26 [(0, (.slice A a'.length c)), (1, (.slice A2 b'.length c2)), (5, (.int .i64 i))] ∧ Mem ⟨w0, []⟩ S [] [] [] [(false, MP.val [(.slice A2 b'.length c2)] (b' : List Int)), (false, MP.val [(.slice A a'.length c)] (a' : List Int))] w) (fun k (s : Int) => laws_vInts_L1 fu a' b' k s = some out') (fun s => out' = Out.next s) 0 fu hB1 ⟨hf, H⟩ (fun s h => by cases h) ?_ ?_
  ·rintro fk i a w hR1 hI
   replace hR1 : laws_vInts_L1 fu a' b' (fk + 1) i = some out' := hR1
   rw [laws_vInts_L1] at hR1
   obtain ⟨hf, H⟩ := hI
   refine sq (sqz (pz 4 hf fun a hf => ?_))
   refine wl_end (then_n (ib hR1 hf (fun hc2 hR1 => ?_) fun hc2 hR1 => ?_))
   ·refine wp_skip (then_n (sq (wp_block (sq (drawn [] (bs := [false, false, false, false, false, false, false, false, false]) (fuel := 9) (Checked.mixed Tryz.checked) rfl rfl fun w hb => ?_)))))
    have H := H.keep hb
    refine zp 0 hf trivial fun a hf => ?_
    refine zp 1 hf trivial fun a hf => ?_
    obtain ⟨e, he, hR1⟩ := bind_some hR1
    obtain ⟨p, o, cs, hx, hr, H⟩ := pre_iaddr H Tryz.underlying29 TF.sz3 1 rfl he
    refine tP 2 rfl rfl rfl rfl hf (by kernel_rfl) (fun _ => trivial) (fun w => rq_iaddrE hf rfl rfl rfl hx w) fun a hf => ?_
    obtain rfl := hr
    refine strT (H.let [] [] [] [0] rfl rfl rfl rfl) (fun w H => trivial) fun hS => ?_
    refine tS 3 [] rfl rfl rfl rfl hf (by kernel_rfl) (by kernel_rfl) hS (fun w H => rq_loadI hf H TF.ls3 0 0 rfl rfl rfl) fun a hf => ?_
    refine zp 4 hf hS fun a hf => ?_
    refine zp 5 hf hS fun a hf => ?_
    obtain ⟨e2, he2, hR1⟩ := bind_some hR1
    obtain ⟨p2, o2, cs2, hx2, hr2, H⟩ := pre_iaddr H Tryz.underlying29 TF.sz3 1 rfl he2
    refine tP 6 rfl rfl rfl rfl hf (by kernel_rfl) (fun _ => hS) (fun w => rq_iaddrE hf rfl rfl rfl hx2 w) fun a hf => ?_
    obtain rfl := hr2
    refine strT (H.let [] [] [] [0, 1] rfl rfl rfl rfl) (fun w H => H.let [] [] [] [1] rfl rfl rfl rfl) fun hS => ?_
    refine tS 7 [] rfl rfl rfl rfl hf (by kernel_rfl) (by kernel_rfl) hS (fun w H => rq_loadI hf H TF.ls3 0 0 rfl rfl rfl) fun a hf => ?_
    refine zp 8 hf hS fun a hf => ?_
    refine dn (by kernel_rfl) ?_
    refine then_n (ib hR1 hf (fun hc3 hR1 => ?_) fun hc3 hR1 => ?_)
    ·refine sqz (pz 1 hf fun a hf => ?_)
     have hf := hf.pn [4]
     refine wl_end (then_n (wp_ret (blk_r (then_r (then_r (blk_r (then_r (then_r (?_)))))))))
     obtain rfl := Option.some.inj hR1
     replace hF := on_ret hF
     obtain rfl := Option.some.inj hF
     refine ret_1 hf rfl (rv_tmp hf rfl) ?_
     exact ⟨_, rfl, H.bel, mk_bool⟩
    ·refine wp_skip (blk_n (then_n (reg (pz 3 hf fun a hf => ?_))))
     have hf := hf.pn [0, 1, 5]
     refine wl_end ?_
     have hf := hf.pn [0, 1, 5]
     have H := H.lt_ [] [] [] [2, 3]
     exact then_n ⟨w64 (i + 1), hR1, hf, H⟩
   ·refine wp_exit (then_x (then_x (blk_e (?_))))
    have hf := hf.pn [0, 1, 5]
    have H := H.lt_ [] [] [] [0, 1]
    exact ⟨i, (Option.some.inj hR1).symm, hf, H⟩
  rintro a w ⟨i2, rfl, hf, H⟩
  replace hF := on_next hF
  refine then_n (sqz (pz 1 hf fun a hf => ?_))
  refine wl_end (then_n (wp_ret (?_)))
  obtain rfl := Option.some.inj hF
  refine ret_1 hf rfl (rv_tmp hf rfl) ?_
  exact ⟨_, rfl, H.bel, mk_bool⟩

theorem laws_vRoutes_ok {S : Nat → Prop} {v0_ : Value} {v1_ : Value} {a' : Route} {b' : Route} {r : Bool} (h0 : VR w0 S v0_ a') (h1 : VR w0 S v1_ b') (hF : laws_vRoutes fu a' b' = some r) :
    Calls Tryz.prog 147 [v0_, v1_].toArray w0 fun e w' => ∃ v, e = .returned v ∧ (Below w0.heap.size w0 w' ∧ VR w' (St ⟨w0, []⟩ S [] [] [] true) v r) := by
 obtain ⟨A, c, rfl, hl⟩ := Route_open h0
 obtain ⟨A2, c2, rfl, hl2⟩ := Route_open h1
 have H := Mem.start ⟨w0, []⟩ S
 have H := H.pushArg (MP.val [(.slice A a'.Fibers.length c)] a'.Fibers) hl
 have H := H.pushArg (MP.val [(.slice A2 b'.Fibers.length c2)] b'.Fibers) hl2
 refine en Tryz.func147 fun a hf => ?_
 rw [laws_vRoutes] at hF
 refine sq (reg (wl0 rfl (op_box hf H rfl rfl (by decide) fun b2 a w hf H => ?_)))
 refine wl0 rfl (op_box hf H rfl rfl (by decide) fun b3 a w hf H => ?_)
 refine pz 1 hf fun a hf => ?_
 refine wl_end (then_n (sq ?_))
 obtain ⟨c3, hGc3, hF⟩ := bind_some hF
 have fh := hf.prune [] rfl
 have Hm := H.lt_ [false, false] [] [] []
 refine midF 4 (.bool c3) fh Hm ?_ fun a w hf H => ?_
 ·refine reg (pz 1 hf fun a hf => ?_)
  refine oq hf (rq_loadB hf H TF.ls3 1 rfl rfl rfl) fun a hf => ?_
  refine pz 1 hf fun a hf => ?_
  refine oq hf (rq_loadB hf H TF.ls3 0 rfl rfl rfl) fun a hf => ?_
  refine pz 2 hf fun a hf => ?_
  refine iteB hGc3 (fun hc hGc3 => ?_) fun hc hGc3 => ?_
  ·have hf := hf.lit 10 rfl hc
   refine pz 1 hf fun a hf => ?_
   refine wlg hf rfl rfl rfl (op_q hf (rq_loadB hf H TF.ls29 1 rfl rfl rfl) rfl (by decide) fun a hf => ?_)
   refine pz 1 hf fun a hf => ?_
   refine wlg hf rfl rfl rfl (op_q hf (rq_loadB hf H TF.ls29 0 rfl rfl rfl) rfl (by decide) fun a hf => ?_)
   obtain ⟨y, hy, hGc3⟩ := bind_some hGc3
   refine wlg hf rfl rfl rfl (op_call hf TF.cl184 rfl (by decide) (laws_vInts_ok (S := TT) (mk_list (H.rt 1 rfl)) (mk_list (H.rt 0 rfl)) hy) fun v w a hp hf => ?_)
   obtain ⟨hb, hp⟩ := hp
   obtain rfl := VR_bool hp
   have H := H.keep hb
   refine pz 2 hf fun a hf => ?_
   obtain rfl := Option.some.inj hGc3
   have hf := hf.pn [4]
   have H := H.lt_ [false, false] [] [] []
   exact wl_end ⟨hf, H⟩
  ·have hf := hf.lit 10 rfl hc
   refine pz 7 hf fun a hf => ?_
   obtain rfl := Option.some.inj hGc3
   have hf := hf.pn [4]
   have H := H.lt_ [false, false] [] [] []
   exact wl_end ⟨hf, H⟩
 refine then_n (wp_ret (?_))
 obtain rfl := Option.some.inj hF
 refine ret_1 hf rfl (rv_tmp hf rfl) ?_
 exact ⟨_, rfl, H.bel, mk_bool⟩

theorem laws_vLights_ok {S : Nat → Prop} {v0_ : Value} {v1_ : Value} {a' : Light} {b' : Light} {r : Bool} (h0 : VR w0 S v0_ a') (h1 : VR w0 S v1_ b') (hF : laws_vLights fu a' b' = some r) :
    Calls Tryz.prog 97 [v0_, v1_].toArray w0 fun e w' => ∃ v, e = .returned v ∧ (Below w0.heap.size w0 w' ∧ VR w' (St ⟨w0, []⟩ S [] [] [] true) v r) := by
 obtain ⟨A, c, rfl, hl⟩ := Light_open h0
 obtain ⟨A2, c2, rfl, hl2⟩ := Light_open h1
 have H := Mem.start ⟨w0, []⟩ S
 have H := H.pushArg (MP.val [(.slice A a'.Route.Fibers.length c)] a'.Route.Fibers) hl
 have H := H.pushArg (MP.val [(.slice A2 b'.Route.Fibers.length c2)] b'.Route.Fibers) hl2
 refine en Tryz.func97 fun a hf => ?_
 rw [laws_vLights] at hF
 refine sq (reg (wl0 rfl (op_box hf H rfl rfl (by decide) fun b2 a w hf H => ?_)))
 refine wl0 rfl (op_box hf H rfl rfl (by decide) fun b3 a w hf H => ?_)
 refine pz 1 hf fun a hf => ?_
 refine wl_end (then_n (sq ?_))
 obtain ⟨c3, hGc3, hF⟩ := bind_some hF
 have fh := hf.prune [] rfl
 have Hm := H.lt_ [false, false] [] [] []
 refine midF 4 (.bool c3) fh Hm ?_ fun a w hf H => ?_
 ·refine reg (pz 1 hf fun a hf => ?_)
  refine oq hf (rq_loadB hf H TF.ls3 1 rfl rfl rfl) fun a hf => ?_
  refine pz 1 hf fun a hf => ?_
  refine oq hf (rq_loadB hf H TF.ls3 0 rfl rfl rfl) fun a hf => ?_
  refine pz 2 hf fun a hf => ?_
  refine iteB hGc3 (fun hc hGc3 => ?_) fun hc hGc3 => ?_
  ·have hf := hf.lit 10 rfl hc
   refine pz 1 hf fun a hf => ?_
   refine wlg hf rfl rfl rfl (op_q hf (rq_loadBN hf H TF.la50 1 rfl rfl rfl rfl) rfl (by decide) fun a hf => ?_)
   refine pz 1 hf fun a hf => ?_
   refine wlg hf rfl rfl rfl (op_q hf (rq_loadBN hf H TF.la50 0 rfl rfl rfl rfl) rfl (by decide) fun a hf => ?_)
   refine wlg hf rfl rfl rfl (op_q hf (rq_eqT hf TF.qeqt50 ([a'.Block.First, a'.Block.Count] : List Int) ([b'.Block.First, b'.Block.Count] : List Int) rfl rfl rfl rfl rfl rfl) rfl (by decide) fun a hf => ?_)
   refine pz 2 hf fun a hf => ?_
   refine iteB hGc3 (fun hc2 hGc3 => ?_) fun hc2 hGc3 => ?_
   ·have hf := hf.lit 17 rfl hc2
    refine pz 1 hf fun a hf => ?_
    refine wlg hf rfl rfl rfl (op_q hf (rq_loadBN hf H TF.la49 1 rfl rfl rfl rfl) rfl (by decide) fun a hf => ?_)
    refine pz 1 hf fun a hf => ?_
    refine wlg hf rfl rfl rfl (op_q hf (rq_loadBN hf H TF.la49 0 rfl rfl rfl rfl) rfl (by decide) fun a hf => ?_)
    obtain ⟨y, hy, hGc3⟩ := bind_some hGc3
    refine wlg hf rfl rfl rfl (op_call hf TF.cl147 rfl (by decide) (laws_vRoutes_ok (S := TT) (Route_mkv (x := a'.Route) (H.rt 1 rfl)) (Route_mkv (x := b'.Route) (H.rt 0 rfl)) hy) fun v w a hp hf => ?_)
    obtain ⟨hb, hp⟩ := hp
    obtain rfl := VR_bool hp
    have H := H.keep hb
    refine pz 2 hf fun a hf => ?_
    obtain rfl := Option.some.inj hGc3
    have hf := hf.pn [4]
    have H := H.lt_ [false, false] [] [] []
    exact wl_end ⟨hf, H⟩
   ·have hf := hf.lit 17 rfl hc2
    refine pz 7 hf fun a hf => ?_
    obtain rfl := Option.some.inj hGc3
    have hf := hf.pn [4]
    have H := H.lt_ [false, false] [] [] []
    exact wl_end ⟨hf, H⟩
  ·have hf := hf.lit 10 rfl hc
   refine pz 14 hf fun a hf => ?_
   obtain rfl := Option.some.inj hGc3
   have hf := hf.pn [4]
   have H := H.lt_ [false, false] [] [] []
   exact wl_end ⟨hf, H⟩
 refine then_n (wp_ret (?_))
 obtain rfl := Option.some.inj hF
 refine ret_1 hf rfl (rv_tmp hf rfl) ?_
 exact ⟨_, rfl, H.bel, mk_bool⟩

theorem laws_vPlans_ok {S : Nat → Prop} {v0_ : Value} {v1_ : Value} {a' : Plan} {b' : Plan} {r : Bool} (h0 : VR w0 S v0_ a') (h1 : VR w0 S v1_ b') (hF : laws_vPlans fu a' b' = some r) :
    Calls Tryz.prog 42 [v0_, v1_].toArray w0 fun e w' => ∃ v, e = .returned v ∧ (Below w0.heap.size w0 w' ∧ VR w' (St ⟨w0, []⟩ S [] [] [] true) v r) := by
 obtain ⟨A, c, A2, c2, A3, c3, rfl, hl, hl2, hl3⟩ := Plan_open h0
 obtain ⟨A4, c4, A5, c5, A6, c6, rfl, hl4, hl5, hl6⟩ := Plan_open h1
 have H := Mem.start ⟨w0, []⟩ S
 have H := H.pushArg (MP.val [(.slice A a'.Network.Nodes.length c)] a'.Network.Nodes) hl
 have H := H.pushArg (MP.val [(.slice A2 a'.Network.Fibers.length c2)] a'.Network.Fibers) hl2
 have H := H.pushArg (MP.val [(.slice A3 a'.Lights.length c3)] a'.Lights) hl3
 have H := H.pushArg (MP.val [(.slice A4 b'.Network.Nodes.length c4)] b'.Network.Nodes) hl4
 have H := H.pushArg (MP.val [(.slice A5 b'.Network.Fibers.length c5)] b'.Network.Fibers) hl5
 have H := H.pushArg (MP.val [(.slice A6 b'.Lights.length c6)] b'.Lights) hl6
 refine en Tryz.func42 fun a hf => ?_
 rw [laws_vPlans] at hF
 refine sq (reg (wl0 rfl (op_box hf H rfl rfl (by decide) fun b2 a w hf H => ?_)))
 refine wl0 rfl (op_box hf H rfl rfl (by decide) fun b3 a w hf H => ?_)
 refine pz 1 hf fun a hf => ?_
 refine wl_end (then_n (sq (sq ?_)))
 obtain ⟨c7, hGc7, hF⟩ := bind_some hF
 have fh := hf.prune [2, 3] rfl
 have Hm := H.lt_ [true, true] [] [] [0, 1, 2, 3, 4, 5]
 refine midF 20 (.bool c7) fh Hm ?_ fun a w hf H => ?_
 ·refine reg (pz 1 hf fun a hf => ?_)
  refine oq hf (rq_loadBN hf H TF.la42 1 rfl rfl rfl rfl) fun a hf => ?_
  refine pz 1 hf fun a hf => ?_
  refine oq hf (rq_loadBN hf H TF.la42 0 rfl rfl rfl rfl) fun a hf => ?_
  obtain ⟨y, hy, hGc7⟩ := bind_some hGc7
  refine oc hf TF.cl96 (laws_vNetworks_ok (S := TT) (Network_mkv (x := a'.Network) (H.rt 5 rfl) (H.rt 4 rfl)) (Network_mkv (x := b'.Network) (H.rt 2 rfl) (H.rt 1 rfl)) hy) fun v w a hp hf => ?_
  obtain ⟨hb, hp⟩ := hp
  obtain rfl := VR_bool hp
  have H := H.keep hb
  refine pz 2 hf fun a hf => ?_
  refine iteB hGc7 (fun hc hGc7 => ?_) fun hc hGc7 => ?_
  ·have hf := hf.lit 12 rfl hc
   refine pz 8 hf fun a hf => ?_
   obtain rfl := Option.some.inj hGc7
   have hf := hf.pn [20, 2, 3]
   have H := H.lt_ [true, true] [] [] [0, 1, 2, 3, 4, 5]
   exact wl_end ⟨hf, H⟩
  ·have hf := hf.lit 12 rfl hc
   refine pz 1 hf fun a hf => ?_
   refine wlg hf rfl rfl rfl (op_q hf (rq_loadB hf H TF.ls43 1 rfl rfl rfl) rfl (by decide) fun a hf => ?_)
   refine pz 2 hf fun a hf => ?_
   refine wlg hf rfl rfl rfl (op_q hf (rq_loadB hf H TF.ls43 0 rfl rfl rfl) rfl (by decide) fun a hf => ?_)
   refine pz 3 hf fun a hf => ?_
   obtain rfl := Option.some.inj hGc7
   have hf := hf.pn [20, 2, 3]
   have H := H.lt_ [true, true] [] [] [0, 1, 2, 3, 4, 5]
   exact wl_end ⟨hf, H⟩
 refine then_n (ib hF hf (fun hc2 hF => ?_) fun hc2 hF => ?_)
 ·refine sqz (pz 1 hf fun a hf => ?_)
  refine wl_end (then_n (wp_ret (then_r (?_))))
  obtain rfl := Option.some.inj hF
  refine ret_1 hf rfl (rv_tmp hf rfl) ?_
  exact ⟨_, rfl, H.bel, mk_bool⟩
 ·refine wp_skip (then_n (sq (sqz (pz 1 hf fun a hf => ?_))))
  refine wl_end (then_n ?_)
  obtain ⟨out', hB1, hF⟩ := bind_some hF
  have hf := hf.pn [2, 3, 5]
  have H := H.lt_ [true, true] [] [] [0, 1, 2, 3, 4, 5]
  refine loopC (fun (s : Int) (a : Act) (w : World) => match s with | i => Fr a 40 [(2, (.pointer (some ⟨b2, 0, none⟩))), (3, (.pointer (some ⟨b3, 0, none⟩))), (5, (.int .i64 i))] ∧ Mem ⟨w0, []⟩ S [⟨b3, 45, [(.slice A4 b'.Network.Nodes.length c4), (.slice A5 b'.Network.Fibers.length c5), (.slice A6 b'.Lights.length c6)]⟩, ⟨b2, 45, [(.slice A a'.Network.Nodes.length c), (.slice A2 a'.Network.Fibers.length c2), (.slice A3 a'.Lights.length c3)]⟩] [] [] [(false, MP.val [(.slice A6 b'.Lights.length c6)] (b'.Lights : List Light)), (false, MP.val [(.slice A5 b'.Network.Fibers.length c5)] (b'.Network.Fibers : List Fiber)), (false, MP.val [(.slice A4 b'.Network.Nodes.length c4)] (b'.Network.Nodes : List ByteArray)), (false, MP.val [(.slice A3 a'.Lights.length c3)] (a'.Lights : List Light)), (false, MP.val [(.slice A2 a'.Network.Fibers.length c2)] (a'.Network.Fibers : List Fiber)), (false, MP.val [(.slice A a'.Network.Nodes.length c)] (a'.Network.Nodes : List ByteArray))] w) (fun k (s : Int) => laws_vPlans_L1 fu a' b' k s = some out') (fun s => out' = Out.next s) 0 fu hB1 ⟨hf, H⟩ (fun s h => by cases h) ?_ ?_
  ·rintro fk i a w hR1 hI
   replace hR1 : laws_vPlans_L1 fu a' b' (fk + 1) i = some out' := hR1
   rw [laws_vPlans_L1] at hR1
   obtain ⟨hf, H⟩ := hI
   refine sq (sqz (pz 2 hf fun a hf => ?_))
   refine oq hf (rq_loadB hf H TF.ls43 1 rfl rfl rfl) fun a hf => ?_
   refine pz 2 hf fun a hf => ?_
   refine wl_end (then_n (ib hR1 hf (fun hc3 hR1 => ?_) fun hc3 hR1 => ?_))
   ·refine wp_skip (then_n (sq (wp_block (sq (drawn [] (bs := [false, false, false, false, false, false, false, false, false, false, false, false]) (fuel := 12) (Checked.mixed Tryz.checked) rfl rfl fun w hb => ?_)))))
    have H := H.keep hb
    refine zp 0 hf trivial fun a hf => ?_
    refine strT (H.let [false, true] [] [] [] rfl rfl rfl rfl) (fun w H => trivial) fun hS => ?_
    refine tS 1 [] rfl rfl rfl rfl hf (by kernel_rfl) (by kernel_rfl) hS (fun w H => rq_loadB hf H TF.ls43 0 rfl rfl rfl) fun a hf => ?_
    refine zp 2 hf hS fun a hf => ?_
    obtain ⟨e, he, hR1⟩ := bind_some hR1
    obtain ⟨p, o, cs, hx, hr, H⟩ := pre_iaddr H Tryz.underlying43 TF.sz52 3 rfl he
    refine tP 3 rfl rfl rfl rfl hf (by kernel_rfl) (fun _ => hS) (fun w => rq_iaddrE hf rfl rfl rfl hx w) fun a hf => ?_
    obtain ⟨A7, c8, rfl, hl7⟩ := Light_cells hr
    have H := H.push (false, MP.val [(.slice A7 e.Route.Fibers.length c8)] e.Route.Fibers) hl7
    refine strT (H.let [false, true] [] [] [1] rfl rfl rfl rfl) (fun w H => H.let [true] [] [] [] rfl rfl rfl rfl) fun hS => ?_
    refine tS 4 [] rfl rfl rfl rfl hf (by kernel_rfl) (by kernel_rfl) hS (fun w H => rq_loadIN hf H TF.la52 0 0 rfl rfl rfl rfl) fun a hf => ?_
    refine zp 5 hf hS fun a hf => ?_
    refine strT (H.let [true, true] [] [] [1] rfl rfl rfl rfl) (fun w H => H.let [false, true] [] [] [0] rfl rfl rfl rfl) fun hS => ?_
    refine tS 6 [] rfl rfl rfl rfl hf (by kernel_rfl) (by kernel_rfl) hS (fun w H => rq_loadB hf H TF.ls43 0 rfl rfl rfl) fun a hf => ?_
    refine zp 7 hf hS fun a hf => ?_
    obtain ⟨e2, he2, hR1⟩ := bind_some hR1
    obtain ⟨p2, o2, cs2, hx2, hr2, H⟩ := pre_iaddr H Tryz.underlying43 TF.sz52 2 rfl he2
    refine tP 8 rfl rfl rfl rfl hf (by kernel_rfl) (fun _ => hS) (fun w => rq_iaddrE hf rfl rfl rfl hx2 w) fun a hf => ?_
    obtain ⟨A8, c9, rfl, hl8⟩ := Light_cells hr2
    have H := H.push (false, MP.val [(.slice A8 e2.Route.Fibers.length c9)] e2.Route.Fibers) hl8
    refine strT (H.let [true, true] [] [] [1, 3] rfl rfl rfl rfl) (fun w H => H.let [true, true] [] [] [1] rfl rfl rfl rfl) fun hS => ?_
    refine tS 9 [] rfl rfl rfl rfl hf (by kernel_rfl) (by kernel_rfl) hS (fun w H => rq_loadIN hf H TF.la52 0 0 rfl rfl rfl rfl) fun a hf => ?_
    obtain ⟨y2, hy2, hR1⟩ := bind_some hR1
    refine n1 10 (by kernel_rfl) rfl rfl (op_call hf TF.cl97 rfl (by decide) (laws_vLights_ok (S := TT) (Light_mkv (x := e) (H.rt 2 rfl)) (Light_mkv (x := e2) (H.rt 0 rfl)) hy2) fun v2 w a hp2 hf => ?_)
    obtain ⟨hb2, hp2⟩ := hp2
    obtain rfl := VR_bool hp2
    have H := H.keep hb2
    have hS := H.lt_ [true, true] [] [] [1, 3]
    refine ⟨fun _ => hS, ?_⟩
    refine zp 11 hf hS fun a hf => ?_
    refine dn (by kernel_rfl) ?_
    have hf := hf.pn [2, 3, 5, 39]
    refine then_n (ib hR1 hf (fun hc4 hR1 => ?_) fun hc4 hR1 => ?_)
    ·refine sqz (pz 1 hf fun a hf => ?_)
     refine wl_end (then_n (wp_ret (blk_r (then_r (then_r (blk_r (then_r (then_r (?_)))))))))
     obtain rfl := Option.some.inj hR1
     replace hF := on_ret hF
     obtain rfl := Option.some.inj hF
     refine ret_1 hf rfl (rv_tmp hf rfl) ?_
     exact ⟨_, rfl, H.bel, mk_bool⟩
    ·refine wp_skip (blk_n (then_n (reg (pz 3 hf fun a hf => ?_))))
     refine wl_end ?_
     have hf := hf.pn [2, 3, 5]
     have H := H.lt_ [true, true] [] [] [4, 5, 6, 7, 8, 9]
     exact then_n ⟨w64 (i + 1), hR1, hf, H⟩
   ·refine wp_exit (then_x (then_x (blk_e (?_))))
    have hf := hf.pn [2, 3, 5]
    have H := H.lt_ [true, true] [] [] [0, 1, 2, 3, 4, 5]
    exact ⟨i, (Option.some.inj hR1).symm, hf, H⟩
  rintro a w ⟨i2, rfl, hf, H⟩
  replace hF := on_next hF
  refine then_n (sqz (pz 1 hf fun a hf => ?_))
  refine wl_end (then_n (wp_ret (?_)))
  obtain rfl := Option.some.inj hF
  refine ret_1 hf rfl (rv_tmp hf rfl) ?_
  exact ⟨_, rfl, H.bel, mk_bool⟩

theorem spec_DrawCollidingLights_ok {S : Nat → Prop} {v0_ : Value} {code : List By} {r : Plan × Light} (h0 : VR w0 S v0_ code) (hF : spec_DrawCollidingLights fu code = some r) :
    Calls Tryz.prog 106 [v0_].toArray w0 fun e w' => ∃ v, e = .returned v ∧ (∃ (A0_0 : Option Addr) (c0_0 : Nat) (F0_0 : List Nat) (A0_1 : Option Addr) (c0_1 : Nat) (F0_1 : List Nat) (A0_2 : Option Addr) (c0_2 : Nat) (A1_2 : Option Addr) (c1_2 : Nat) (F1_2 : List Nat), v = .tuple #[(.agg #[(.slice A0_0 r.1.Network.Nodes.length c0_0), (.slice A0_1 r.1.Network.Fibers.length c0_1), (.slice A0_2 r.1.Lights.length c0_2)]), (.agg #[(.int .i64 r.2.Id), (.int .i64 r.2.Route.Start), (.slice A1_2 r.2.Route.Fibers.length c1_2), (.int .i64 r.2.Block.First), (.int .i64 r.2.Block.Count)])] ∧ Mem ⟨w0, []⟩ S [] [] [⟨F0_0, MP.own F0_0 [(.slice A0_0 r.1.Network.Nodes.length c0_0)] (r.1.Network.Nodes : List ByteArray)⟩, ⟨F0_1, MP.own F0_1 [(.slice A0_1 r.1.Network.Fibers.length c0_1)] (r.1.Network.Fibers : List Fiber)⟩, ⟨F1_2, MP.own F1_2 [(.slice A1_2 r.2.Route.Fibers.length c1_2)] (r.2.Route.Fibers : List Int)⟩] [(true, MP.val [(.slice A0_2 r.1.Lights.length c0_2)] (r.1.Lights : List Light))] w') := by
 obtain ⟨A, c, rfl, hl⟩ := VR_list h0
 have H := Mem.start ⟨w0, []⟩ S
 have H := H.pushArg (MP.val [(.slice A code.length c)] code) hl
 refine en Tryz.func106 fun a hf => ?_
 rw [spec_DrawCollidingLights] at hF
 refine sq (reg (wl0 rfl (op_alloc hf H TF.zv45 rfl (by decide) fun b' a w hf H => ?_)))
 refine wl0 rfl (op_alloc hf H TF.zv52 rfl (by decide) fun b2 a w hf H => ?_)
 refine wr (pz 1 hf fun a hf => ?_)
 refine oq hf (rq_build hf (cs := [(.slice A code.length c), (.int .i64 0), (.int .u64 0)]) rfl (fun w => by kernel_rfl)) fun a hf => ?_
 refine wl0 rfl (op_box hf H rfl rfl (by decide) fun b3 a w hf H => ?_)
 refine pz 1 hf fun a hf => ?_
 refine wr (pz 1 hf fun a hf => ?_)
 obtain ⟨y, hy, hF⟩ := bind_some hF
 refine oc hf TF.cl145 (spec_l1Cur_anyPlan_ok (S := St ⟨w0, []⟩ S [⟨b3, 160, [(.slice A code.length c), (.int .i64 0), (.int .u64 0)]⟩, ⟨b2, 52, [(.int .i64 0), (.int .i64 0), (.slice none 0 0), (.int .i64 0), (.int .i64 0)]⟩, ⟨b', 45, [(.slice none 0 0), (.slice none 0 0), (.slice none 0 0)]⟩] [] [] false) (H.boxAt 0 rfl) ((L1CurP_mk (x := ({ code := code, at_ := 0, seed := (⟨0⟩ : U64) } : L1CurP)) (H.get 0 rfl))) (H.notSt 0 rfl _) hy) fun v w a hp hf => ?_
 obtain ⟨cs, hr, ⟨hx, hx2⟩, A2, c2, F, A3, c3, F2, A4, c4, E, rfl, Hc⟩ := hp
 obtain ⟨A5, c5, rfl, hl2⟩ := L1CurP_cells hr
 obtain ⟨rfl, rfl⟩ := fx_slice hx rfl rfl
 have H := H.compB 0 rfl Hc (.inr rfl)
 have H := H.push (false, MP.val [(.slice A y.2.code.length c)] (y.2.code : List By)) (by rw [hx2]; exact H.get 0 rfl)
 have H := H.lend 0 rfl
 have H := H.lend 1 rfl
 refine wl0 rfl (op_alloc hf H TF.zv45 rfl (by decide) fun b4 a w hf H => ?_)
 refine wl0 rfl (op_storeB hf H 0 TF.sz45 rfl rfl rfl rfl rfl rfl (nle rfl) fun w H => ?_)
 refine wl_end (then_n (sq (drawn [4, 5] (bs := [false, false, false, false, false, false]) (fuel := 6) (Checked.mixed Tryz.checked) rfl rfl fun w hb => ?_)))
 have H := H.keep hb
 refine strT (H.let [true, false, false, false] [false] [false, false] [] rfl rfl rfl rfl) (fun w H => trivial) fun hS => ?_
 refine tS 0 [0, 4, 5] rfl rfl rfl rfl hf (by kernel_rfl) (by kernel_rfl) hS (fun w H => rq_loadBN hf H TF.la45 0 rfl rfl rfl rfl) fun a hf => ?_
 refine zp 1 hf hS fun a hf => ?_
 refine tS 2 [2, 3, 4, 5] rfl rfl rfl rfl hf (by kernel_rfl) (by kernel_rfl) hS (fun w H => rq_loadBN hf H TF.la45 0 rfl rfl rfl rfl) fun a hf => ?_
 have H := H.freeze 0 rfl
 obtain ⟨y2, hy2, hF⟩ := bind_some hF
 refine n1 3 (by kernel_rfl) rfl rfl (op_call hf TF.cl158 rfl (by decide) (spec_l1Cur_light_ok (S := St ⟨w0, []⟩ S [⟨b4, 45, [(.slice A2 y.1.Network.Nodes.length c2), (.slice A3 y.1.Network.Fibers.length c3), (.slice A4 y.1.Lights.length c4)]⟩, ⟨b3, 160, [(.slice A y.2.code.length c), (.int .i64 y.2.at_), (.int .u64 y.2.seed.n)]⟩, ⟨b2, 52, [(.int .i64 0), (.int .i64 0), (.slice none 0 0), (.int .i64 0), (.int .i64 0)]⟩, ⟨b', 45, [(.slice none 0 0), (.slice none 0 0), (.slice none 0 0)]⟩] [] [⟨F, MP.own F [(.slice A2 y.1.Network.Nodes.length c2)] (y.1.Network.Nodes : List ByteArray)⟩, ⟨F2, MP.own F2 [(.slice A3 y.1.Network.Fibers.length c3)] (y.1.Network.Fibers : List Fiber)⟩] false) (H.boxAt 1 rfl) ((L1CurP_mk (x := y.2) (H.get 3 rfl))) (H.notSt 1 rfl _) (Plan_mkv (x := y.1) (rep_weak (α := List ByteArray) (H.get 2 rfl)) (rep_weak (α := List Fiber) (H.get 1 rfl)) (rep_weak (α := List Light) (H.get 0 rfl))) hy2) fun v2 w a hp2 hf => ?_)
 obtain ⟨hch, cs2, hbx, hr2, ⟨hx3, hx4⟩, hs⟩ := hp2
 obtain ⟨F3, hp3, hN⟩ := hs
 obtain ⟨A6, c6, F4, rfl, rfl, hl3⟩ := Light_vo hp3
 obtain ⟨A7, c7, rfl, hl4⟩ := L1CurP_cells hr2
 obtain ⟨rfl, rfl⟩ := fx_slice hx3 rfl rfl
 have hx5 := hx4.trans hx2
 have H := H.wroteBoxO 1 rfl hch hbx (X := [(⟨F4, MP.own F4 [(.slice A6 y2.1.Route.Fibers.length c6)] (y2.1.Route.Fibers : List Int)⟩ : DI)]) (by simpa using hN.1) (ps1 hl3 ps0) (by simpa using hN.2)
 have H := H.push (false, MP.val [(.slice A y2.2.code.length c)] (y2.2.code : List By)) (by rw [hx4]; exact H.get 3 rfl)
 have H := H.lend 0 rfl
 have hS := H.lt_ [true, false, false, false] [] [false, false, false] []
 refine ⟨fun _ => hS, ?_⟩
 refine n1 4 (by kernel_rfl) rfl rfl (op_storeB hf H 3 TF.sz45 rfl rfl rfl rfl rfl rfl (nle rfl) fun w H => ?_)
 refine ⟨fun h => absurd h (by decide), ?_⟩
 refine n1 5 (by kernel_rfl) rfl rfl (op_storeB hf H 2 TF.sz52 rfl rfl rfl rfl rfl rfl (nle rfl) fun w H => ?_)
 refine ⟨fun h => absurd h (by decide), ?_⟩
 refine dn (by kernel_rfl) ?_
 refine then_n (wp_ret (?_))
 have H := H.frontD 2 rfl
 have H := H.frontD 2 rfl
 obtain rfl := Option.some.inj hF
 refine ret_2 (fn := Tryz.f106) (r := .cell 2 45) (s := .cell 3 52) hf rfl (rv_cellN hf H 3 TF.la45 rfl rfl rfl) (rv_cellN hf H 2 TF.la52 rfl rfl rfl) ?_
 have H := H.lt_ [false, false, false, false] [] [true, true, true] [2]
 exact ⟨_, rfl, A2, c2, F, A3, c3, F2, A4, c4, A6, c6, F4, rfl, H⟩

theorem spec_DrawAddLight_ok {S : Nat → Prop} {v0_ : Value} {code : List By} {r : Plan × Light} (h0 : VR w0 S v0_ code) (hF : spec_DrawAddLight fu code = some r) :
    Calls Tryz.prog 51 [v0_].toArray w0 fun e w' => ∃ v, e = .returned v ∧ (∃ (A0_0 : Option Addr) (c0_0 : Nat) (F0_0 : List Nat) (A0_1 : Option Addr) (c0_1 : Nat) (F0_1 : List Nat) (A0_2 : Option Addr) (c0_2 : Nat) (A1_2 : Option Addr) (c1_2 : Nat) (F1_2 : List Nat), v = .tuple #[(.agg #[(.slice A0_0 r.1.Network.Nodes.length c0_0), (.slice A0_1 r.1.Network.Fibers.length c0_1), (.slice A0_2 r.1.Lights.length c0_2)]), (.agg #[(.int .i64 r.2.Id), (.int .i64 r.2.Route.Start), (.slice A1_2 r.2.Route.Fibers.length c1_2), (.int .i64 r.2.Block.First), (.int .i64 r.2.Block.Count)])] ∧ Mem ⟨w0, []⟩ S [] [] [⟨F0_0, MP.own F0_0 [(.slice A0_0 r.1.Network.Nodes.length c0_0)] (r.1.Network.Nodes : List ByteArray)⟩, ⟨F0_1, MP.own F0_1 [(.slice A0_1 r.1.Network.Fibers.length c0_1)] (r.1.Network.Fibers : List Fiber)⟩, ⟨F1_2, MP.own F1_2 [(.slice A1_2 r.2.Route.Fibers.length c1_2)] (r.2.Route.Fibers : List Int)⟩] [(true, MP.val [(.slice A0_2 r.1.Lights.length c0_2)] (r.1.Lights : List Light))] w') := by
 obtain ⟨A, c, rfl, hl⟩ := VR_list h0
 have H := Mem.start ⟨w0, []⟩ S
 have H := H.pushArg (MP.val [(.slice A code.length c)] code) hl
 refine en Tryz.func51 fun a hf => ?_
 rw [spec_DrawAddLight] at hF
 refine sq (reg (wl0 rfl (op_alloc hf H TF.zv45 rfl (by decide) fun b' a w hf H => ?_)))
 refine wl0 rfl (op_alloc hf H TF.zv52 rfl (by decide) fun b2 a w hf H => ?_)
 refine wr (pz 1 hf fun a hf => ?_)
 obtain ⟨y, hy, hF⟩ := bind_some hF
 refine oc hf TF.cl106 (spec_DrawCollidingLights_ok (S := TT) (mk_list (H.rt 0 rfl)) hy) fun v w a hp hf => ?_
 obtain ⟨A2, c2, F, A3, c3, F2, A4, c4, A5, c5, F3, rfl, Hc⟩ := hp
 have H := H.comp Hc (.inl rfl)
 have H := H.lend 0 rfl
 have H := H.lend 1 rfl
 have H := H.lend 2 rfl
 refine pz 2 hf fun a hf => ?_
 refine wl0 rfl (op_storeB hf H 1 TF.sz45 rfl rfl rfl rfl rfl rfl (nle rfl) fun w H => ?_)
 refine wl0 rfl (op_storeB hf H 0 TF.sz52 rfl rfl rfl rfl rfl rfl (nle rfl) fun w H => ?_)
 refine wl_end (then_n (wp_ret (?_)))
 have H := H.frontD 2 rfl
 have H := H.frontD 2 rfl
 have H := H.frontD 2 rfl
 obtain rfl := Option.some.inj hF
 refine ret_2 (fn := Tryz.f51) (r := .cell 2 45) (s := .cell 3 52) hf rfl (rv_cellN hf H 1 TF.la45 rfl rfl rfl) (rv_cellN hf H 0 TF.la52 rfl rfl rfl) ?_
 have H := H.lt_ [false, false] [] [true, true, true] [3]
 exact ⟨_, rfl, A2, c2, F, A3, c3, F2, A4, c4, A5, c5, F3, rfl, H⟩

theorem spec_IsValidPlan_ok {S : Nat → Prop} {v0_ : Value} {p : Plan} {r : Bool} (h0 : VR w0 S v0_ p) (hF : spec_IsValidPlan fu p = some r) :
    Calls Tryz.prog 54 [v0_].toArray w0 fun e w' => ∃ v, e = .returned v ∧ (Below w0.heap.size w0 w' ∧ VR w' (St ⟨w0, []⟩ S [] [] [] true) v r) := by
 obtain ⟨A, c, A2, c2, A3, c3, rfl, hl, hl2, hl3⟩ := Plan_open h0
 have H := Mem.start ⟨w0, []⟩ S
 have H := H.pushArg (MP.val [(.slice A p.Network.Nodes.length c)] p.Network.Nodes) hl
 have H := H.pushArg (MP.val [(.slice A2 p.Network.Fibers.length c2)] p.Network.Fibers) hl2
 have H := H.pushArg (MP.val [(.slice A3 p.Lights.length c3)] p.Lights) hl3
 refine en Tryz.func54 fun a hf => ?_
 rw [spec_IsValidPlan] at hF
 refine sq (reg (wl0 rfl (op_box hf H rfl rfl (by decide) fun b' a w hf H => ?_)))
 refine pz 1 hf fun a hf => ?_
 refine wr (oq hf (rq_loadBN hf H TF.la45 0 rfl rfl rfl rfl) fun a hf => ?_)
 obtain ⟨y, hy, hF⟩ := bind_some hF
 refine oc hf TF.cl61 (spec_l9Good_ok (S := TT) (Plan_mkv (x := p) (H.rt 2 rfl) (H.rt 1 rfl) (H.rt 0 rfl)) hy) fun v w a hp hf => ?_
 obtain ⟨hb, hp⟩ := hp
 obtain rfl := VR_bool hp
 have H := H.keep hb
 refine pz 1 hf fun a hf => ?_
 refine wl_end (then_n (wp_ret (?_)))
 obtain rfl := Option.some.inj hF
 refine ret_1 hf rfl (rv_tmp hf rfl) ?_
 exact ⟨_, rfl, H.bel, mk_bool⟩

theorem impl_CollidingLights_ok {S : Nat → Prop} {v0_ : Value} {v1_ : Value} {p : Plan} {x1 : Light} {r : List Int × Bool} (h0 : VR w0 S v0_ p) (h1 : VR w0 S v1_ x1) (hF : impl_CollidingLights fu p x1 = some r) :
    Calls Tryz.prog 56 [v0_, v1_].toArray w0 fun e w' => ∃ v, e = .returned v ∧ (Below w0.heap.size w0 w' ∧ ∃ F0, ∃ u0 u1, v = .tuple #[u0, u1] ∧ VO w' F0 u0 r.1 ∧ VR w' (St ⟨w0, []⟩ S [] [] [] true) u1 r.2 ∧ New w0 w' F0) := by
 obtain ⟨A, c, A2, c2, A3, c3, rfl, hl, hl2, hl3⟩ := Plan_open h0
 obtain ⟨A4, c4, rfl, hl4⟩ := Light_open h1
 have H := Mem.start ⟨w0, []⟩ S
 have H := H.pushArg (MP.val [(.slice A p.Network.Nodes.length c)] p.Network.Nodes) hl
 have H := H.pushArg (MP.val [(.slice A2 p.Network.Fibers.length c2)] p.Network.Fibers) hl2
 have H := H.pushArg (MP.val [(.slice A3 p.Lights.length c3)] p.Lights) hl3
 have H := H.pushArg (MP.val [(.slice A4 x1.Route.Fibers.length c4)] x1.Route.Fibers) hl4
 refine en Tryz.func56 fun a hf => ?_
 rw [impl_CollidingLights] at hF
 refine sq (reg (wl0 rfl (op_box hf H rfl rfl (by decide) fun b' a w hf H => ?_)))
 refine wl0 rfl (op_box hf H rfl rfl (by decide) fun b2 a w hf H => ?_)
 refine pz 2 hf fun a hf => ?_
 refine wl_end (then_n (sq (sq ?_)))
 obtain ⟨c5, hGc5, hF⟩ := bind_some hF
 have fh := hf.prune [2, 3] rfl
 have Hm := H.lt_ [true, true] [] [] [0, 1, 2, 3]
 refine midF 18 (.bool c5) fh Hm ?_ fun a w hf H => ?_
 ·refine reg (oq hf (rq_loadBN hf H TF.la45 1 rfl rfl rfl rfl) fun a hf => ?_)
  obtain ⟨y, hy, hGc5⟩ := bind_some hGc5
  refine oc hf TF.cl50 (impl_IsValidPlan_ok (S := TT) (Plan_mkv (x := p) (H.rt 3 rfl) (H.rt 2 rfl) (H.rt 1 rfl)) hy) fun v w a hp hf => ?_
  obtain ⟨hb, hp⟩ := hp
  obtain rfl := VR_bool hp
  have H := H.keep hb
  refine pz 2 hf fun a hf => ?_
  refine iteB hGc5 (fun hc hGc5 => ?_) fun hc hGc5 => ?_
  ·have hf := hf.lit 12 rfl hc
   refine pz 6 hf fun a hf => ?_
   obtain rfl := Option.some.inj hGc5
   have hf := hf.pn [18, 2, 3]
   have H := H.lt_ [true, true] [] [] [0, 1, 2, 3]
   exact wl_end ⟨hf, H⟩
  ·have hf := hf.lit 12 rfl hc
   refine pz 1 hf fun a hf => ?_
   refine wlg hf rfl rfl rfl (op_q hf (rq_loadBN hf H TF.la42 1 rfl rfl rfl rfl) rfl (by decide) fun a hf => ?_)
   refine wlg hf rfl rfl rfl (op_q hf (rq_loadBN hf H TF.la52 0 rfl rfl rfl rfl) rfl (by decide) fun a hf => ?_)
   obtain ⟨y2, hy2, hGc5⟩ := bind_some hGc5
   refine wlg hf rfl rfl rfl (op_call hf TF.cl103 rfl (by decide) (impl_isLight_ok (S := TT) (Network_mkv (x := p.Network) (H.rt 3 rfl) (H.rt 2 rfl)) (Light_mkv (x := x1) (H.rt 0 rfl)) hy2) fun v2 w a hp2 hf => ?_)
   obtain ⟨hb2, hp2⟩ := hp2
   obtain rfl := VR_bool hp2
   have H := H.keep hb2
   refine pz 2 hf fun a hf => ?_
   obtain rfl := Option.some.inj hGc5
   have hf := hf.pn [18, 2, 3]
   have H := H.lt_ [true, true] [] [] [0, 1, 2, 3]
   exact wl_end ⟨hf, H⟩
 refine then_n (ib hF hf (fun hc2 hF => ?_) fun hc2 hF => ?_)
 ·refine sqz (pz 2 hf fun a hf => ?_)
  refine wl_end (then_n (wp_ret (then_r (?_))))
  have H := H.ownNil (Int)
  have H := H.lend 0 rfl
  obtain rfl := Option.some.inj hF
  refine ret_2 (fn := Tryz.f56) (r := .tmp 4) (s := .tmp 5) hf rfl (rv_tmp hf rfl) (rv_tmp hf rfl) ?_
  have hN := H.ends (X := [(⟨[], MP.own [] [(.slice none 0 0)] ([] : List Int)⟩ : DI)])
  simp only [List.flatMap_cons, List.flatMap_nil, List.append_nil, List.append_assoc] at hN
  exact ⟨_, rfl, H.bel, [], _, _, rfl, (mko_list (H.ownAt 0 rfl)), mk_bool, by first | exact hN | simpa using hN⟩
 ·refine wp_skip (then_n (sq (reg (wl0 rfl (op_bslice hf H (.sh true) rfl 3 ([] : List Int) [] rfl (fun w => by kernel_rfl) rfl (by decide) rfl trivial el0 (by decide) fun A5 a w hf H => ?_)))))
  refine pz 1 hf fun a hf => ?_
  refine wl_end (then_n (sq (sqz (pz 1 hf fun a hf => ?_))))
  refine oq hf (rq_loadB hf H TF.ls43 1 rfl rfl rfl) fun a hf => ?_
  refine pz 2 hf fun a hf => ?_
  refine wl_end (then_n ?_)
  obtain ⟨out2, hB1, hF⟩ := bind_some hF
  have hf := hf.pn [3, 6, 21, 22, 23]
  have H := H.lt_ [true, false] [true] [] [0, 1]
  refine loopC (fun (s : List Int × Int) (a : Act) (w : World) => match s with | (out', i) => ∃ (A6 : Option Addr) (c6 : Nat) (E : Go.TypeId), Fr a 44 [(3, (.pointer (some ⟨b2, 0, none⟩))), (6, (.slice A6 out'.length c6)), (21, (.slice A3 p.Lights.length c3)), (22, (.int .i64 (p.Lights.length : Int))), (23, (.int .i64 i))] ∧ Mem ⟨w0, []⟩ S [⟨b2, 52, [(.int .i64 x1.Id), (.int .i64 x1.Route.Start), (.slice A4 x1.Route.Fibers.length c4), (.int .i64 x1.Block.First), (.int .i64 x1.Block.Count)]⟩] [⟨.sh true, E, A6, c6, (out' : List Int)⟩] [] [(false, MP.val [(.slice A4 x1.Route.Fibers.length c4)] (x1.Route.Fibers : List Int)), (false, MP.val [(.slice A3 p.Lights.length c3)] (p.Lights : List Light))] w) (fun k (s : List Int × Int) => impl_CollidingLights_L1 fu p x1 k s.1 s.2 = some out2) (fun s => out2 = s) (([] : List Int), 0) fu hB1 ⟨A5, 0, 3, hf, H⟩ (fun s h => by cases h) ?_ ?_
  ·rintro fk ⟨out', i⟩ a w hR1 hI
   replace hR1 : impl_CollidingLights_L1 fu p x1 (fk + 1) out' i = some out2 := hR1
   rw [impl_CollidingLights_L1] at hR1
   obtain ⟨A6, c6, E, hf, H⟩ := hI
   refine sqz (pz 1 hf fun a hf => ?_)
   refine wl_end (then_n (sq (ib hR1 hf (fun hc3 hR1 => ?_) fun hc3 hR1 => ?_)))
   ·refine wp_skip (then_n (sq (wp_block (sq (reg ?_)))))
    obtain ⟨e, he, hR1⟩ := bind_some hR1
    refine wl0 rfl (op_iaddr hf H Tryz.underlying43 TF.sz52 1 rfl rfl rfl he (by decide) fun p2 o cs a hf hr H => ?_)
    obtain ⟨A7, c7, rfl, hl5⟩ := Light_cells hr
    have H := H.push (false, MP.val [(.slice A7 e.Route.Fibers.length c7)] e.Route.Fibers) hl5
    refine oq hf (rq_loadIN hf H TF.la52 1 0 rfl rfl rfl rfl) fun a hf => ?_
    refine wl0 rfl (op_alloc hf H TF.zv52 rfl (by decide) fun b3 a w hf H => ?_)
    refine wl0 rfl (op_storeB hf H 0 TF.sz52 rfl rfl rfl rfl rfl rfl (nle rfl) fun w H => ?_)
    refine wl_end (then_n (sq ?_))
    obtain ⟨c8, hGc8, hR1⟩ := bind_some hR1
    have fh2 := hf.prune [3, 6, 8, 21, 22, 23] rfl
    have Hm2 := H.lt_ [true, true] [true] [] [0, 2, 3]
    refine midF 36 (.bool c8) fh2 Hm2 ?_ fun a w hf H => ?_
    ·refine reg (pz 1 hf fun a hf => ?_)
     refine oq hf (rq_loadB hf H TF.ls3 0 rfl rfl rfl) fun a hf => ?_
     refine pz 1 hf fun a hf => ?_
     refine oq hf (rq_loadB hf H TF.ls3 1 rfl rfl rfl) fun a hf => ?_
     refine pz 2 hf fun a hf => ?_
     refine iteB hGc8 (fun hc4 hGc8 => ?_) fun hc4 hGc8 => ?_
     ·have hf := hf.lit 32 rfl hc4
      refine wlg hf rfl rfl rfl (op_q hf (rq_loadBN hf H TF.la52 0 rfl rfl rfl rfl) rfl (by decide) fun a hf => ?_)
      refine wlg hf rfl rfl rfl (op_q hf (rq_loadBN hf H TF.la52 1 rfl rfl rfl rfl) rfl (by decide) fun a hf => ?_)
      obtain ⟨y3, hy3, hGc8⟩ := bind_some hGc8
      refine wlg hf rfl rfl rfl (op_call hf TF.cl99 rfl (by decide) (impl_collide_ok (S := TT) (Light_mkv (x := e) (H.rt 0 rfl)) (Light_mkv (x := x1) (H.rt 2 rfl)) hy3) fun v3 w a hp3 hf => ?_)
      obtain ⟨hb3, hp3⟩ := hp3
      obtain rfl := VR_bool hp3
      have H := H.keep hb3
      refine pz 1 hf fun a hf => ?_
      obtain rfl := Option.some.inj hGc8
      have hf := hf.pn [36, 3, 6, 8, 21, 22, 23]
      have H := H.lt_ [true, true] [true] [] [0, 2, 3]
      exact wl_end ⟨hf, H⟩
     ·have hf := hf.lit 32 rfl hc4
      refine pz 4 hf fun a hf => ?_
      obtain rfl := Option.some.inj hGc8
      have hf := hf.pn [36, 3, 6, 8, 21, 22, 23]
      have H := H.lt_ [true, true] [true] [] [0, 2, 3]
      exact wl_end ⟨hf, H⟩
    refine then_n (ib hR1 hf (fun hc5 hR1 => ?_) fun hc5 hR1 => ?_)
    ·refine reg (pz 2 hf fun a hf => ?_)
     refine oq hf (rq_loadB hf H TF.ls3 0 rfl rfl rfl) fun a hf => ?_
     refine wl0 rfl (op_bslice hf H (.sh true) rfl 3 ([e.Id] : List Int) [(.int .i64 e.Id)] rfl (fun w => by kernel_rfl) rfl (by decide) rfl trivial (el1 (y := e.Id) (rfl)) (by decide) fun A8 a w hf H => ?_)
     obtain ⟨l, hl, hR1⟩ := bind_some hR1
     refine wl0 rfl (op_appR hf H Tryz.underlying29 TF.ai3 rfl (by decide) 1 0 rfl rfl rfl rfl (.inr rfl) hl (by decide) fun E2 A9 c9 a w hf H => ?_)
     refine pz 1 hf fun a hf => ?_
     refine wl_end (blk_n (then_n (reg (pz 2 hf fun a hf => ?_))))
     refine wl_end ?_
     have hf := hf.pn [3, 6, 21, 22, 23]
     have H := H.lt_ [false, true] [false, true] [] [1, 2]
     exact then_n ⟨(l, w64 (i + 1)), hR1, A9, c9, E2, hf, H⟩
    ·refine wp_skip (blk_n (then_n (reg (pz 2 hf fun a hf => ?_))))
     refine wl_end ?_
     have hf := hf.pn [3, 6, 21, 22, 23]
     have H := H.lt_ [false, true] [true] [] [1, 2]
     exact then_n ⟨(out', w64 (i + 1)), hR1, A6, c6, E, hf, H⟩
   ·refine wp_exit (then_x (then_x (blk_e (?_))))
    have hf := hf.pn [3, 6, 21, 22, 23]
    have H := H.lt_ [true] [true] [] [0, 1]
    exact ⟨(out', i), (Option.some.inj hR1).symm, A6, c6, E, hf, H⟩
  rintro a w ⟨⟨out3, i2⟩, rfl, A10, c10, E3, hf, H⟩
  try dsimp only at hF
  refine then_n (sqz (pz 3 hf fun a hf => ?_))
  refine wl_end (then_n (wp_ret (?_)))
  have H := H.rowOwn 0 rfl rfl
  obtain ⟨F, H⟩ := H.freezeOwn 0 rfl
  have H := H.lend 0 rfl
  obtain rfl := Option.some.inj hF
  refine ret_2 (fn := Tryz.f56) (r := .tmp 4) (s := .tmp 5) hf rfl (rv_tmp hf rfl) (rv_tmp hf rfl) ?_
  have hN := H.ends (X := [(⟨F, MP.own F [(.slice A10 out3.length c10)] (out3 : List Int)⟩ : DI)])
  simp only [List.flatMap_cons, List.flatMap_nil, List.append_nil, List.append_assoc] at hN
  exact ⟨_, rfl, H.bel, F, _, _, rfl, (mko_list (H.ownAt 0 rfl)), mk_bool, by first | exact hN | simpa using hN⟩

theorem impl_fiberMasks_ok {S : Nat → Prop} {v0_ : Value} {p : Plan} {r : List Int} (h0 : VR w0 S v0_ p) (hF : impl_fiberMasks fu p = some r) :
    Calls Tryz.prog 112 [v0_].toArray w0 fun e w' => ∃ v, e = .returned v ∧ (Below w0.heap.size w0 w' ∧ ∃ F0, VO w' F0 v r ∧ New w0 w' F0) := by
 obtain ⟨A, c, A2, c2, A3, c3, rfl, hl, hl2, hl3⟩ := Plan_open h0
 have H := Mem.start ⟨w0, []⟩ S
 have H := H.pushArg (MP.val [(.slice A p.Network.Nodes.length c)] p.Network.Nodes) hl
 have H := H.pushArg (MP.val [(.slice A2 p.Network.Fibers.length c2)] p.Network.Fibers) hl2
 have H := H.pushArg (MP.val [(.slice A3 p.Lights.length c3)] p.Lights) hl3
 refine en Tryz.func112 fun a hf => ?_
 rw [impl_fiberMasks] at hF
 refine sq (reg (wl0 rfl (op_box hf H rfl rfl (by decide) fun b' a w hf H => ?_)))
 refine pz 1 hf fun a hf => ?_
 refine wr (pz 2 hf fun a hf => ?_)
 refine oq hf (rq_loadB hf H TF.ls40 0 rfl rfl rfl) fun a hf => ?_
 refine pz 1 hf fun a hf => ?_
 obtain ⟨l, hl, hF⟩ := bind_some hF
 refine wl0 rfl (op_make (z0 := (0 : Int)) hf H Tryz.underlying29 TF.ai3 rfl (by decide) rfl rfl rfl hl (by decide) fun A4 c4 a w hf H => ?_)
 refine pz 1 hf fun a hf => ?_
 refine wl_end (then_n (sq (sqz (pz 1 hf fun a hf => ?_))))
 refine oq hf (rq_loadB hf H TF.ls43 0 rfl rfl rfl) fun a hf => ?_
 refine pz 2 hf fun a hf => ?_
 refine wl_end (then_n ?_)
 obtain ⟨out2, hB1, hF⟩ := bind_some hF
 have hf := hf.pn [3, 14, 15, 16]
 have H := H.lt_ [false] [true] [] [0]
 refine loopC (fun (s : List Int × Int) (a : Act) (w : World) => match s with | (out', i) => ∃ (A5 : Option Addr) (c5 : Nat) (E : Go.TypeId), Fr a 40 [(3, (.slice A5 out'.length c5)), (14, (.slice A3 p.Lights.length c3)), (15, (.int .i64 (p.Lights.length : Int))), (16, (.int .i64 i))] ∧ Mem ⟨w0, []⟩ S [] [⟨.sh true, E, A5, c5, (out' : List Int)⟩] [] [(false, MP.val [(.slice A3 p.Lights.length c3)] (p.Lights : List Light))] w) (fun k (s : List Int × Int) => impl_fiberMasks_L1 fu p k s.1 s.2 = some out2) (fun s => out2 = s) (l, 0) fu hB1 ⟨A4, c4, 3, hf, H⟩ (fun s h => by cases h) ?_ ?_
 ·rintro fk ⟨out', i⟩ a w hR1 hI
  replace hR1 : impl_fiberMasks_L1 fu p (fk + 1) out' i = some out2 := hR1
  rw [impl_fiberMasks_L1] at hR1
  obtain ⟨A5, c5, E, hf, H⟩ := hI
  refine sqz (pz 1 hf fun a hf => ?_)
  refine wl_end (then_n (sq (ib hR1 hf (fun hc hR1 => ?_) fun hc hR1 => ?_)))
  ·refine wp_skip (then_n (sq (wp_block (sq (reg ?_)))))
   obtain ⟨e, he, hR1⟩ := bind_some hR1
   refine wl0 rfl (op_iaddr hf H Tryz.underlying43 TF.sz52 0 rfl rfl rfl he (by decide) fun p2 o cs a hf hr H => ?_)
   obtain ⟨A6, c6, rfl, hl4⟩ := Light_cells hr
   have H := H.push (false, MP.val [(.slice A6 e.Route.Fibers.length c6)] e.Route.Fibers) hl4
   refine oq hf (rq_loadIN hf H TF.la52 1 0 rfl rfl rfl rfl) fun a hf => ?_
   refine wl0 rfl (op_alloc hf H TF.zv52 rfl (by decide) fun b2 a w hf H => ?_)
   refine wl0 rfl (op_storeB hf H 0 TF.sz52 rfl rfl rfl rfl rfl rfl (nle rfl) fun w H => ?_)
   refine wr (pz 2 hf fun a hf => ?_)
   refine oq hf (rq_loadB hf H TF.ls29 0 rfl rfl rfl) fun a hf => ?_
   refine pz 2 hf fun a hf => ?_
   refine wl_end (then_n ?_)
   obtain ⟨out4, hB2, hR1⟩ := bind_some hR1
   have hf := hf.pn [3, 5, 14, 15, 16, 22, 23, 24]
   have H := H.lt_ [true] [true] [] [0, 2]
   refine loopC (fun (s : List Int × Int) (a : Act) (w : World) => match s with | (out3, i2) => ∃ (A7 : Option Addr) (c7 : Nat) (E2 : Go.TypeId), Fr a 40 [(3, (.slice A7 out3.length c7)), (5, (.pointer (some ⟨b2, 0, none⟩))), (14, (.slice A3 p.Lights.length c3)), (15, (.int .i64 (p.Lights.length : Int))), (16, (.int .i64 i)), (22, (.slice A6 e.Route.Fibers.length c6)), (23, (.int .i64 (e.Route.Fibers.length : Int))), (24, (.int .i64 i2))] ∧ Mem ⟨w0, []⟩ S [⟨b2, 52, [(.int .i64 e.Id), (.int .i64 e.Route.Start), (.slice A6 e.Route.Fibers.length c6), (.int .i64 e.Block.First), (.int .i64 e.Block.Count)]⟩] [⟨.sh true, E2, A7, c7, (out3 : List Int)⟩] [] [(false, MP.val [(.slice A6 e.Route.Fibers.length c6)] (e.Route.Fibers : List Int)), (false, MP.val [(.slice A3 p.Lights.length c3)] (p.Lights : List Light))] w) (fun k (s : List Int × Int) => impl_fiberMasks_L2 fu e k s.1 s.2 = some out4) (fun s => out4 = s) (out', 0) fu hB2 ⟨A5, c5, E, hf, H⟩ (fun s h => by cases h) ?_ ?_
   ·rintro fk ⟨out3, i2⟩ a w hR2 hI
    replace hR2 : impl_fiberMasks_L2 fu e (fk + 1) out3 i2 = some out4 := hR2
    rw [impl_fiberMasks_L2] at hR2
    obtain ⟨A7, c7, E2, hf, H⟩ := hI
    refine sqz (pz 1 hf fun a hf => ?_)
    refine wl_end (then_n (sq (ib hR2 hf (fun hc2 hR2 => ?_) fun hc2 hR2 => ?_)))
    ·refine wp_skip (then_n (sq (wp_block (sq (reg ?_)))))
     obtain ⟨e2, he2, hR2⟩ := bind_some hR2
     refine wl0 rfl (op_iaddr hf H Tryz.underlying29 TF.sz3 0 rfl rfl rfl he2 (by decide) fun p3 o2 cs2 a hf hr2 H => ?_)
     obtain rfl := hr2
     refine oq hf (rq_loadI hf H TF.ls3 0 0 rfl rfl rfl) fun a hf => ?_
     refine pz 1 hf fun a hf => ?_
     refine wl_end (then_n (drawn [9] (bs := [false, false, false, false, false, false, false, false, false, false]) (fuel := 10) (Checked.mixed Tryz.checked) rfl rfl fun w hb => ?_))
     have H := H.keep hb
     refine zp 0 hf trivial fun a hf => ?_
     refine zp 1 hf trivial fun a hf => ?_
     obtain ⟨e3, he3, hR2⟩ := bind_some hR2
     obtain ⟨p4, o3, hA, hx⟩ := pre_iaddrR H Tryz.underlying29 TF.sz3 0 rfl he3
     refine tP 2 rfl rfl rfl rfl hf (by kernel_rfl) (fun _ => trivial) (fun w => rq_iaddrE hf rfl rfl rfl hx w) fun a hf => ?_
     refine strT (H.let [false] [true] [] [] rfl rfl rfl rfl) (fun w H => trivial) fun hS => ?_
     refine tS 3 [3, 7, 8, 9] rfl rfl rfl rfl hf (by kernel_rfl) (by kernel_rfl) hS (fun w H => rq_loadRow (off := 0) hf H TF.ls3 0 rfl rfl hA he3 (fun w T cs h => by obtain rfl := h; rfl)) fun a hf => ?_
     refine zp 4 hf hS fun a hf => ?_
     refine strT (H.let [true] [true] [] [] rfl rfl rfl rfl) (fun w H => H.let [false] [true] [] [] rfl rfl rfl rfl) fun hS => ?_
     refine tS 5 [5, 6, 7, 8, 9] rfl rfl rfl rfl hf (by kernel_rfl) (by kernel_rfl) hS (fun w H => rq_loadBN hf H TF.la50 0 rfl rfl rfl rfl) fun a hf => ?_
     obtain ⟨y, hy, hR2⟩ := bind_some hR2
     refine n1 6 (by kernel_rfl) rfl rfl (op_call hf TF.cl149 rfl (by decide) (impl_maskOf_ok (S := TT) Block_mkv hy) fun v w a hp hf => ?_)
     obtain ⟨hb, hp⟩ := hp
     obtain rfl := VR_int hp
     have H := H.keep hb
     have hS := H.lt_ [true] [true] [] []
     refine ⟨fun _ => hS, ?_⟩
     refine zp 7 hf hS fun a hf => ?_
     obtain ⟨e4, he4, hR2⟩ := bind_some hR2
     refine n1 8 (by kernel_rfl) rfl rfl (op_iaddrR hf H Tryz.underlying29 TF.sz3 0 rfl rfl rfl he4 (by decide) fun p5 o4 cs3 a hf hA2 hr3 hk => ?_)
     obtain rfl := hr3
     have hS := H.lt_ [true] [true] [] []
     refine ⟨fun _ => hS, ?_⟩
     refine n1 9 (by kernel_rfl) rfl rfl (op_storeR (e' := bor e3 y) (o := o4) (off := 0) hf H TF.sz3 0 rfl rfl rfl rfl rfl (nle rfl) rfl hA2 he4 (st_full rfl) fun w H => ?_)
     replace hf : Fr a 40 [(3, (.slice A7 out3.length c7)), (5, (.pointer (some ⟨b2, 0, none⟩))), (7, (.int .i64 e2)), (14, (.slice A3 p.Lights.length c3)), (15, (.int .i64 (p.Lights.length : Int))), (16, (.int .i64 i)), (22, (.slice A6 e.Route.Fibers.length c6)), (23, (.int .i64 (e.Route.Fibers.length : Int))), (24, (.int .i64 i2)), (28, (.slice A7 out3.length c7)), (29, (.int .i64 e2)), (30, (.pointer (some ⟨p4, o3 + 0, none⟩))), (31, (.int .i64 e3)), (32, (.pointer (some ⟨b2, 3, none⟩))), (33, (.agg #[(.int .i64 e.Block.First), (.int .i64 e.Block.Count)])), (34, (.int .i64 y)), (35, (.int .i64 (bor e3 y))), (36, (.pointer (some ⟨p5, o4 + 0, none⟩)))] := hf.prune [3, 5, 7, 14, 15, 16, 22, 23, 24, 28, 29, 30, 31, 32, 33, 34, 35, 36] rfl
     replace hf : Fr a 40 [(3, (.slice A7 (out3.set (e2 : Int).toNat (bor e3 y)).length c7)), (5, (.pointer (some ⟨b2, 0, none⟩))), (7, (.int .i64 e2)), (14, (.slice A3 p.Lights.length c3)), (15, (.int .i64 (p.Lights.length : Int))), (16, (.int .i64 i)), (22, (.slice A6 e.Route.Fibers.length c6)), (23, (.int .i64 (e.Route.Fibers.length : Int))), (24, (.int .i64 i2)), (28, (.slice A7 (out3.set (e2 : Int).toNat (bor e3 y)).length c7)), (29, (.int .i64 e2)), (30, (.pointer (some ⟨p4, o3 + 0, none⟩))), (31, (.int .i64 e3)), (32, (.pointer (some ⟨b2, 3, none⟩))), (33, (.agg #[(.int .i64 e.Block.First), (.int .i64 e.Block.Count)])), (34, (.int .i64 y)), (35, (.int .i64 (bor e3 y))), (36, (.pointer (some ⟨p5, o4 + 0, none⟩)))] := by simpa only [List.length_set, Nat.add_zero] using hf
     refine ⟨fun h => absurd h (by decide), ?_⟩
     refine dn (by kernel_rfl) ?_
     refine blk_n (then_n (reg (pz 2 hf fun a hf => ?_)))
     refine wl_end ?_
     have hf := hf.pn [3, 5, 14, 15, 16, 22, 23, 24]
     have H := H.lt_ [true] [true] [] [1, 2]
     exact then_n ⟨(out3.set (e2 : Int).toNat (bor e3 y), w64 (i2 + 1)), hR2, A7, c7, E2, hf, H⟩
    ·refine wp_exit (then_x (then_x (blk_e (?_))))
     have hf := hf.pn [3, 5, 14, 15, 16, 22, 23, 24]
     have H := H.lt_ [true] [true] [] [0, 1]
     exact ⟨(out3, i2), (Option.some.inj hR2).symm, A7, c7, E2, hf, H⟩
   rintro a w ⟨⟨out5, i3⟩, rfl, A8, c8, E3, hf, H⟩
   try dsimp only at hR1
   refine blk_n (then_n (reg (pz 2 hf fun a hf => ?_)))
   refine wl_end ?_
   have hf := hf.pn [3, 14, 15, 16]
   have H := H.lt_ [false] [true] [] [1]
   exact then_n ⟨(out5, w64 (i + 1)), hR1, A8, c8, E3, hf, H⟩
  ·refine wp_exit (then_x (then_x (blk_e (?_))))
   have hf := hf.pn [3, 14, 15, 16]
   have H := H.lt_ [] [true] [] [0]
   exact ⟨(out', i), (Option.some.inj hR1).symm, A5, c5, E, hf, H⟩
 rintro a w ⟨⟨out6, i4⟩, rfl, A9, c9, E4, hf, H⟩
 try dsimp only at hF
 refine then_n (sqz (pz 2 hf fun a hf => ?_))
 refine wl_end (then_n (wp_ret (?_)))
 have H := H.rowOwn 0 rfl rfl
 obtain ⟨F, H⟩ := H.freezeOwn 0 rfl
 have H := H.lend 0 rfl
 obtain rfl := Option.some.inj hF
 refine ret_1 hf rfl (rv_tmp hf rfl) ?_
 have hN := H.ends (X := [(⟨F, MP.own F [(.slice A9 out6.length c9)] (out6 : List Int)⟩ : DI)])
 simp only [List.flatMap_cons, List.flatMap_nil, List.append_nil, List.append_assoc] at hN
 exact ⟨_, rfl, H.bel, F, (mko_list (H.ownAt 0 rfl)), by first | exact hN | simpa using hN⟩

/- math/bits.OnesCount64 -/
theorem math_bits_OnesCount64_ok {S : Nat → Prop} {v0_ : Value} {x1 : U64} {r : Int} (h0 : VR w0 S v0_ x1) (hF : math_bits_OnesCount64 fu x1 = some r) :
    Calls Tryz.prog 162 [v0_].toArray w0 fun e w' => ∃ v, e = .returned v ∧ (Below w0.heap.size w0 w' ∧ VR w' (St ⟨w0, []⟩ S [] [] [] true) v r) := by
 obtain rfl := VR_u64 h0
 have H := Mem.start ⟨w0, []⟩ S
 refine en Tryz.func162 fun a hf => ?_
 rw [math_bits_OnesCount64] at hF
 refine sqz (pz 1 hf fun a hf => ?_)
 refine wr (pz 1 hf fun a hf => ?_)
 obtain ⟨q, hq, hF⟩ := bind_some hF
 refine oq hf (rq_shrK rfl hf rfl rfl hq) fun a hf => ?_
 refine oq hf (rq_andu64 hf rfl rfl) fun a hf => ?_
 refine pz 1 hf fun a hf => ?_
 refine oq hf (rq_andu64 hf rfl rfl) fun a hf => ?_
 refine oq hf (rq_addK u64w hf rfl rfl) fun a hf => ?_
 refine pz 1 hf fun a hf => ?_
 refine wr (pz 1 hf fun a hf => ?_)
 obtain ⟨q2, hq2, hF⟩ := bind_some hF
 refine oq hf (rq_shrK rfl hf rfl rfl hq2) fun a hf => ?_
 refine oq hf (rq_andu64 hf rfl rfl) fun a hf => ?_
 refine pz 1 hf fun a hf => ?_
 refine oq hf (rq_andu64 hf rfl rfl) fun a hf => ?_
 refine oq hf (rq_addK u64w hf rfl rfl) fun a hf => ?_
 refine pz 1 hf fun a hf => ?_
 have hf := hf.pn [0]
 refine wr (pz 1 hf fun a hf => ?_)
 obtain ⟨q3, hq3, hF⟩ := bind_some hF
 refine oq hf (rq_shrK rfl hf rfl rfl hq3) fun a hf => ?_
 refine pz 1 hf fun a hf => ?_
 refine oq hf (rq_addK u64w hf rfl rfl) fun a hf => ?_
 refine oq hf (rq_andu64 hf rfl rfl) fun a hf => ?_
 refine pz 1 hf fun a hf => ?_
 refine wr (pz 2 hf fun a hf => ?_)
 obtain ⟨q4, hq4, hF⟩ := bind_some hF
 refine oq hf (rq_shrK rfl hf rfl rfl hq4) fun a hf => ?_
 refine oq hf (rq_addK u64w hf rfl rfl) fun a hf => ?_
 refine pz 1 hf fun a hf => ?_
 refine wr (pz 2 hf fun a hf => ?_)
 obtain ⟨q5, hq5, hF⟩ := bind_some hF
 refine oq hf (rq_shrK rfl hf rfl rfl hq5) fun a hf => ?_
 refine oq hf (rq_addK u64w hf rfl rfl) fun a hf => ?_
 refine pz 1 hf fun a hf => ?_
 have hf := hf.pn [0]
 refine wr (pz 2 hf fun a hf => ?_)
 obtain ⟨q6, hq6, hF⟩ := bind_some hF
 refine oq hf (rq_shrK rfl hf rfl rfl hq6) fun a hf => ?_
 refine oq hf (rq_addK u64w hf rfl rfl) fun a hf => ?_
 refine pz 1 hf fun a hf => ?_
 refine wr (pz 1 hf fun a hf => ?_)
 refine oq hf (rq_conv i64w Tryz.underlying158 Tryz.underlying3 hf rfl) fun a hf => ?_
 refine pz 2 hf fun a hf => ?_
 refine wl_end (then_n (wp_ret (?_)))
 obtain rfl := Option.some.inj hF
 refine ret_1 hf rfl (rv_tmp hf rfl) ?_
 exact ⟨_, rfl, H.bel, mk_int⟩

/- math/bits.OnesCount -/
theorem math_bits_OnesCount_ok {S : Nat → Prop} {v0_ : Value} {x1 : U64} {r : Int} (h0 : VR w0 S v0_ x1) (hF : math_bits_OnesCount fu x1 = some r) :
    Calls Tryz.prog 113 [v0_].toArray w0 fun e w' => ∃ v, e = .returned v ∧ (Below w0.heap.size w0 w' ∧ VR w' (St ⟨w0, []⟩ S [] [] [] true) v r) := by
 obtain rfl := VR_u64 h0
 have H := Mem.start ⟨w0, []⟩ S
 refine en Tryz.func113 fun a hf => ?_
 rw [math_bits_OnesCount] at hF
 refine sqz (pz 1 hf fun a hf => ?_)
 refine wl_end (then_n (sq (cd_f hf rfl rfl (wp_skip (then_n (sqz (pz 1 hf fun a hf => ?_)))))))
 obtain ⟨y, hy, hF⟩ := bind_some hF
 refine oc hf TF.cl162 (math_bits_OnesCount64_ok (S := TT) mk_u64 hy) fun v w a hp hf => ?_
 obtain ⟨hb, hp⟩ := hp
 obtain rfl := VR_int hp
 have H := H.keep hb
 refine pz 1 hf fun a hf => ?_
 refine wl_end (then_n (wp_ret (?_)))
 obtain rfl := Option.some.inj hF
 refine ret_1 hf rfl (rv_tmp hf rfl) ?_
 exact ⟨_, rfl, H.bel, mk_int⟩

theorem impl_PlanUse_ok {S : Nat → Prop} {v0_ : Value} {p : Plan} {r : Int × Int × Bool} (h0 : VR w0 S v0_ p) (hF : impl_PlanUse fu p = some r) :
    Calls Tryz.prog 57 [v0_].toArray w0 fun e w' => ∃ v, e = .returned v ∧ (Below w0.heap.size w0 w' ∧ ∃ u0 u1 u2, v = .tuple #[u0, u1, u2] ∧ VR w' (St ⟨w0, []⟩ S [] [] [] true) u0 r.1 ∧ VR w' (St ⟨w0, []⟩ S [] [] [] true) u1 r.2.1 ∧ VR w' (St ⟨w0, []⟩ S [] [] [] true) u2 r.2.2) := by
 obtain ⟨A, c, A2, c2, A3, c3, rfl, hl, hl2, hl3⟩ := Plan_open h0
 have H := Mem.start ⟨w0, []⟩ S
 have H := H.pushArg (MP.val [(.slice A p.Network.Nodes.length c)] p.Network.Nodes) hl
 have H := H.pushArg (MP.val [(.slice A2 p.Network.Fibers.length c2)] p.Network.Fibers) hl2
 have H := H.pushArg (MP.val [(.slice A3 p.Lights.length c3)] p.Lights) hl3
 refine en Tryz.func57 fun a hf => ?_
 rw [impl_PlanUse] at hF
 refine sq (reg (wl0 rfl (op_box hf H rfl rfl (by decide) fun b' a w hf H => ?_)))
 refine pz 3 hf fun a hf => ?_
 refine wl_end (then_n (sq (sq (reg (oq hf (rq_loadBN hf H TF.la45 0 rfl rfl rfl rfl) fun a hf => ?_)))))
 obtain ⟨y, hy, hF⟩ := bind_some hF
 refine oc hf TF.cl50 (impl_IsValidPlan_ok (S := TT) (Plan_mkv (x := p) (H.rt 2 rfl) (H.rt 1 rfl) (H.rt 0 rfl)) hy) fun v w a hp hf => ?_
 obtain ⟨hb, hp⟩ := hp
 obtain rfl := VR_bool hp
 have H := H.keep hb
 refine pz 1 hf fun a hf => ?_
 refine wl_end (then_n (ib hF hf (fun hc hF => ?_) fun hc hF => ?_))
 ·refine sqz (pz 3 hf fun a hf => ?_)
  refine wl_end (then_n (wp_ret (then_r (?_))))
  obtain rfl := Option.some.inj hF
  refine ret_3 (fn := Tryz.f57) (r := .tmp 2) (s := .tmp 3) (t := .tmp 4) hf rfl (rv_tmp hf rfl) (rv_tmp hf rfl) (rv_tmp hf rfl) ?_
  exact ⟨_, rfl, H.bel, _, _, _, rfl, mk_int, mk_int, mk_bool⟩
 ·refine wp_skip (then_n (sqz (pz 2 hf fun a hf => ?_)))
  refine wl_end (then_n (sq (sq (reg (oq hf (rq_loadBN hf H TF.la45 0 rfl rfl rfl rfl) fun a hf => ?_)))))
  obtain ⟨y2, hy2, hF⟩ := bind_some hF
  refine oc hf TF.cl112 (impl_fiberMasks_ok (S := TT) (Plan_mkv (x := p) (H.rt 2 rfl) (H.rt 1 rfl) (H.rt 0 rfl)) hy2) fun v2 w a hp2 hf => ?_
  obtain ⟨hb2, F, hp3, hN⟩ := hp2
  obtain ⟨A4, c4, rfl, hl4⟩ := VO_list hp3
  have H := H.addOwn hb2 (X := [(⟨F, MP.own F [(.slice A4 y2.length c4)] (y2 : List Int)⟩ : DI)]) (by simpa using hN.1) (ps1 hl4 ps0) (by simpa using hN.2)
  have H := H.lend 0 rfl
  refine pz 2 hf fun a hf => ?_
  refine wl_end (then_n ?_)
  obtain ⟨out', hB1, hF⟩ := bind_some hF
  have hf := hf.pn [5, 6, 13, 14, 15]
  have H := H.lt_ [false] [] [true] [0]
  refine loopC (fun (s : Int × Int × Int) (a : Act) (w : World) => match s with | (sum, all, i) => Fr a 32 [(5, (.int .i64 sum)), (6, (.int .i64 all)), (13, (.slice A4 y2.length c4)), (14, (.int .i64 (y2.length : Int))), (15, (.int .i64 i))] ∧ Mem ⟨w0, []⟩ S [] [] [⟨F, MP.own F [(.slice A4 y2.length c4)] (y2 : List Int)⟩] [(true, MP.val [(.slice A4 y2.length c4)] (y2 : List Int))] w) (fun k (s : Int × Int × Int) => impl_PlanUse_L1 fu y2 k s.1 s.2.1 s.2.2 = some out') (fun s => out' = s) (0, 0, 0) fu hB1 ⟨hf, H⟩ (fun s h => by cases h) ?_ ?_
  ·rintro fk ⟨sum, all, i⟩ a w hR1 hI
   replace hR1 : impl_PlanUse_L1 fu y2 (fk + 1) sum all i = some out' := hR1
   rw [impl_PlanUse_L1] at hR1
   obtain ⟨hf, H⟩ := hI
   refine sqz (pz 1 hf fun a hf => ?_)
   refine wl_end (then_n (sq (ib hR1 hf (fun hc2 hR1 => ?_) fun hc2 hR1 => ?_)))
   ·refine wp_skip (then_n (sq (wp_block (sq (reg ?_)))))
    obtain ⟨e, he, hR1⟩ := bind_some hR1
    refine wl0 rfl (op_iaddr hf H Tryz.underlying29 TF.sz3 0 rfl rfl rfl he (by decide) fun p2 o cs a hf hr H => ?_)
    obtain rfl := hr
    refine oq hf (rq_loadI hf H TF.ls3 0 0 rfl rfl rfl) fun a hf => ?_
    refine pz 1 hf fun a hf => ?_
    refine wr (pz 2 hf fun a hf => ?_)
    refine oq hf (rq_conv u64w Tryz.underlying3 Tryz.underlying139 hf rfl) fun a hf => ?_
    obtain ⟨y3, hy3, hR1⟩ := bind_some hR1
    refine oc hf TF.cl113 (math_bits_OnesCount_ok (S := TT) (mk_u64 (x := (⟨wu64 e⟩ : U64))) hy3) fun v3 w a hp4 hf => ?_
    obtain ⟨hb3, hp4⟩ := hp4
    obtain rfl := VR_int hp4
    have H := H.keep hb3
    refine pz 2 hf fun a hf => ?_
    refine wl_end (then_n (reg (pz 4 hf fun a hf => ?_)))
    refine wl_end (blk_n (then_n (reg (pz 2 hf fun a hf => ?_))))
    have hf := hf.pn [5, 6, 13, 14, 15]
    refine wl_end ?_
    have hf := hf.pn [5, 6, 13, 14, 15]
    have H := H.lt_ [] [] [true] [1]
    exact then_n ⟨(w64 (sum + y3), bor all e, w64 (i + 1)), hR1, hf, H⟩
   ·refine wp_exit (then_x (then_x (blk_e (?_))))
    have hf := hf.pn [5, 6, 13, 14, 15]
    have H := H.lt_ [] [] [true] [0]
    exact ⟨(sum, all, i), (Option.some.inj hR1).symm, hf, H⟩
  rintro a w ⟨⟨sum2, all2, i2⟩, rfl, hf, H⟩
  try dsimp only at hF
  refine then_n (sqz (pz 2 hf fun a hf => ?_))
  refine oq hf (rq_conv u64w Tryz.underlying3 Tryz.underlying139 hf rfl) fun a hf => ?_
  obtain ⟨y4, hy4, hF⟩ := bind_some hF
  refine oc hf TF.cl113 (math_bits_OnesCount_ok (S := TT) (mk_u64 (x := (⟨wu64 all2⟩ : U64))) hy4) fun v4 w a hp5 hf => ?_
  obtain ⟨hb4, hp5⟩ := hp5
  obtain rfl := VR_int hp5
  have H := H.keep hb4
  refine pz 3 hf fun a hf => ?_
  refine wl_end (then_n (wp_ret (?_)))
  obtain rfl := Option.some.inj hF
  refine ret_3 (fn := Tryz.f57) (r := .tmp 2) (s := .tmp 3) (t := .tmp 4) hf rfl (rv_tmp hf rfl) (rv_tmp hf rfl) (rv_tmp hf rfl) ?_
  exact ⟨_, rfl, H.bel, _, _, _, rfl, mk_int, mk_int, mk_bool⟩

theorem laws_FnLights_ok {S : Nat → Prop} {v0_ : Value} {code : List By} {r : Bool} (h0 : VR w0 S v0_ code) (hF : laws_FnLights fu code = some r) :
    Calls Tryz.prog 10 [v0_].toArray w0 fun e w' => ∃ v, e = .returned v ∧ (Below w0.heap.size w0 w' ∧ VR w' (St ⟨w0, []⟩ S [] [] [] true) v r) := by
 obtain ⟨A, c, rfl, hl⟩ := VR_list h0
 have H := Mem.start ⟨w0, []⟩ S
 have H := H.pushArg (MP.val [(.slice A code.length c)] code) hl
 refine en Tryz.func10 fun a hf => ?_
 rw [laws_FnLights] at hF
 refine sqz (pz 1 hf fun a hf => ?_)
 refine wl_end (then_n (sq (sqz (pz 1 hf fun a hf => ?_))))
 obtain ⟨y, hy, hF⟩ := bind_some hF
 refine oc hf TF.cl40 (laws_vBig_ok (S := TT) (mk_list (H.rt 0 rfl)) hy) fun v w a hp hf => ?_
 obtain ⟨hb, hp⟩ := hp
 obtain rfl := VR_bool hp
 have H := H.keep hb
 refine wl_end (then_n (ib hF hf (fun hc hF => ?_) fun hc hF => ?_))
 ·refine sqz (pz 1 hf fun a hf => ?_)
  refine wl_end (then_n (wp_ret (then_r (?_))))
  obtain rfl := Option.some.inj hF
  refine ret_1 hf rfl (rv_tmp hf rfl) ?_
  exact ⟨_, rfl, H.bel, mk_bool⟩
 ·refine wp_skip (then_n (sqz (pz 1 hf fun a hf => ?_)))
  obtain ⟨y2, hy2, hF⟩ := bind_some hF
  refine oc hf TF.cl51 (spec_DrawAddLight_ok (S := TT) (mk_list (H.rt 0 rfl)) hy2) fun v2 w a hp2 hf => ?_
  obtain ⟨A2, c2, F, A3, c3, F2, A4, c4, A5, c5, F3, rfl, Hc⟩ := hp2
  have H := H.comp Hc (.inl rfl)
  have H := H.lend 0 rfl
  have H := H.lend 1 rfl
  have H := H.lend 2 rfl
  refine pz 3 hf fun a hf => ?_
  refine wl0 rfl (op_alloc hf H TF.zv45 rfl (by decide) fun b' a w hf H => ?_)
  refine wl0 rfl (op_alloc hf H TF.zv52 rfl (by decide) fun b2 a w hf H => ?_)
  refine wl0 rfl (op_storeB hf H 1 TF.sz45 rfl rfl rfl rfl rfl rfl (nle rfl) fun w H => ?_)
  refine wl0 rfl (op_storeB hf H 0 TF.sz52 rfl rfl rfl rfl rfl rfl (nle rfl) fun w H => ?_)
  refine wr (oq hf (rq_loadBN hf H TF.la45 1 rfl rfl rfl rfl) fun a hf => ?_)
  refine oq hf (rq_loadBN hf H TF.la52 0 rfl rfl rfl rfl) fun a hf => ?_
  obtain ⟨y3, hy3, hF⟩ := bind_some hF
  refine oc hf TF.cl52 (impl_AddLight_ok (S := TT) (Plan_mkv (x := y2.1) (H.rt 2 rfl) (H.rt 1 rfl) (H.rt 3 rfl)) (Light_mkv (x := y2.2) (H.rt 0 rfl)) hy3) fun v3 w a hp3 hf => ?_
  obtain ⟨hb2, F4, v4, v5, rfl, hp4, hp5, hN⟩ := hp3
  obtain ⟨A6, c6, F5, A7, c7, F6, A8, c8, F7, rfl, rfl, hl2, hl3, hl4⟩ := Plan_vo hp4
  obtain rfl := VR_bool hp5
  have H := H.addOwn hb2 (X := [(⟨F5, MP.own F5 [(.slice A6 y3.1.Network.Nodes.length c6)] (y3.1.Network.Nodes : List ByteArray)⟩ : DI), (⟨F6, MP.own F6 [(.slice A7 y3.1.Network.Fibers.length c7)] (y3.1.Network.Fibers : List Fiber)⟩ : DI), (⟨F7, MP.own F7 [(.slice A8 y3.1.Lights.length c8)] (y3.1.Lights : List Light)⟩ : DI)]) (by simpa using hN.1) (ps1 hl2 (ps1 hl3 (ps1 hl4 ps0))) (by simpa using hN.2)
  have H := H.lend 0 rfl
  have H := H.lend 1 rfl
  have H := H.lend 2 rfl
  refine pz 3 hf fun a hf => ?_
  refine wl0 rfl (op_alloc hf H TF.zv45 rfl (by decide) fun b3 a w hf H => ?_)
  refine wl0 rfl (op_storeB hf H 0 TF.sz45 rfl rfl rfl rfl rfl rfl (nle rfl) fun w H => ?_)
  refine pz 1 hf fun a hf => ?_
  have hf := hf.pn [3, 4, 5, 6]
  refine wl_end (then_n (sq (sq (reg (oq hf (rq_loadBN hf H TF.la45 2 rfl rfl rfl rfl) fun a hf => ?_)))))
  refine oq hf (rq_loadBN hf H TF.la52 1 rfl rfl rfl rfl) fun a hf => ?_
  obtain ⟨y4, hy4, hF⟩ := bind_some hF
  refine oc hf TF.cl53 (spec_AddLight_ok (S := TT) (Plan_mkv (x := y2.1) (H.rt 5 rfl) (H.rt 4 rfl) (H.rt 6 rfl)) (Light_mkv (x := y2.2) (H.rt 3 rfl)) hy4) fun v6 w a hp6 hf => ?_
  obtain ⟨hb3, v7, v8, rfl, hp7, hp8⟩ := hp6
  obtain ⟨A9, c9, A10, c10, A11, c11, rfl, hl5, hl6, hl7⟩ := Plan_open hp7
  obtain rfl := VR_bool hp8
  obtain ⟨F8, H⟩ := H.addRo hb3 (p := MP.and (MP.val [(.slice A9 y4.1.Network.Nodes.length c9)] (y4.1.Network.Nodes : List ByteArray)) (MP.and (MP.val [(.slice A10 y4.1.Network.Fibers.length c10)] (y4.1.Network.Fibers : List Fiber)) (MP.val [(.slice A11 y4.1.Lights.length c11)] (y4.1.Lights : List Light)))) ⟨hl5, ⟨hl6, hl7⟩⟩
  have H := H.lendQ 0 (q := MP.val [(.slice A9 y4.1.Network.Nodes.length c9)] (y4.1.Network.Nodes : List ByteArray)) rfl fun _ _ h => h.1
  have H := H.lendQ 0 (q := MP.val [(.slice A10 y4.1.Network.Fibers.length c10)] (y4.1.Network.Fibers : List Fiber)) rfl fun _ _ h => h.2.1
  have H := H.lendQ 0 (q := MP.val [(.slice A11 y4.1.Lights.length c11)] (y4.1.Lights : List Light)) rfl fun _ _ h => h.2.2
  refine pz 3 hf fun a hf => ?_
  refine wl0 rfl (op_alloc hf H TF.zv45 rfl (by decide) fun b4 a w hf H => ?_)
  refine wl0 rfl (op_storeB hf H 0 TF.sz45 rfl rfl rfl rfl rfl rfl (nle rfl) fun w H => ?_)
  refine pz 1 hf fun a hf => ?_
  refine wl_end (then_n (sq ?_))
  obtain ⟨c12, hGc12, hF⟩ := bind_some hF
  have fh := hf.prune [3, 4, 5, 6] rfl
  have Hm := H.lt_ [false, true, true, true] [] [false, true, true, true, true, true, true] [3, 4, 5, 6, 7, 8, 9]
  refine midF 46 (.bool c12) fh Hm ?_ fun a w hf H => ?_
  ·refine drawn [] (bs := [false, false, false, false, false, false, false, false, false, false]) (fuel := 10) (Checked.mixed Tryz.checked) rfl rfl fun w hb => ?_
   have H := H.keep hb
   refine zp 0 hf trivial fun a hf => ?_
   refine zp 1 hf trivial fun a hf => ?_
   refine zp 2 hf trivial fun a hf => ?_
   refine zp 3 hf trivial fun a hf => ?_
   refine iteB hGc12 (fun hc2 hGc12 => ?_) fun hc2 hGc12 => ?_
   ·have hf := hf.lit 40 rfl hc2
    refine zU 4 hf trivial fun a hf => ?_
    refine zU 5 hf trivial fun a hf => ?_
    refine zU 6 hf trivial fun a hf => ?_
    refine zU 7 hf trivial fun a hf => ?_
    refine zU 8 hf trivial fun a hf => ?_
    refine zp 9 hf trivial fun a hf => ?_
    refine dn (by kernel_rfl) ?_
    obtain rfl := Option.some.inj hGc12
    have hf := hf.pn [46, 3, 4, 5, 6]
    have H := H.lt_ [false, true, true, true] [] [false, true, true, true, true, true, true] [3, 4, 5, 6, 7, 8, 9]
    exact ⟨hf, H⟩
   ·have hf := hf.lit 40 rfl hc2
    refine strT (H.let [false, false, false, true] [] [false, false, false, false, false, false, false] [] rfl rfl rfl rfl) (fun w H => trivial) fun hS => ?_
    refine tSg 4 [] rfl rfl rfl rfl rfl rfl hf (by kernel_rfl) (by kernel_rfl) hS (fun w H => rq_loadBN hf H TF.la45 0 rfl rfl rfl rfl) fun a hf => ?_
    refine tSg 6 [] rfl rfl rfl rfl rfl rfl hf (by kernel_rfl) (by kernel_rfl) hS (fun w H => rq_loadBN hf H TF.la45 0 rfl rfl rfl rfl) fun a hf => ?_
    obtain ⟨y5, hy5, hGc12⟩ := bind_some hGc12
    refine n1g 5 (by kernel_rfl) rfl rfl rfl rfl hf (op_call hf TF.cl50 rfl (by decide) (impl_IsValidPlan_ok (S := TT) (Plan_mkv (x := y2.1) (H.rt 8 rfl) (H.rt 7 rfl) (H.rt 9 rfl)) hy5) fun v9 w a hp9 hf => ?_)
    obtain ⟨hb4, hp9⟩ := hp9
    obtain rfl := VR_bool hp9
    have H := H.keep hb4
    have hS := H.lt_ [false, false, false, true] [] [false, false, false, false, false, false, false] []
    refine ⟨fun _ => hS, ?_⟩
    obtain ⟨y6, hy6, hGc12⟩ := bind_some hGc12
    refine n1g 7 (by kernel_rfl) rfl rfl rfl rfl hf (op_call hf TF.cl54 rfl (by decide) (spec_IsValidPlan_ok (S := TT) (Plan_mkv (x := y2.1) (H.rt 8 rfl) (H.rt 7 rfl) (H.rt 9 rfl)) hy6) fun v10 w a hp10 hf => ?_)
    obtain ⟨hb5, hp10⟩ := hp10
    obtain rfl := VR_bool hp10
    have H := H.keep hb5
    have hS := H.lt_ [false, false, false, true] [] [false, false, false, false, false, false, false] []
    refine ⟨fun _ => hS, ?_⟩
    refine zg 8 hf hS fun a hf => ?_
    refine zp 9 hf hS fun a hf => ?_
    refine dn (by kernel_rfl) ?_
    obtain rfl := Option.some.inj hGc12
    have hf := hf.pn [46, 3, 4, 5, 6]
    have H := H.lt_ [false, true, true, true] [] [false, true, true, true, true, true, true] [3, 4, 5, 6, 7, 8, 9]
    exact ⟨hf, H⟩
  refine then_n (ib hF hf (fun hc3 hF => ?_) fun hc3 hF => ?_)
  ·refine sqz (pz 1 hf fun a hf => ?_)
   refine wl_end (then_n (wp_ret (then_r (?_))))
   obtain rfl := Option.some.inj hF
   refine ret_1 hf rfl (rv_tmp hf rfl) ?_
   exact ⟨_, rfl, H.bel, mk_bool⟩
  ·refine wp_skip (then_n (sq (sqz (pz 1 hf fun a hf => ?_))))
   refine wl_end (then_n (ib hF hf (fun hc4 hF => ?_) fun hc4 hF => ?_))
   ·refine sq (reg (oq hf (rq_loadBN hf H TF.la45 0 rfl rfl rfl rfl) fun a hf => ?_))
    refine pz 1 hf fun a hf => ?_
    refine oq hf (rq_loadB hf H TF.ls3 1 rfl rfl rfl) fun a hf => ?_
    obtain ⟨y7, hy7, hF⟩ := bind_some hF
    refine oc hf TF.cl55 (impl_RemoveLight_ok (S := TT) (Plan_mkv (x := y3.1) (H.rt 2 rfl) (H.rt 1 rfl) (H.rt 0 rfl)) mk_int hy7) fun v11 w a hp11 hf => ?_
    obtain ⟨hb6, F9, v12, v13, rfl, hp12, hp13, hN2⟩ := hp11
    obtain ⟨A12, c13, F10, A13, c14, F11, A14, c15, F12, rfl, rfl, hl8, hl9, hl10⟩ := Plan_vo hp12
    obtain rfl := VR_bool hp13
    have H := H.addOwn hb6 (X := [(⟨F10, MP.own F10 [(.slice A12 y7.1.Network.Nodes.length c13)] (y7.1.Network.Nodes : List ByteArray)⟩ : DI), (⟨F11, MP.own F11 [(.slice A13 y7.1.Network.Fibers.length c14)] (y7.1.Network.Fibers : List Fiber)⟩ : DI), (⟨F12, MP.own F12 [(.slice A14 y7.1.Lights.length c15)] (y7.1.Lights : List Light)⟩ : DI)]) (by simpa using hN2.1) (ps1 hl8 (ps1 hl9 (ps1 hl10 ps0))) (by simpa using hN2.2)
    have H := H.lend 0 rfl
    have H := H.lend 1 rfl
    have H := H.lend 2 rfl
    refine pz 3 hf fun a hf => ?_
    refine wl0 rfl (op_alloc hf H TF.zv45 rfl (by decide) fun b5 a w hf H => ?_)
    refine wl0 rfl (op_storeB hf H 0 TF.sz45 rfl rfl rfl rfl rfl rfl (nle rfl) fun w H => ?_)
    refine pz 1 hf fun a hf => ?_
    refine wr (oq hf (rq_loadBN hf H TF.la45 3 rfl rfl rfl rfl) fun a hf => ?_)
    refine oq hf (rq_loadBN hf H TF.la52 2 rfl rfl rfl rfl) fun a hf => ?_
    obtain ⟨y8, hy8, hF⟩ := bind_some hF
    refine oc hf TF.cl56 (impl_CollidingLights_ok (S := TT) (Plan_mkv (x := y2.1) (H.rt 8 rfl) (H.rt 7 rfl) (H.rt 9 rfl)) (Light_mkv (x := y2.2) (H.rt 6 rfl)) hy8) fun v14 w a hp14 hf => ?_
    obtain ⟨hb7, F13, v15, v16, rfl, hp15, hp16, hN3⟩ := hp14
    obtain ⟨A15, c16, rfl, hl11⟩ := VO_list hp15
    obtain rfl := VR_bool hp16
    have H := H.addOwn hb7 (X := [(⟨F13, MP.own F13 [(.slice A15 y8.1.length c16)] (y8.1 : List Int)⟩ : DI)]) (by simpa using hN3.1) (ps1 hl11 ps0) (by simpa using hN3.2)
    have H := H.lend 0 rfl
    refine pz 5 hf fun a hf => ?_
    have hf := hf.pn [3, 5, 9, 10, 11, 12]
    refine wl_end (then_n (sq ?_))
    obtain ⟨c17, hGc17, hF⟩ := bind_some hF
    have fh2 := hf.prune [3] rfl
    have Hm2 := H.lt_ [false, false, false, true] [] [false, false, false, false, false, false, false, true, true, false] [8, 9, 10]
    refine midF 82 (.bool c17) fh2 Hm2 ?_ fun a w hf H => ?_
    ·refine reg (pz 3 hf fun a hf => ?_)
     refine iteB hGc17 (fun hc5 hGc17 => ?_) fun hc5 hGc17 => ?_
     ·have hf := hf.lit 63 rfl hc5
      refine pz 19 hf fun a hf => ?_
      obtain rfl := Option.some.inj hGc17
      have hf := hf.pn [82, 3]
      have H := H.lt_ [false, false, false, true] [] [false, false, false, false, false, false, false, true, true, false] [8, 9, 10]
      exact wl_end ⟨hf, H⟩
     ·have hf := hf.lit 63 rfl hc5
      refine wlg hf rfl rfl rfl (op_q hf (rq_loadBN hf H TF.la45 0 rfl rfl rfl rfl) rfl (by decide) fun a hf => ?_)
      refine wlg hf rfl rfl rfl (op_q hf (rq_loadBN hf H TF.la45 3 rfl rfl rfl rfl) rfl (by decide) fun a hf => ?_)
      obtain ⟨y9, hy9, hGc17⟩ := bind_some hGc17
      refine wlg hf rfl rfl rfl (op_call hf TF.cl42 rfl (by decide) (laws_vPlans_ok (S := TT) (Plan_mkv (x := y7.1) (H.rt 3 rfl) (H.rt 2 rfl) (H.rt 1 rfl)) (Plan_mkv (x := y2.1) (H.rt 9 rfl) (H.rt 8 rfl) (H.rt 10 rfl)) hy9) fun v17 w a hp17 hf => ?_)
      obtain ⟨hb8, hp17⟩ := hp17
      obtain rfl := VR_bool hp17
      have H := H.keep hb8
      refine pz 3 hf fun a hf => ?_
      refine iteB hGc17 (fun hc6 hGc17 => ?_) fun hc6 hGc17 => ?_
      ·have hf := hf.lit 69 rfl hc6
       refine pz 13 hf fun a hf => ?_
       obtain rfl := Option.some.inj hGc17
       have hf := hf.pn [82, 3]
       have H := H.lt_ [false, false, false, true] [] [false, false, false, false, false, false, false, true, true, false] [8, 9, 10]
       exact wl_end ⟨hf, H⟩
      ·have hf := hf.lit 69 rfl hc6
       refine pz 4 hf fun a hf => ?_
       refine iteB hGc17 (fun hc7 hGc17 => ?_) fun hc7 hGc17 => ?_
       ·have hf := hf.lit 73 rfl hc7
        refine pz 9 hf fun a hf => ?_
        obtain rfl := Option.some.inj hGc17
        have hf := hf.pn [82, 3]
        have H := H.lt_ [false, false, false, true] [] [false, false, false, false, false, false, false, true, true, false] [8, 9, 10]
        exact wl_end ⟨hf, H⟩
       ·have hf := hf.lit 73 rfl hc7
        refine pz 5 hf fun a hf => ?_
        refine iteB hGc17 (fun hc8 hGc17 => ?_) fun hc8 hGc17 => ?_
        ·have hf := hf.lit 78 rfl hc8
         refine pz 4 hf fun a hf => ?_
         obtain rfl := Option.some.inj hGc17
         have hf := hf.pn [82, 3]
         have H := H.lt_ [false, false, false, true] [] [false, false, false, false, false, false, false, true, true, false] [8, 9, 10]
         exact wl_end ⟨hf, H⟩
        ·have hf := hf.lit 78 rfl hc8
         refine wlg hf rfl rfl rfl (op_q hf (rq_loadBN hf H TF.la45 1 rfl rfl rfl rfl) rfl (by decide) fun a hf => ?_)
         obtain ⟨y10, hy10, hGc17⟩ := bind_some hGc17
         refine wlg hf rfl rfl rfl (op_call hf TF.cl50 rfl (by decide) (impl_IsValidPlan_ok (S := TT) (Plan_mkv (x := y3.1) (H.rt 6 rfl) (H.rt 5 rfl) (H.rt 4 rfl)) hy10) fun v18 w a hp18 hf => ?_)
         obtain ⟨hb9, hp18⟩ := hp18
         obtain rfl := VR_bool hp18
         have H := H.keep hb9
         refine pz 2 hf fun a hf => ?_
         obtain rfl := Option.some.inj hGc17
         have hf := hf.pn [82, 3]
         have H := H.lt_ [false, false, false, true] [] [false, false, false, false, false, false, false, true, true, false] [8, 9, 10]
         exact wl_end ⟨hf, H⟩
    refine then_n (ib hF hf (fun hc9 hF => ?_) fun hc9 hF => ?_)
    ·refine sqz (pz 1 hf fun a hf => ?_)
     refine wl_end (then_n (wp_ret (then_r (?_))))
     obtain rfl := Option.some.inj hF
     refine ret_1 hf rfl (rv_tmp hf rfl) ?_
     exact ⟨_, rfl, H.bel, mk_bool⟩
    ·refine wp_skip (then_n (sq (reg (oq hf (rq_loadBN hf H TF.la45 0 rfl rfl rfl rfl) fun a hf => ?_))))
     obtain ⟨y11, hy11, hF⟩ := bind_some hF
     refine oc hf TF.cl57 (impl_PlanUse_ok (S := TT) (Plan_mkv (x := y2.1) (H.rt 1 rfl) (H.rt 0 rfl) (H.rt 2 rfl)) hy11) fun v19 w a hp19 hf => ?_
     obtain ⟨hb10, v20, v21, v22, rfl, hp20, hp21, hp22⟩ := hp19
     obtain rfl := VR_int hp20
     obtain rfl := VR_int hp21
     obtain rfl := VR_bool hp22
     have H := H.keep hb10
     refine pz 7 hf fun a hf => ?_
     refine wr (pz 1 hf fun a hf => ?_)
     refine wl_end (then_n (sq (sqz (pz 1 hf fun a hf => ?_))))
     refine wl_end (then_n ?_)
     obtain ⟨out', hB1, hF⟩ := bind_some hF
     have hf := hf.pn [3, 13, 15, 16, 17]
     have H := H.lt_ [true] [] [true, true] [0, 1, 2]
     refine loopC (fun (s : Int × Int) (a : Act) (w : World) => match s with | (sum, i) => Fr a 126 [(3, (.pointer (some ⟨b', 0, none⟩))), (13, (.int .i64 y11.1)), (15, (.bool y11.2.2)), (16, (.int .i64 sum)), (17, (.int .i64 i))] ∧ Mem ⟨w0, []⟩ S [⟨b', 45, [(.slice A2 y2.1.Network.Nodes.length c2), (.slice A3 y2.1.Network.Fibers.length c3), (.slice A4 y2.1.Lights.length c4)]⟩] [] [⟨F, MP.own F [(.slice A2 y2.1.Network.Nodes.length c2)] (y2.1.Network.Nodes : List ByteArray)⟩, ⟨F2, MP.own F2 [(.slice A3 y2.1.Network.Fibers.length c3)] (y2.1.Network.Fibers : List Fiber)⟩] [(true, MP.val [(.slice A3 y2.1.Network.Fibers.length c3)] (y2.1.Network.Fibers : List Fiber)), (true, MP.val [(.slice A2 y2.1.Network.Nodes.length c2)] (y2.1.Network.Nodes : List ByteArray)), (true, MP.val [(.slice A4 y2.1.Lights.length c4)] (y2.1.Lights : List Light))] w) (fun k (s : Int × Int) => laws_FnLights_L1 fu y2 y11 k s.1 s.2 = some out') (fun s => out' = s) (0, 0) fu hB1 ⟨hf, H⟩ (fun s h => by cases h) ?_ ?_
     ·rintro fk ⟨sum, i⟩ a w hR1 hI
      replace hR1 : laws_FnLights_L1 fu y2 y11 (fk + 1) sum i = some out' := hR1
      rw [laws_FnLights_L1] at hR1
      obtain ⟨hf, H⟩ := hI
      refine sq (sq ?_)
      obtain ⟨c18, hGc18, hR1⟩ := bind_some hR1
      have fh3 := hf.prune [3, 13, 15, 16, 17] rfl
      have Hm3 := H.lt_ [true] [] [true, true] [0, 1, 2]
      refine midF 96 (.bool c18) fh3 Hm3 ?_ fun a w hf H => ?_
      ·refine reg (pz 2 hf fun a hf => ?_)
       refine oq hf (rq_loadB hf H TF.ls43 0 rfl rfl rfl) fun a hf => ?_
       refine pz 3 hf fun a hf => ?_
       refine iteB hGc18 (fun hc10 hGc18 => ?_) fun hc10 hGc18 => ?_
       ·have hf := hf.lit 94 rfl hc10
        refine pz 2 hf fun a hf => ?_
        obtain rfl := Option.some.inj hGc18
        have hf := hf.pn [96, 3, 13, 15, 16, 17]
        have H := H.lt_ [true] [] [true, true] [0, 1, 2]
        exact wl_end ⟨hf, H⟩
       ·have hf := hf.lit 94 rfl hc10
        refine pz 2 hf fun a hf => ?_
        obtain rfl := Option.some.inj hGc18
        have hf := hf.pn [96, 3, 13, 15, 16, 17]
        have H := H.lt_ [true] [] [true, true] [0, 1, 2]
        exact wl_end ⟨hf, H⟩
      refine then_n (ib hR1 hf (fun hc11 hR1 => ?_) fun hc11 hR1 => ?_)
      ·refine wp_skip (then_n (sq (wp_block (drawn [] (bs := [false, false, false, false, false, false, false, false, false, false, false, false, false, false, false, false, false, false, false]) (fuel := 19) (Checked.mixed Tryz.checked) rfl rfl fun w hb => ?_))))
       have H := H.keep hb
       refine zp 0 hf trivial fun a hf => ?_
       refine zp 1 hf trivial fun a hf => ?_
       refine strT (H.let [true] [] [false, false] [] rfl rfl rfl rfl) (fun w H => trivial) fun hS => ?_
       refine tS 2 [] rfl rfl rfl rfl hf (by kernel_rfl) (by kernel_rfl) hS (fun w H => rq_loadB hf H TF.ls43 0 rfl rfl rfl) fun a hf => ?_
       refine zp 3 hf hS fun a hf => ?_
       obtain ⟨e, he, hR1⟩ := bind_some hR1
       obtain ⟨p, o, cs, hx, hr, H⟩ := pre_iaddr H Tryz.underlying43 TF.sz52 2 rfl he
       refine tP 4 rfl rfl rfl rfl hf (by kernel_rfl) (fun _ => hS) (fun w => rq_iaddrE hf rfl rfl rfl hx w) fun a hf => ?_
       obtain ⟨A16, c19, rfl, hl12⟩ := Light_cells hr
       have H := H.push (true, MP.val [(.slice A16 e.Route.Fibers.length c19)] e.Route.Fibers) hl12
       refine zp 5 hf hS fun a hf => ?_
       refine zp 6 hf hS fun a hf => ?_
       refine strT (H.let [true] [] [false, false] [1] rfl rfl rfl rfl) (fun w H => H.let [true] [] [] [] rfl rfl rfl rfl) fun hS => ?_
       refine tS 7 [] rfl rfl rfl rfl hf (by kernel_rfl) (by kernel_rfl) hS (fun w H => rq_loadI hf H TF.ls3 0 4 rfl rfl rfl) fun a hf => ?_
       refine zp 8 hf hS fun a hf => ?_
       refine tS 9 [] rfl rfl rfl rfl hf (by kernel_rfl) (by kernel_rfl) hS (fun w H => rq_loadB hf H TF.ls43 0 rfl rfl rfl) fun a hf => ?_
       refine zp 10 hf hS fun a hf => ?_
       obtain ⟨e2, he2, hR1⟩ := bind_some hR1
       obtain ⟨p2, o2, cs2, hx2, hr2, H⟩ := pre_iaddr H Tryz.underlying43 TF.sz52 4 rfl he2
       refine tP 11 rfl rfl rfl rfl hf (by kernel_rfl) (fun _ => hS) (fun w => rq_iaddrE hf rfl rfl rfl hx2 w) fun a hf => ?_
       obtain ⟨A17, c20, rfl, hl13⟩ := Light_cells hr2
       have H := H.push (true, MP.val [(.slice A17 e2.Route.Fibers.length c20)] e2.Route.Fibers) hl13
       refine zp 12 hf hS fun a hf => ?_
       refine zp 13 hf hS fun a hf => ?_
       refine strT (H.let [true] [] [false, false] [1, 3] rfl rfl rfl rfl) (fun w H => H.let [true] [] [] [1] rfl rfl rfl rfl) fun hS => ?_
       refine tS 14 [] rfl rfl rfl rfl hf (by kernel_rfl) (by kernel_rfl) hS (fun w H => rq_loadI hf H TF.ls29 0 2 rfl rfl rfl) fun a hf => ?_
       refine zp 15 hf hS fun a hf => ?_
       refine zp 16 hf hS fun a hf => ?_
       refine zp 17 hf hS fun a hf => ?_
       refine zp 18 hf hS fun a hf => ?_
       refine dn (by kernel_rfl) ?_
       have hf := hf.pn [3, 13, 15, 16, 17]
       refine blk_n (then_n (reg (pz 3 hf fun a hf => ?_)))
       refine wl_end ?_
       have hf := hf.pn [3, 13, 15, 16, 17]
       have H := H.lt_ [true] [] [true, true] [4, 5, 6]
       exact then_n ⟨(w64 (sum + (w64 (e.Block.Count * (e2.Route.Fibers.length : Int)))), w64 (i + 1)), hR1, hf, H⟩
      ·refine wp_exit (then_x (then_x (blk_e (?_))))
       have hf := hf.pn [3, 13, 15, 16, 17]
       have H := H.lt_ [true] [] [true, true] [0, 1, 2]
       exact ⟨(sum, i), (Option.some.inj hR1).symm, hf, H⟩
     rintro a w ⟨⟨sum2, i2⟩, rfl, hf, H⟩
     try dsimp only at hF
     refine then_n (sq ?_)
     obtain ⟨c21, hGc21, hF⟩ := bind_some hF
     have fh4 := hf.prune [] rfl
     have Hm4 := H.lt_ [false] [] [false, false] []
     refine midF 2 (.bool c21) fh4 Hm4 ?_ fun a w hf H => ?_
     ·refine reg (pz 1 hf fun a hf => ?_)
      refine oq hf (rq_loadBN hf H TF.la45 0 rfl rfl rfl rfl) fun a hf => ?_
      obtain ⟨y12, hy12, hGc21⟩ := bind_some hGc21
      refine oc hf TF.cl54 (spec_IsValidPlan_ok (S := TT) (Plan_mkv (x := y2.1) (H.rt 1 rfl) (H.rt 0 rfl) (H.rt 2 rfl)) hy12) fun v23 w a hp23 hf => ?_
      obtain ⟨hb11, hp23⟩ := hp23
      obtain rfl := VR_bool hp23
      have H := H.keep hb11
      refine pz 2 hf fun a hf => ?_
      refine iteB hGc21 (fun hc12 hGc21 => ?_) fun hc12 hGc21 => ?_
      ·have hf := hf.lit 121 rfl hc12
       refine pz 5 hf fun a hf => ?_
       obtain rfl := Option.some.inj hGc21
       have hf := hf.pn [2]
       have H := H.lt_ [false] [] [false, false] []
       exact wl_end ⟨hf, H⟩
      ·have hf := hf.lit 121 rfl hc12
       refine pz 5 hf fun a hf => ?_
       obtain rfl := Option.some.inj hGc21
       have hf := hf.pn [2]
       have H := H.lt_ [false] [] [false, false] []
       exact wl_end ⟨hf, H⟩
     refine then_n (wp_ret (?_))
     obtain rfl := Option.some.inj hF
     refine ret_1 hf rfl (rv_tmp hf rfl) ?_
     exact ⟨_, rfl, H.bel, mk_bool⟩
   ·refine wp_skip (then_n (sq (reg (oq hf (rq_loadBN hf H TF.la45 2 rfl rfl rfl rfl) fun a hf => ?_))))
    obtain ⟨y13, hy13, hF⟩ := bind_some hF
    refine oc hf TF.cl57 (impl_PlanUse_ok (S := TT) (Plan_mkv (x := y2.1) (H.rt 5 rfl) (H.rt 4 rfl) (H.rt 6 rfl)) hy13) fun v24 w a hp24 hf => ?_
    obtain ⟨hb12, v25, v26, v27, rfl, hp25, hp26, hp27⟩ := hp24
    obtain rfl := VR_int hp25
    obtain rfl := VR_int hp26
    obtain rfl := VR_bool hp27
    have H := H.keep hb12
    refine pz 7 hf fun a hf => ?_
    refine wr (pz 1 hf fun a hf => ?_)
    refine wl_end (then_n (sq (sqz (pz 1 hf fun a hf => ?_))))
    refine wl_end (then_n ?_)
    obtain ⟨out2, hB1, hF⟩ := bind_some hF
    have hf := hf.pn [3, 13, 15, 16, 17]
    have H := H.lt_ [false, false, true] [] [false, false, false, true, true, false] [4, 5, 6]
    refine loopC (fun (s : Int × Int) (a : Act) (w : World) => match s with | (sum3, i3) => Fr a 126 [(3, (.pointer (some ⟨b', 0, none⟩))), (13, (.int .i64 y13.1)), (15, (.bool y13.2.2)), (16, (.int .i64 sum3)), (17, (.int .i64 i3))] ∧ Mem ⟨w0, []⟩ S [⟨b', 45, [(.slice A2 y2.1.Network.Nodes.length c2), (.slice A3 y2.1.Network.Fibers.length c3), (.slice A4 y2.1.Lights.length c4)]⟩] [] [⟨F, MP.own F [(.slice A2 y2.1.Network.Nodes.length c2)] (y2.1.Network.Nodes : List ByteArray)⟩, ⟨F2, MP.own F2 [(.slice A3 y2.1.Network.Fibers.length c3)] (y2.1.Network.Fibers : List Fiber)⟩] [(true, MP.val [(.slice A3 y2.1.Network.Fibers.length c3)] (y2.1.Network.Fibers : List Fiber)), (true, MP.val [(.slice A2 y2.1.Network.Nodes.length c2)] (y2.1.Network.Nodes : List ByteArray)), (true, MP.val [(.slice A4 y2.1.Lights.length c4)] (y2.1.Lights : List Light))] w) (fun k (s : Int × Int) => laws_FnLights_L2 fu y2 y13 k s.1 s.2 = some out2) (fun s => out2 = s) (0, 0) fu hB1 ⟨hf, H⟩ (fun s h => by cases h) ?_ ?_
    ·rintro fk ⟨sum3, i3⟩ a w hR1 hI
     replace hR1 : laws_FnLights_L2 fu y2 y13 (fk + 1) sum3 i3 = some out2 := hR1
     rw [laws_FnLights_L2] at hR1
     obtain ⟨hf, H⟩ := hI
     refine sq (sq ?_)
     obtain ⟨c22, hGc22, hR1⟩ := bind_some hR1
     have fh5 := hf.prune [3, 13, 15, 16, 17] rfl
     have Hm5 := H.lt_ [true] [] [true, true] [0, 1, 2]
     refine midF 96 (.bool c22) fh5 Hm5 ?_ fun a w hf H => ?_
     ·refine reg (pz 2 hf fun a hf => ?_)
      refine oq hf (rq_loadB hf H TF.ls43 0 rfl rfl rfl) fun a hf => ?_
      refine pz 3 hf fun a hf => ?_
      refine iteB hGc22 (fun hc13 hGc22 => ?_) fun hc13 hGc22 => ?_
      ·have hf := hf.lit 94 rfl hc13
       refine pz 2 hf fun a hf => ?_
       obtain rfl := Option.some.inj hGc22
       have hf := hf.pn [96, 3, 13, 15, 16, 17]
       have H := H.lt_ [true] [] [true, true] [0, 1, 2]
       exact wl_end ⟨hf, H⟩
      ·have hf := hf.lit 94 rfl hc13
       refine pz 2 hf fun a hf => ?_
       obtain rfl := Option.some.inj hGc22
       have hf := hf.pn [96, 3, 13, 15, 16, 17]
       have H := H.lt_ [true] [] [true, true] [0, 1, 2]
       exact wl_end ⟨hf, H⟩
     refine then_n (ib hR1 hf (fun hc14 hR1 => ?_) fun hc14 hR1 => ?_)
     ·refine wp_skip (then_n (sq (wp_block (drawn [] (bs := [false, false, false, false, false, false, false, false, false, false, false, false, false, false, false, false, false, false, false]) (fuel := 19) (Checked.mixed Tryz.checked) rfl rfl fun w hb => ?_))))
      have H := H.keep hb
      refine zp 0 hf trivial fun a hf => ?_
      refine zp 1 hf trivial fun a hf => ?_
      refine strT (H.let [true] [] [false, false] [] rfl rfl rfl rfl) (fun w H => trivial) fun hS => ?_
      refine tS 2 [] rfl rfl rfl rfl hf (by kernel_rfl) (by kernel_rfl) hS (fun w H => rq_loadB hf H TF.ls43 0 rfl rfl rfl) fun a hf => ?_
      refine zp 3 hf hS fun a hf => ?_
      obtain ⟨e3, he3, hR1⟩ := bind_some hR1
      obtain ⟨p3, o3, cs3, hx3, hr3, H⟩ := pre_iaddr H Tryz.underlying43 TF.sz52 2 rfl he3
      refine tP 4 rfl rfl rfl rfl hf (by kernel_rfl) (fun _ => hS) (fun w => rq_iaddrE hf rfl rfl rfl hx3 w) fun a hf => ?_
      obtain ⟨A18, c23, rfl, hl14⟩ := Light_cells hr3
      have H := H.push (true, MP.val [(.slice A18 e3.Route.Fibers.length c23)] e3.Route.Fibers) hl14
      refine zp 5 hf hS fun a hf => ?_
      refine zp 6 hf hS fun a hf => ?_
      refine strT (H.let [true] [] [false, false] [1] rfl rfl rfl rfl) (fun w H => H.let [true] [] [] [] rfl rfl rfl rfl) fun hS => ?_
      refine tS 7 [] rfl rfl rfl rfl hf (by kernel_rfl) (by kernel_rfl) hS (fun w H => rq_loadI hf H TF.ls3 0 4 rfl rfl rfl) fun a hf => ?_
      refine zp 8 hf hS fun a hf => ?_
      refine tS 9 [] rfl rfl rfl rfl hf (by kernel_rfl) (by kernel_rfl) hS (fun w H => rq_loadB hf H TF.ls43 0 rfl rfl rfl) fun a hf => ?_
      refine zp 10 hf hS fun a hf => ?_
      obtain ⟨e4, he4, hR1⟩ := bind_some hR1
      obtain ⟨p4, o4, cs4, hx4, hr4, H⟩ := pre_iaddr H Tryz.underlying43 TF.sz52 4 rfl he4
      refine tP 11 rfl rfl rfl rfl hf (by kernel_rfl) (fun _ => hS) (fun w => rq_iaddrE hf rfl rfl rfl hx4 w) fun a hf => ?_
      obtain ⟨A19, c24, rfl, hl15⟩ := Light_cells hr4
      have H := H.push (true, MP.val [(.slice A19 e4.Route.Fibers.length c24)] e4.Route.Fibers) hl15
      refine zp 12 hf hS fun a hf => ?_
      refine zp 13 hf hS fun a hf => ?_
      refine strT (H.let [true] [] [false, false] [1, 3] rfl rfl rfl rfl) (fun w H => H.let [true] [] [] [1] rfl rfl rfl rfl) fun hS => ?_
      refine tS 14 [] rfl rfl rfl rfl hf (by kernel_rfl) (by kernel_rfl) hS (fun w H => rq_loadI hf H TF.ls29 0 2 rfl rfl rfl) fun a hf => ?_
      refine zp 15 hf hS fun a hf => ?_
      refine zp 16 hf hS fun a hf => ?_
      refine zp 17 hf hS fun a hf => ?_
      refine zp 18 hf hS fun a hf => ?_
      refine dn (by kernel_rfl) ?_
      have hf := hf.pn [3, 13, 15, 16, 17]
      refine blk_n (then_n (reg (pz 3 hf fun a hf => ?_)))
      refine wl_end ?_
      have hf := hf.pn [3, 13, 15, 16, 17]
      have H := H.lt_ [true] [] [true, true] [4, 5, 6]
      exact then_n ⟨(w64 (sum3 + (w64 (e3.Block.Count * (e4.Route.Fibers.length : Int)))), w64 (i3 + 1)), hR1, hf, H⟩
     ·refine wp_exit (then_x (then_x (blk_e (?_))))
      have hf := hf.pn [3, 13, 15, 16, 17]
      have H := H.lt_ [true] [] [true, true] [0, 1, 2]
      exact ⟨(sum3, i3), (Option.some.inj hR1).symm, hf, H⟩
    rintro a w ⟨⟨sum4, i4⟩, rfl, hf, H⟩
    try dsimp only at hF
    refine then_n (sq ?_)
    obtain ⟨c25, hGc25, hF⟩ := bind_some hF
    have fh6 := hf.prune [] rfl
    have Hm6 := H.lt_ [false] [] [false, false] []
    refine midF 2 (.bool c25) fh6 Hm6 ?_ fun a w hf H => ?_
    ·refine reg (pz 1 hf fun a hf => ?_)
     refine oq hf (rq_loadBN hf H TF.la45 0 rfl rfl rfl rfl) fun a hf => ?_
     obtain ⟨y14, hy14, hGc25⟩ := bind_some hGc25
     refine oc hf TF.cl54 (spec_IsValidPlan_ok (S := TT) (Plan_mkv (x := y2.1) (H.rt 1 rfl) (H.rt 0 rfl) (H.rt 2 rfl)) hy14) fun v28 w a hp28 hf => ?_
     obtain ⟨hb13, hp28⟩ := hp28
     obtain rfl := VR_bool hp28
     have H := H.keep hb13
     refine pz 2 hf fun a hf => ?_
     refine iteB hGc25 (fun hc15 hGc25 => ?_) fun hc15 hGc25 => ?_
     ·have hf := hf.lit 121 rfl hc15
      refine pz 5 hf fun a hf => ?_
      obtain rfl := Option.some.inj hGc25
      have hf := hf.pn [2]
      have H := H.lt_ [false] [] [false, false] []
      exact wl_end ⟨hf, H⟩
     ·have hf := hf.lit 121 rfl hc15
      refine pz 5 hf fun a hf => ?_
      obtain rfl := Option.some.inj hGc25
      have hf := hf.pn [2]
      have H := H.lt_ [false] [] [false, false] []
      exact wl_end ⟨hf, H⟩
    refine then_n (wp_ret (?_))
    obtain rfl := Option.some.inj hF
    refine ret_1 hf rfl (rv_tmp hf rfl) ?_
    exact ⟨_, rfl, H.bel, mk_bool⟩
end AT

