/- The Go functions do what is told of them, by program (gen.py). -/
import Derived.Test.YtmokfdffnijbbaaGreatWFnExact0
set_option linter.unusedVariables false
set_option linter.unusedSimpArgs false
set_option maxRecDepth 100000
set_option maxHeartbeats 1000000
namespace AT
open Go Go.RowKit Go.Proofs
variable {fu : Nat} {w0 : World}
theorem spec_l1Cur_anyRoute_ok {S : Nat → Prop} {b0 : Nat} {cs0 : List Value} {v1_ : Value} {c : L1CurP} {n' : Network} {r : Route × L1CurP} (hp0 : w0.heap[b0]? = some (.cells cs0.toArray 101 (0, 0))) (hr0 : GoTy.rep w0 S cs0 c) (hS0 : ¬ S b0) (h1 : VR w0 S v1_ n') (hF : spec_l1Cur_anyRoute fu c n' = some r) :
    Calls Tryz.prog 135 [(.pointer (some ⟨b0, 0, none⟩)), v1_].toArray w0 fun e w' => ∃ v, e = .returned v ∧ (Chg w0 w' [b0] ∧ ∃ cs', w'.heap[b0]? = some (.cells cs'.toArray 101 (0, 0)) ∧ GoTy.rep w' (St ⟨w0, [b0]⟩ S [⟨b0, 101, cs'⟩] [] [] false) cs' r.2 ∧ (cs'[0]? = cs0[0]? ∧ r.2.code = c.code) ∧ ∃ F0, VO w' F0 v r.1 ∧ New w0 w' F0) := by
 obtain ⟨A, c2, rfl, hl⟩ := L1CurP_cells hr0
 obtain ⟨A2, c3, A3, c4, rfl, hl2, hl3⟩ := Network_open h1
 have H := Mem.startB S hp0
 have H := H.pB hS0 hl
 have H := H.pB hS0 hl2
 have H := H.pB hS0 hl3
 refine en Tryz.func135 fun a hf => ?_
 rw [spec_l1Cur_anyRoute] at hF
 refine bx hf H fun b3 a w hf H => ?_
 refine aL hf H TF.zv59 fun b4 a w hf H => ?_
 refine wr (pz 1 hf fun a hf => ?_)
 refine lN 1 hf H TF.la34 fun a hf => ?_
 obtain ⟨y, hy, hF⟩ := bs_ hF
 refine oc hf TF.cl194 (spec_l1Cur_route_ok (S := NB b0) (H.boxAt 2 rfl) ((L1CurP_mk (x := c) (H.nb 2 rfl (H.get 2 rfl)))) (fun h => h rfl) (Network_mkv (x := n') (H.nb 2 rfl (H.get 1 rfl)) (H.nb 2 rfl (H.get 0 rfl))) hy) fun v w a hp3 hf => ?_
 obtain ⟨hch, cs3, hbx, hr3, ⟨hx, hx2⟩, hs⟩ := hp3
 obtain ⟨F, hp4, hN⟩ := hs
 obtain ⟨A4, c5, F2, rfl, rfl, hl4⟩ := Route_vo hp4
 obtain ⟨A5, c6, rfl, hl5⟩ := L1CurP_cells hr3
 obtain ⟨rfl, rfl⟩ := fx_slice hx rfl rfl
 have H := H.bO1 2 rfl hch hbx hN hl4
 have H := H.pX 2 rfl hx2
 have H := H.lend 0 rfl
 refine aL hf H TF.zv59 fun b5 a w hf H => ?_
 refine sB 0 hf H TF.sz59 fun w H => ?_
 refine we (sqz (pz 1 hf fun a hf => ?_))
 obtain ⟨y2, hy2, hF⟩ := bs_ hF
 refine oc hf TF.cl133 (spec_l1Cur_pick_ok (S := NB b0) (H.boxAt 3 rfl) ((L1CurP_mk (x := y.2) (H.nb 3 rfl (H.get 1 rfl)))) (fun h => h rfl) mk_int hy2) fun v2 w a hp5 hf => ?_
 obtain ⟨hch2, cs4, hbx2, hr4, ⟨hx3, hx4⟩, hs2⟩ := hp5
 obtain rfl := VR_int hs2
 obtain ⟨A6, c7, rfl, hl6⟩ := L1CurP_cells hr4
 obtain ⟨rfl, rfl⟩ := fx_slice hx3 rfl rfl
 have hx5 := hx4.trans hx2
 have H := H.wroteBox 3 rfl hch2 hbx2
 have H := H.pX 1 rfl hx4
 refine wl_end (then_n (wp_block (sqz (pz 2 hf fun a hf => ?_))))
 refine wl_end (then_n (ib hF hf (fun hc hF => ?_) fun hc hF => ?_))
 ·refine reg (pz 1 hf fun a hf => ?_)
  obtain ⟨y3, hy3, hF⟩ := bs_ hF
  refine oc hf TF.cl133 (spec_l1Cur_pick_ok (S := NB b0) (H.boxAt 3 rfl) ((L1CurP_mk (x := y2.2) (H.nb 3 rfl (H.get 0 rfl)))) (fun h => h rfl) mk_int hy3) fun v3 w a hp6 hf => ?_
  obtain ⟨hch3, cs5, hbx3, hr5, ⟨hx6, hx7⟩, hs3⟩ := hp6
  obtain rfl := VR_int hs3
  obtain ⟨A7, c8, rfl, hl7⟩ := L1CurP_cells hr5
  obtain ⟨rfl, rfl⟩ := fx_slice hx6 rfl rfl
  have hx8 := hx7.trans hx5
  have H := H.wroteBox 3 rfl hch3 hbx3
  have H := H.pX 0 rfl hx7
  refine pz 2 hf fun a hf => ?_
  refine sB 0 hf H TF.sz3 fun w H => ?_
  have hf := hf.pn [4, 5]
  refine wl_end (blk_n (then_n (sq (reg (lN 0 hf H TF.la59 fun a hf => ?_)))))
  refine sB 1 hf H TF.sz59 fun w H => ?_
  refine wer ?_
  obtain rfl := oi hF
  refine ret_1 hf rfl (rv_cellN hf H 1 TF.la59 rfl rfl rfl) ?_
  have hN := H.endsB1 3 rfl
  exact ⟨_, rfl, H.chg, _, H.boxAt 3 rfl, (L1CurP_mk (x := y3.2) (eB 3 (H.get 0 rfl))), ⟨fxc hx8, hx8⟩, F2, ⟨_, Route_ownmk (x := ({ Start := w64 (y3.1 - 1), Fibers := y.1.Fibers } : Route)) (H.ownAt 0 rfl), rfl⟩, by first | exact hN | simpa using hN⟩
 ·refine sqz (pz 2 hf fun a hf => ?_)
  refine wl_end (then_n (ib hF hf (fun hc2 hF => ?_) fun hc2 hF => ?_))
  ·refine dw [6, 8] 9 fun w hb => ?_
   have H := H.keep hb
   refine zp 0 hf trivial fun a hf => ?_
   refine strT (H.lt_ [true, false, false, false] [] [false] []) (fun w H => trivial) fun hS => ?_
   refine zS 1 [1, 6, 7, 8] rfl rfl rfl rfl hf hS (fun w H => rq_loadB hf H TF.ls47 0 rfl rfl rfl) fun a hf => ?_
   refine zp 2 hf hS fun a hf => ?_
   obtain ⟨y4, hy4, hF⟩ := bs_ hF
   refine nn 3 rfl (oC hf TF.cl133 (spec_l1Cur_pick_ok (S := NB b0) (H.boxAt 3 rfl) ((L1CurP_mk (x := y2.2) (H.nb 3 rfl (H.get 0 rfl)))) (fun h => h rfl) mk_int hy4) fun v4 w a hp7 hf => ?_)
   obtain ⟨hch4, cs6, hbx4, hr6, ⟨hx9, hx10⟩, hs4⟩ := hp7
   obtain rfl := VR_int hs4
   obtain ⟨A8, c9, rfl, hl8⟩ := L1CurP_cells hr6
   obtain ⟨rfl, rfl⟩ := fx_slice hx9 rfl rfl
   have hx11 := hx10.trans hx5
   have H := H.wroteBox 3 rfl hch4 hbx4
   have H := H.pX 0 rfl hx10
   have hS := H.lt_ [true, false, false, false] [] [false] []
   refine aS hS ?_
   refine zp 4 hf hS fun a hf => ?_
   refine nn 5 rfl (bl hf H 3 ([w64 (y4.1 - 1)] : List Int) [(.int .i64 (w64 (y4.1 - 1)))] (el1 (y := w64 (y4.1 - 1)) (rfl)) fun A9 a w hf H => ?_)
   have hS := H.lt_ [true, false, false, false] [false] [false] []
   refine aS hS ?_
   obtain ⟨Fs, E, H, -⟩ := H.thaw rfl
   have H := H.rowSh 0 rfl
   have H := H.pB hS0 hl
   have H := H.pB hS0 hl2
   have H := H.pB hS0 hl3
   have H := H.argB (by simpa using hS0) (p := MP.val [(.slice A y4.2.code.length c2)] (y4.2.code : List By)) (by rw [hx11]; exact hl)
   obtain ⟨l, hl_, hF⟩ := bs_ hF
   refine nn 6 rfl (op_appR hf H Tryz.underlying47 TF.ai3 rfl (by decide) 0 1 rfl rfl rfl rfl (.inr rfl) hl_ (by decide) fun E2 A10 c10 a w hf H => ?_)
   refine ⟨fun h => absurd h (by decide), ?_⟩
   refine tp 7 rfl rfl hf (by kernel_rfl) (fun h => absurd h (by decide)) rfl fun a hf => ?_
   refine nn 8 rfl (op_storeB hf H 0 TF.sz47 rfl rfl rfl rfl rfl rfl (nle rfl) fun w H => ?_)
   refine ⟨fun h => absurd h (by decide), ?_⟩
   refine dk ?_
   have hf := hf.pn [4, 5]
   refine blk_n (then_n (sq (reg (lN 0 hf H TF.la59 fun a hf => ?_))))
   refine sB 1 hf H TF.sz59 fun w H => ?_
   refine wer ?_
   have H := H.rowOwn 0 rfl rfl
   obtain ⟨F3, H⟩ := H.freezeOwn 0 rfl
   have H := H.lend 0 rfl
   obtain rfl := oi hF
   refine ret_1 hf rfl (rv_cellN hf H 1 TF.la59 rfl rfl rfl) ?_
   have hN := H.endsB1 3 rfl
   exact ⟨_, rfl, H.chg, _, H.boxAt 3 rfl, (L1CurP_mk (x := y4.2) (eB 3 (H.get 1 rfl))), ⟨fxc hx11, hx11⟩, F3, ⟨_, Route_ownmk (x := ({ Start := y.1.Start, Fibers := l } : Route)) (H.ownAt 0 rfl), rfl⟩, by first | exact hN | simpa using hN⟩
  ·refine sqz (pz 2 hf fun a hf => ?_)
   refine wl_end (then_n (ib hF hf (fun hc3 hF => ?_) fun hc3 hF => ?_))
   ·refine reg (wl0 rfl (bl hf H 3 ([] : List Int) [] el0 fun A11 a w hf H => ?_))
    refine pz 1 hf fun a hf => ?_
    refine sB 0 hf H TF.sz47 fun w H => ?_
    have hf := hf.pn [4, 5]
    refine wl_end (blk_n (then_n (sq (reg (lN 0 hf H TF.la59 fun a hf => ?_)))))
    refine sB 1 hf H TF.sz59 fun w H => ?_
    refine wer ?_
    have H := H.rowOwn 0 rfl rfl
    obtain ⟨F4, H⟩ := H.freezeOwn 0 rfl
    have H := H.lend 0 rfl
    obtain rfl := oi hF
    refine ret_1 hf rfl (rv_cellN hf H 1 TF.la59 rfl rfl rfl) ?_
    have hN := H.endsB1 3 rfl
    exact ⟨_, rfl, H.chg, _, H.boxAt 3 rfl, (L1CurP_mk (x := y2.2) (eB 3 (H.get 1 rfl))), ⟨fxc hx5, hx5⟩, F4, ⟨_, Route_ownmk (x := ({ Start := y.1.Start, Fibers := ([] : List Int) } : Route)) (H.ownAt 0 rfl), rfl⟩, by first | exact hN | simpa using hN⟩
   ·refine sqz (pz 2 hf fun a hf => ?_)
    have hf := hf.pn [4, 5, 31]
    refine wl_end (then_n (ib hF hf (fun hc4 hF => ?_) fun hc4 hF => ?_))
    ·refine sqz (pz 1 hf fun a hf => ?_)
     refine lB 0 hf H TF.ls47 fun a hf => ?_
     refine pz 2 hf fun a hf => ?_
     refine wl_end (then_n (ib hF hf (fun hc5 hF => ?_) fun hc5 hF => ?_))
     ·refine dw [11, 13] 14 fun w hb => ?_
      have H := H.keep hb
      refine zp 0 hf trivial fun a hf => ?_
      refine strT (H.lt_ [true, false, false, false] [] [false] []) (fun w H => trivial) fun hS => ?_
      refine zS 1 [1, 11, 12, 13] rfl rfl rfl rfl hf hS (fun w H => rq_loadB hf H TF.ls47 0 rfl rfl rfl) fun a hf => ?_
      refine zp 2 hf hS fun a hf => ?_
      refine zS 3 [3, 8, 9, 10, 11, 12, 13] rfl rfl rfl rfl hf hS (fun w H => rq_loadB hf H TF.ls47 0 rfl rfl rfl) fun a hf => ?_
      refine zp 4 hf hS fun a hf => ?_
      refine zS 5 [5, 6, 7, 8, 9, 10, 11, 12, 13] rfl rfl rfl rfl hf hS (fun w H => rq_loadB hf H TF.ls47 0 rfl rfl rfl) fun a hf => ?_
      refine zp 6 hf hS fun a hf => ?_
      refine zp 7 hf hS fun a hf => ?_
      obtain ⟨e, he, hF⟩ := bs_ hF
      obtain ⟨p, o3, cs7, hx12, hr7, H⟩ := pre_iaddr H Tryz.underlying47 TF.sz3 1 rfl he
      refine zP 8 rfl rfl rfl rfl hf hS (fun w => rq_iaddrE hf rfl rfl rfl hx12 w) fun a hf => ?_
      obtain rfl := hr7
      refine strT (H.lt_ [true, false, false, false] [] [false] [0]) (fun w H => H.lt_ [true] [] [] []) fun hS => ?_
      refine zS 9 [9, 10, 11, 12, 13] rfl rfl rfl rfl hf hS (fun w H => rq_loadI hf H TF.ls3 0 0 rfl rfl rfl) fun a hf => ?_
      refine nn 10 rfl (bl hf H 3 ([e] : List Int) [(.int .i64 e)] (el1 (y := e) (rfl)) fun A12 a w hf H => ?_)
      have hS := H.lt_ [true, false, false, false] [false] [false] [0]
      refine aS hS ?_
      obtain ⟨Fs2, E3, H, -⟩ := H.thaw rfl
      have H := H.rowSh 0 rfl
      have H := H.pB hS0 hl
      have H := H.pB hS0 hl2
      have H := H.pB hS0 hl3
      have H := H.argB (by simpa using hS0) (p := MP.val [(.slice A y2.2.code.length c2)] (y2.2.code : List By)) (by rw [hx5]; exact hl)
      obtain ⟨l2, hl2_, hF⟩ := bs_ hF
      refine nn 11 rfl (op_appR hf H Tryz.underlying47 TF.ai3 rfl (by decide) 0 1 rfl rfl rfl rfl (.inr rfl) hl2_ (by decide) fun E4 A13 c11 a w hf H => ?_)
      refine ⟨fun h => absurd h (by decide), ?_⟩
      refine tp 12 rfl rfl hf (by kernel_rfl) (fun h => absurd h (by decide)) rfl fun a hf => ?_
      refine nn 13 rfl (op_storeB hf H 0 TF.sz47 rfl rfl rfl rfl rfl rfl (nle rfl) fun w H => ?_)
      refine ⟨fun h => absurd h (by decide), ?_⟩
      refine dk ?_
      have hf := hf.pn [4, 5]
      refine blk_n (then_n (sq (reg (lN 0 hf H TF.la59 fun a hf => ?_))))
      refine sB 1 hf H TF.sz59 fun w H => ?_
      refine wer ?_
      have H := H.rowOwn 0 rfl rfl
      obtain ⟨F5, H⟩ := H.freezeOwn 0 rfl
      have H := H.lend 0 rfl
      obtain rfl := oi hF
      refine ret_1 hf rfl (rv_cellN hf H 1 TF.la59 rfl rfl rfl) ?_
      have hN := H.endsB1 3 rfl
      exact ⟨_, rfl, H.chg, _, H.boxAt 3 rfl, (L1CurP_mk (x := y2.2) (eB 3 (H.get 1 rfl))), ⟨fxc hx5, hx5⟩, F5, ⟨_, Route_ownmk (x := ({ Start := y.1.Start, Fibers := l2 } : Route)) (H.ownAt 0 rfl), rfl⟩, by first | exact hN | simpa using hN⟩
     ·refine wp_skip (blk_n (then_n (sq (reg (lN 0 hf H TF.la59 fun a hf => ?_)))))
      refine sB 1 hf H TF.sz59 fun w H => ?_
      refine wer ?_
      obtain rfl := oi hF
      refine ret_1 hf rfl (rv_cellN hf H 1 TF.la59 rfl rfl rfl) ?_
      have hN := H.endsB1 3 rfl
      exact ⟨_, rfl, H.chg, _, H.boxAt 3 rfl, (L1CurP_mk (x := y2.2) (eB 3 (H.get 0 rfl))), ⟨fxc hx5, hx5⟩, F2, ⟨_, Route_ownmk (x := y.1) (H.ownAt 0 rfl), rfl⟩, by first | exact hN | simpa using hN⟩
    ·refine wp_skip (blk_n (then_n (sq (reg (lN 0 hf H TF.la59 fun a hf => ?_)))))
     refine sB 1 hf H TF.sz59 fun w H => ?_
     refine wer ?_
     obtain rfl := oi hF
     refine ret_1 hf rfl (rv_cellN hf H 1 TF.la59 rfl rfl rfl) ?_
     have hN := H.endsB1 3 rfl
     exact ⟨_, rfl, H.chg, _, H.boxAt 3 rfl, (L1CurP_mk (x := y2.2) (eB 3 (H.get 0 rfl))), ⟨fxc hx5, hx5⟩, F2, ⟨_, Route_ownmk (x := y.1) (H.ownAt 0 rfl), rfl⟩, by first | exact hN | simpa using hN⟩
theorem spec_l1Cur_requests_ok {S : Nat → Prop} {b0 : Nat} {cs0 : List Value} {c : L1CurP} {r : Network × List Request × L1CurP} (hp0 : w0.heap[b0]? = some (.cells cs0.toArray 101 (0, 0))) (hr0 : GoTy.rep w0 S cs0 c) (hS0 : ¬ S b0) (hF : spec_l1Cur_requests fu c = some r) :
    Calls Tryz.prog 63 [(.pointer (some ⟨b0, 0, none⟩))].toArray w0 fun e w' => ∃ v, e = .returned v ∧ (Chg w0 w' [b0] ∧ ∃ cs', w'.heap[b0]? = some (.cells cs'.toArray 101 (0, 0)) ∧ GoTy.rep w' (St ⟨w0, [b0]⟩ S [⟨b0, 101, cs'⟩] [] [] false) cs' r.2.2 ∧ (cs'[0]? = cs0[0]? ∧ r.2.2.code = c.code) ∧ ∃ u0 u1, v = .tuple #[u0, u1] ∧ VR w' (St ⟨w0, [b0]⟩ S [⟨b0, 101, cs'⟩] [] [] true) u0 r.1 ∧ VR w' (St ⟨w0, [b0]⟩ S [⟨b0, 101, cs'⟩] [] [] true) u1 r.2.1) := by
 obtain ⟨A, c2, rfl, hl⟩ := L1CurP_cells hr0
 have H := Mem.startB S hp0
 have H := H.pB hS0 hl
 refine en Tryz.func63 fun a hf => ?_
 rw [spec_l1Cur_requests] at hF
 refine sq (reg (aL hf H TF.zv34 fun b2 a w hf H => ?_))
 refine pz 1 hf fun a hf => ?_
 refine wr (pz 1 hf fun a hf => ?_)
 obtain ⟨y, hy, hF⟩ := bs_ hF
 refine oc hf TF.cl132 (spec_l1Cur_linked_ok (S := NB b0) (H.boxAt 1 rfl) ((L1CurP_mk (x := c) (H.nb 1 rfl (H.get 0 rfl)))) (fun h => h rfl) hy) fun v w a hp2 hf => ?_
 obtain ⟨hch, cs2, hbx, hr2, ⟨hx, hx2⟩, hs⟩ := hp2
 obtain ⟨F, hp3, hN⟩ := hs
 obtain ⟨A2, c3, F2, A3, c4, F3, rfl, rfl, hl2, hl3⟩ := Network_vo hp3
 obtain ⟨A4, c5, rfl, hl4⟩ := L1CurP_cells hr2
 obtain ⟨rfl, rfl⟩ := fx_slice hx rfl rfl
 have H := H.bO2 1 rfl hch hbx hN hl2 hl3
 have H := H.pX 0 rfl hx2
 have H := H.lend 0 rfl
 have H := H.lend 1 rfl
 refine aL hf H TF.zv34 fun b3 a w hf H => ?_
 refine sB 0 hf H TF.sz34 fun w H => ?_
 refine wr (wl0 rfl (bl hf H 61 ([] : List Request) [] el0 fun A5 a w hf H => ?_))
 refine pz 1 hf fun a hf => ?_
 refine we (sqz (pz 1 hf fun a hf => ?_))
 obtain ⟨y2, hy2, hF⟩ := bs_ hF
 refine oc hf TF.cl133 (spec_l1Cur_pick_ok (S := NB b0) (H.boxAt 2 rfl) ((L1CurP_mk (x := y.2) (H.nb 2 rfl (H.get 2 rfl)))) (fun h => h rfl) mk_int hy2) fun v2 w a hp4 hf => ?_
 obtain ⟨hch2, cs3, hbx2, hr3, ⟨hx3, hx4⟩, hs2⟩ := hp4
 obtain rfl := VR_int hs2
 obtain ⟨A6, c6, rfl, hl5⟩ := L1CurP_cells hr3
 obtain ⟨rfl, rfl⟩ := fx_slice hx3 rfl rfl
 have hx5 := hx4.trans hx2
 have H := H.wroteBox 2 rfl hch2 hbx2
 have H := H.pX 2 rfl hx4
 refine pz 1 hf fun a hf => ?_
 refine wl_end (then_n ?_)
 obtain ⟨out', hB1, hF⟩ := bs_ hF
 have hf := hf.pn [0, 2, 4, 5, 6]
 have H := H.lt_ [true, true, true] [true] [true, true] [0, 1, 2]
 refine loopC (fun (s : List Request × Int × List By × Int × U64) (a : Act) (w : World) => match s with | (l, k', m, m2, m3) => ∃ (A7 : Option Addr) (c7 : Nat) (E : Go.TypeId), m = c.code ∧ Fr a 73 [(0, (.pointer (some ⟨b0, 0, none⟩))), (2, (.pointer (some ⟨b2, 0, none⟩))), (4, (.pointer (some ⟨b3, 0, none⟩))), (5, (.slice A7 l.length c7)), (6, (.int .i64 k'))] ∧ Mem ⟨w0, [b0]⟩ S [⟨b3, 34, [(.slice A2 y.1.Nodes.length c3), (.slice A3 y.1.Fibers.length c4)]⟩, ⟨b2, 34, [(.slice none 0 0), (.slice none 0 0)]⟩, ⟨b0, 101, [(.slice A m.length c2), (.int .i64 m2), (.int .u64 m3.n)]⟩] [⟨.sh true, E, A7, c7, (l : List Request)⟩] [⟨F2, MP.own F2 [(.slice A2 y.1.Nodes.length c3)] (y.1.Nodes : List ByteArray)⟩, ⟨F3, MP.own F3 [(.slice A3 y.1.Fibers.length c4)] (y.1.Fibers : List Fiber)⟩] [(false, MP.val [(.slice A m.length c2)] (m : List By)), (true, MP.val [(.slice A3 y.1.Fibers.length c4)] (y.1.Fibers : List Fiber)), (true, MP.val [(.slice A2 y.1.Nodes.length c3)] (y.1.Nodes : List ByteArray))] w) (fun k (s : List Request × Int × List By × Int × U64) => spec_l1Cur_requests_L1 fu y k s.1 s.2.1 s.2.2.1 s.2.2.2.1 s.2.2.2.2 = some out') (fun s => out' = s) (([] : List Request), y2.1, y2.2.code, y2.2.at_, y2.2.seed) fu hB1 ⟨A5, 0, 61, hx5, hf, H⟩ (fun s h => by cases h) ?_ ?_
 ·rintro fk ⟨l, k', m, m2, m3⟩ a w hR1 hI
  replace hR1 : spec_l1Cur_requests_L1 fu y (fk + 1) l k' m m2 m3 = some out' := hR1
  rw [spec_l1Cur_requests_L1] at hR1
  obtain ⟨A7, c7, E, hsm, hf, H⟩ := hI
  refine sq (sqz (pz 2 hf fun a hf => ?_))
  refine wl_end (then_n (ib hR1 hf (fun hc hR1 => ?_) fun hc hR1 => ?_))
  ·refine wp_skip (then_n (sq (wp_block (reg (pz 2 hf fun a hf => ?_)))))
   refine lN 0 hf H TF.la34 fun a hf => ?_
   obtain ⟨y3, hy3, hR1⟩ := bs_ hR1
   refine oc hf TF.cl134 (spec_l1Cur_routed_ok (S := NB b0) (H.boxAt 2 rfl) ((L1CurP_mk (x := ({ code := m, at_ := m2, seed := m3 } : L1CurP)) (H.nb 2 rfl (H.get 0 rfl)))) (fun h => h rfl) (Network_mkv (x := y.1) (H.nb 2 rfl (H.get 2 rfl)) (H.nb 2 rfl (H.get 1 rfl))) hy3) fun v3 w a hp5 hf => ?_
   obtain ⟨hch3, cs4, hbx3, hr4, ⟨hx6, hx7⟩, hs3⟩ := hp5
   obtain ⟨F4, hp6, hN2⟩ := hs3
   obtain ⟨A8, c8, F5, rfl, rfl, hl6⟩ := Route_vo hp6
   obtain ⟨A9, c9, rfl, hl7⟩ := L1CurP_cells hr4
   obtain ⟨rfl, rfl⟩ := fx_slice hx6 rfl rfl
   have hx8 := hx7.trans hsm
   have H := H.bO1 2 rfl hch3 hbx3 hN2 hl6
   have H := H.pX 0 rfl hx7
   have H := H.lend 0 rfl
   refine pz 1 hf fun a hf => ?_
   obtain ⟨y4, hy4, hR1⟩ := bs_ hR1
   refine oc hf TF.cl133 (spec_l1Cur_pick_ok (S := NB b0) (H.boxAt 2 rfl) ((L1CurP_mk (x := y3.2) (H.nb 2 rfl (H.get 1 rfl)))) (fun h => h rfl) mk_int hy4) fun v4 w a hp7 hf => ?_
   obtain ⟨hch4, cs5, hbx4, hr5, ⟨hx9, hx10⟩, hs4⟩ := hp7
   obtain rfl := VR_int hs4
   obtain ⟨A10, c10, rfl, hl8⟩ := L1CurP_cells hr5
   obtain ⟨rfl, rfl⟩ := fx_slice hx9 rfl rfl
   have hx11 := hx10.trans hx8
   have H := H.wroteBox 2 rfl hch4 hbx4
   have H := H.pX 1 rfl hx10
   refine pz 1 hf fun a hf => ?_
   refine oq hf (rq_build hf (cs := [(.int .i64 y3.1.Start), (.slice A8 y3.1.Fibers.length c8), (.int .i64 (w64 (1 + y4.1)))]) rfl (fun w => by kernel_rfl)) fun a hf => ?_
   refine wl0 rfl (bl hf H 61 ([({ Route := y3.1, Count := w64 (1 + y4.1) } : Request)] : List Request) [(.int .i64 y3.1.Start), (.slice A8 y3.1.Fibers.length c8), (.int .i64 (w64 (1 + y4.1)))] (el1 (y := ({ Route := y3.1, Count := w64 (1 + y4.1) } : Request)) ((Request_mk (x := ({ Route := y3.1, Count := w64 (1 + y4.1) } : Request)) (H.get 1 rfl)))) fun A11 a w hf H => ?_)
   obtain ⟨l2, hl2_, hR1⟩ := bs_ hR1
   refine wl0 rfl (op_appR hf H Tryz.underlying46 TF.ai61 rfl (by decide) 1 0 rfl rfl rfl rfl (.inr rfl) hl2_ (by decide) fun E2 A12 c11 a w hf H => ?_)
   refine pz 1 hf fun a hf => ?_
   refine wl_end (blk_n (then_n (reg (pz 3 hf fun a hf => ?_))))
   have hf := hf.pn [0, 2, 4, 5, 6]
   refine wl_end ?_
   have hf := hf.pn [0, 2, 4, 5, 6]
   have H := H.lt_ [true, true, true] [false, true] [false, true, true] [0, 4, 5]
   exact then_n ⟨(l2, w64 (k' - 1), y4.2.code, y4.2.at_, y4.2.seed), hR1, A12, c11, E2, hx11, hf, H⟩
  ·refine wp_exit (then_x (then_x (blk_e (?_))))
   have hf := hf.pn [0, 2, 4, 5, 6]
   have H := H.lt_ [true, true, true] [true] [true, true] [0, 1, 2]
   exact ⟨(l, k', m, m2, m3), (Option.some.inj hR1).symm, A7, c7, E, hsm, hf, H⟩
 rintro a w ⟨⟨l3, k2, m4, m5, m6⟩, rfl, A13, c12, E3, hsm, hf, H⟩
 try dsimp only at hsm
 try dsimp only at hF
 refine then_n (sq (sqz (pz 4 hf fun a hf => ?_)))
 refine iteB hF (fun hc2 hF => ?_) fun hc2 hF => ?_
 ·have hf := hf.lit 31 rfl hc2
  refine pz 1 hf fun a hf => ?_
  obtain ⟨y5, hy5, hF⟩ := bs_ hF
  refine wlg hf rfl rfl rfl (oC hf TF.cl82 (spec_l1Cur_one_ok (S := NB b0) (H.boxAt 2 rfl) ((L1CurP_mk (x := ({ code := m4, at_ := m5, seed := m6 } : L1CurP)) (H.nb 2 rfl (H.get 0 rfl)))) (fun h => h rfl) mk_int hy5) fun v5 w a hp8 hf => ?_)
  obtain ⟨hch5, cs6, hbx5, hr6, ⟨hx12, hx13⟩, hs5⟩ := hp8
  obtain rfl := VR_bool hs5
  obtain ⟨A14, c13, rfl, hl9⟩ := L1CurP_cells hr6
  obtain ⟨rfl, rfl⟩ := fx_slice hx12 rfl rfl
  have hx14 := hx13.trans hsm
  have H := H.wroteBox 2 rfl hch5 hbx5
  have H := H.pX 0 rfl hx13
  refine pz 1 hf fun a hf => ?_
  refine wl_end (then_n (ib hF hf (fun hc3 hF => ?_) fun hc3 hF => ?_))
  ·refine sqz (pz 3 hf fun a hf => ?_)
   obtain ⟨y6, hy6, hF⟩ := bs_ hF
   refine oc hf TF.cl133 (spec_l1Cur_pick_ok (S := NB b0) (H.boxAt 2 rfl) ((L1CurP_mk (x := y5.2) (H.nb 2 rfl (H.get 0 rfl)))) (fun h => h rfl) mk_int hy6) fun v6 w a hp9 hf => ?_
   obtain ⟨hch6, cs7, hbx6, hr7, ⟨hx15, hx16⟩, hs6⟩ := hp9
   obtain rfl := VR_int hs6
   obtain ⟨A15, c14, rfl, hl10⟩ := L1CurP_cells hr7
   obtain ⟨rfl, rfl⟩ := fx_slice hx15 rfl rfl
   have hx17 := hx16.trans hx14
   have H := H.wroteBox 2 rfl hch6 hbx6
   have H := H.pX 0 rfl hx16
   refine pz 1 hf fun a hf => ?_
   refine wr (pz 2 hf fun a hf => ?_)
   obtain ⟨e, he, hF⟩ := bs_ hF
   refine wl0 rfl (op_iaddrR hf H Tryz.underlying46 TF.sz61 0 rfl rfl rfl he (by decide) fun p o2 cs8 a hf hA hr8 hk => ?_)
   obtain ⟨A16, c15, rfl, hl11⟩ := Request_cells hr8
   have H := H.pT hl11
   refine oq hf (rq_loadN hf TF.la61 rfl rfl (fun j c hj => hk _ c (by simpa using hj))) fun a hf => ?_
   refine aL hf H TF.zv61 fun b4 a w hf H => ?_
   refine sB 0 hf H TF.sz61 fun w H => ?_
   have hf := hf.pn [0, 2, 4, 5, 7, 8]
   refine we (sqz (pz 1 hf fun a hf => ?_))
   obtain ⟨y7, hy7, hF⟩ := bs_ hF
   refine oc hf TF.cl133 (spec_l1Cur_pick_ok (S := NB b0) (H.boxAt 3 rfl) ((L1CurP_mk (x := y6.2) (H.nb 3 rfl (H.get 1 rfl)))) (fun h => h rfl) mk_int hy7) fun v7 w a hp10 hf => ?_
   obtain ⟨hch7, cs9, hbx7, hr9, ⟨hx18, hx19⟩, hs7⟩ := hp10
   obtain rfl := VR_int hs7
   obtain ⟨A17, c16, rfl, hl12⟩ := L1CurP_cells hr9
   obtain ⟨rfl, rfl⟩ := fx_slice hx18 rfl rfl
   have hx20 := hx19.trans hx17
   have H := H.wroteBox 3 rfl hch7 hbx7
   have H := H.pX 1 rfl hx19
   refine wl_end (then_n (wp_block (sqz (pz 2 hf fun a hf => ?_))))
   refine wl_end (then_n (ib hF hf (fun hc4 hF => ?_) fun hc4 hF => ?_))
   ·refine reg (pz 1 hf fun a hf => ?_)
    refine wl0 rfl (bl hf H 3 ([0, 24, 25] : List Int) [(.int .i64 0), (.int .i64 24), (.int .i64 25)] (elI [0, 24, 25]) fun A18 a w hf H => ?_)
    have H := H.freeze 0 rfl
    obtain ⟨y8, hy8, hF⟩ := bs_ hF
    refine oc hf TF.cl83 (spec_l1Cur_among_ok (S := NB b0) (H.boxAt 3 rfl) ((L1CurP_mk (x := y7.2) (H.nb 3 rfl (H.get 1 rfl)))) (fun h => h rfl) (mk_list (H.nb 3 rfl (H.get 0 rfl))) hy8) fun v8 w a hp11 hf => ?_
    obtain ⟨hch8, cs10, hbx8, hr10, ⟨hx21, hx22⟩, hs8⟩ := hp11
    obtain rfl := VR_int hs8
    obtain ⟨A19, c17, rfl, hl13⟩ := L1CurP_cells hr10
    obtain ⟨rfl, rfl⟩ := fx_slice hx21 rfl rfl
    have hx23 := hx22.trans hx20
    have H := H.wroteBox 3 rfl hch8 hbx8
    have H := H.pX 1 rfl hx22
    refine pz 1 hf fun a hf => ?_
    refine sB 0 hf H TF.sz3 fun w H => ?_
    refine wl_end (blk_n (then_n (reg (pz 2 hf fun a hf => ?_))))
    refine lN 0 hf H TF.la61 fun a hf => ?_
    obtain ⟨e2, he2, hF⟩ := bs_ hF
    refine wl0 rfl (op_iaddrR hf H Tryz.underlying46 TF.sz61 0 rfl rfl rfl he2 (by decide) fun p2 o3 cs11 a hf hA2 hr11 hk2 => ?_)
    obtain ⟨A20, c18, rfl, hl14⟩ := Request_cells hr11
    have H := H.pT hl14
    refine wl0 rfl (op_storeR (e' := ({ Route := e.Route, Count := y8.1 } : Request)) (o := o3) (off := 0) hf H TF.sz61 0 rfl rfl rfl rfl rfl (nle rfl) rfl hA2 he2 (st_full (Request_mk (x := ({ Route := e.Route, Count := y8.1 } : Request)) (H.get 4 rfl))) fun w H => ?_)
    replace hf : Fr a 73 [(2, (.pointer (some ⟨b2, 0, none⟩))), (4, (.pointer (some ⟨b3, 0, none⟩))), (5, (.slice A13 l3.length c12)), (7, (.int .i64 y6.1)), (8, (.pointer (some ⟨b4, 0, none⟩))), (67, (.slice A13 l3.length c12)), (68, (.int .i64 y6.1)), (69, (.agg #[(.int .i64 e.Route.Start), (.slice A16 e.Route.Fibers.length c15), (.int .i64 y8.1)])), (70, (.pointer (some ⟨p2, o3 + 0, none⟩)))] := hf.prune [2, 4, 5, 7, 8, 67, 68, 69, 70] rfl
    replace hf : Fr a 73 [(2, (.pointer (some ⟨b2, 0, none⟩))), (4, (.pointer (some ⟨b3, 0, none⟩))), (5, (.slice A13 (l3.set (y6.1 : Int).toNat ({ Route := e.Route, Count := y8.1 } : Request)).length c12)), (7, (.int .i64 y6.1)), (8, (.pointer (some ⟨b4, 0, none⟩))), (67, (.slice A13 (l3.set (y6.1 : Int).toNat ({ Route := e.Route, Count := y8.1 } : Request)).length c12)), (68, (.int .i64 y6.1)), (69, (.agg #[(.int .i64 e.Route.Start), (.slice A16 e.Route.Fibers.length c15), (.int .i64 y8.1)])), (70, (.pointer (some ⟨p2, o3 + 0, none⟩)))] := by simpa only [List.length_set, Nat.add_zero] using hf
    refine wr (lN 1 hf H TF.la34 fun a hf => ?_)
    refine pz 1 hf fun a hf => ?_
    refine sB 2 hf H TF.sz34 fun w H => ?_
    refine pz 1 hf fun a hf => ?_
    refine wer ?_
    have H := H.freeze 0 rfl
    obtain rfl := oi hF
    refine ret_2 hf rfl (rv_cellN hf H 2 TF.la34 rfl rfl rfl) (rv_tmp hf rfl) ?_
    exact ⟨_, rfl, H.chg, _, H.boxAt 3 rfl, (L1CurP_mk (x := y8.2) (eB 3 (H.get 2 rfl))), ⟨fxc hx23, hx23⟩, _, _, rfl, (Network_mkv (x := y.1) (eB 3 (H.get 10 rfl)) (eB 3 (H.get 9 rfl))), (mk_list (eB 3 (H.get 0 rfl)))⟩
   ·refine sqz (pz 2 hf fun a hf => ?_)
    refine wl_end (then_n (ib hF hf (fun hc5 hF => ?_) fun hc5 hF => ?_))
    ·refine reg (pz 1 hf fun a hf => ?_)
     refine lN 1 hf H TF.la34 fun a hf => ?_
     obtain ⟨y9, hy9, hF⟩ := bs_ hF
     refine oc hf TF.cl135 (spec_l1Cur_anyRoute_ok (S := NB b0) (H.boxAt 3 rfl) ((L1CurP_mk (x := y7.2) (H.nb 3 rfl (H.get 0 rfl)))) (fun h => h rfl) (Network_mkv (x := y.1) (H.nb 3 rfl (H.get 6 rfl)) (H.nb 3 rfl (H.get 5 rfl))) hy9) fun v9 w a hp12 hf => ?_
     obtain ⟨hch9, cs12, hbx9, hr12, ⟨hx24, hx25⟩, hs9⟩ := hp12
     obtain ⟨F6, hp13, hN3⟩ := hs9
     obtain ⟨A21, c19, F7, rfl, rfl, hl15⟩ := Route_vo hp13
     obtain ⟨A22, c20, rfl, hl16⟩ := L1CurP_cells hr12
     obtain ⟨rfl, rfl⟩ := fx_slice hx24 rfl rfl
     have hx26 := hx25.trans hx20
     have H := H.bO1 3 rfl hch9 hbx9 hN3 hl15
     have H := H.pX 0 rfl hx25
     have H := H.lend 0 rfl
     refine pz 1 hf fun a hf => ?_
     refine sB 0 hf H TF.sz59 fun w H => ?_
     refine wl_end (blk_n (then_n (reg (pz 2 hf fun a hf => ?_))))
     refine lN 0 hf H TF.la61 fun a hf => ?_
     obtain ⟨e3, he3, hF⟩ := bs_ hF
     refine wl0 rfl (op_iaddrR hf H Tryz.underlying46 TF.sz61 0 rfl rfl rfl he3 (by decide) fun p3 o4 cs13 a hf hA3 hr13 hk3 => ?_)
     obtain ⟨A23, c21, rfl, hl17⟩ := Request_cells hr13
     have H := H.pT hl17
     refine wl0 rfl (op_storeR (e' := ({ Route := y9.1, Count := e.Count } : Request)) (o := o4) (off := 0) hf H TF.sz61 0 rfl rfl rfl rfl rfl (nle rfl) rfl hA3 he3 (st_full (Request_mk (x := ({ Route := y9.1, Count := e.Count } : Request)) (H.get 1 rfl))) fun w H => ?_)
     replace hf : Fr a 73 [(2, (.pointer (some ⟨b2, 0, none⟩))), (4, (.pointer (some ⟨b3, 0, none⟩))), (5, (.slice A13 l3.length c12)), (7, (.int .i64 y6.1)), (8, (.pointer (some ⟨b4, 0, none⟩))), (67, (.slice A13 l3.length c12)), (68, (.int .i64 y6.1)), (69, (.agg #[(.int .i64 y9.1.Start), (.slice A21 y9.1.Fibers.length c19), (.int .i64 e.Count)])), (70, (.pointer (some ⟨p3, o4 + 0, none⟩)))] := hf.prune [2, 4, 5, 7, 8, 67, 68, 69, 70] rfl
     replace hf : Fr a 73 [(2, (.pointer (some ⟨b2, 0, none⟩))), (4, (.pointer (some ⟨b3, 0, none⟩))), (5, (.slice A13 (l3.set (y6.1 : Int).toNat ({ Route := y9.1, Count := e.Count } : Request)).length c12)), (7, (.int .i64 y6.1)), (8, (.pointer (some ⟨b4, 0, none⟩))), (67, (.slice A13 (l3.set (y6.1 : Int).toNat ({ Route := y9.1, Count := e.Count } : Request)).length c12)), (68, (.int .i64 y6.1)), (69, (.agg #[(.int .i64 y9.1.Start), (.slice A21 y9.1.Fibers.length c19), (.int .i64 e.Count)])), (70, (.pointer (some ⟨p3, o4 + 0, none⟩)))] := by simpa only [List.length_set, Nat.add_zero] using hf
     refine wr (lN 1 hf H TF.la34 fun a hf => ?_)
     refine pz 1 hf fun a hf => ?_
     refine sB 2 hf H TF.sz34 fun w H => ?_
     refine pz 1 hf fun a hf => ?_
     refine wer ?_
     have H := H.freeze 0 rfl
     obtain rfl := oi hF
     refine ret_2 hf rfl (rv_cellN hf H 2 TF.la34 rfl rfl rfl) (rv_tmp hf rfl) ?_
     exact ⟨_, rfl, H.chg, _, H.boxAt 3 rfl, (L1CurP_mk (x := y9.2) (eB 3 (H.get 3 rfl))), ⟨fxc hx26, hx26⟩, _, _, rfl, (Network_mkv (x := y.1) (eB 3 (H.get 10 rfl)) (eB 3 (H.get 9 rfl))), (mk_list (eB 3 (H.get 0 rfl)))⟩
    ·obtain ⟨out2, hB1, hF⟩ := bs_ hF
     have hf := hf.pn [0, 2, 4, 5, 7, 8]
     have H := H.lt_ [true, true, true, true] [true] [true, true] [0, 1, 5, 6]
     refine loopC (fun (s : List Request × List By × Int × U64) (a : Act) (w : World) => match s with | (l4, m7, m8, m9) => ∃ (A24 : Option Addr) (c22 : Nat) (E4 : Go.TypeId), m7 = c.code ∧ Fr a 73 [(0, (.pointer (some ⟨b0, 0, none⟩))), (2, (.pointer (some ⟨b2, 0, none⟩))), (4, (.pointer (some ⟨b3, 0, none⟩))), (5, (.slice A24 l4.length c22)), (7, (.int .i64 y6.1)), (8, (.pointer (some ⟨b4, 0, none⟩)))] ∧ Mem ⟨w0, [b0]⟩ S [⟨b4, 61, [(.int .i64 e.Route.Start), (.slice A16 e.Route.Fibers.length c15), (.int .i64 e.Count)]⟩, ⟨b3, 34, [(.slice A2 y.1.Nodes.length c3), (.slice A3 y.1.Fibers.length c4)]⟩, ⟨b2, 34, [(.slice none 0 0), (.slice none 0 0)]⟩, ⟨b0, 101, [(.slice A m7.length c2), (.int .i64 m8), (.int .u64 m9.n)]⟩] [⟨.sh true, E4, A24, c22, (l4 : List Request)⟩] [⟨F2, MP.own F2 [(.slice A2 y.1.Nodes.length c3)] (y.1.Nodes : List ByteArray)⟩, ⟨F3, MP.own F3 [(.slice A3 y.1.Fibers.length c4)] (y.1.Fibers : List Fiber)⟩] [(false, MP.val [(.slice A m7.length c2)] (m7 : List By)), (true, MP.val [(.slice A16 e.Route.Fibers.length c15)] (e.Route.Fibers : List Int)), (true, MP.val [(.slice A3 y.1.Fibers.length c4)] (y.1.Fibers : List Fiber)), (true, MP.val [(.slice A2 y.1.Nodes.length c3)] (y.1.Nodes : List ByteArray))] w) (fun k (s : List Request × List By × Int × U64) => spec_l1Cur_requests_L2 fu e k s.1 s.2.1 s.2.2.1 s.2.2.2 = some out2) (fun s => out2 = s) (l3, y7.2.code, y7.2.at_, y7.2.seed) fu hB1 ⟨A13, c12, E3, hx20, hf, H⟩ (fun s h => by cases h) ?_ ?_
     ·rintro fk ⟨l4, m7, m8, m9⟩ a w hR1 hI
      replace hR1 : spec_l1Cur_requests_L2 fu e (fk + 1) l4 m7 m8 m9 = some out2 := hR1
      rw [spec_l1Cur_requests_L2] at hR1
      obtain ⟨A24, c22, E4, hsm2, hf, H⟩ := hI
      refine sq (sqz (pz 3 hf fun a hf => ?_))
      obtain ⟨y10, hy10, hR1⟩ := bs_ hR1
      refine oc hf TF.cl133 (spec_l1Cur_pick_ok (S := NB b0) (H.boxAt 3 rfl) ((L1CurP_mk (x := ({ code := m7, at_ := m8, seed := m9 } : L1CurP)) (H.nb 3 rfl (H.get 0 rfl)))) (fun h => h rfl) mk_int hy10) fun v10 w a hp14 hf => ?_
      obtain ⟨hch10, cs14, hbx10, hr14, ⟨hx27, hx28⟩, hs10⟩ := hp14
      obtain rfl := VR_int hs10
      obtain ⟨A25, c23, rfl, hl18⟩ := L1CurP_cells hr14
      obtain ⟨rfl, rfl⟩ := fx_slice hx27 rfl rfl
      have hx29 := hx28.trans hsm2
      have H := H.wroteBox 3 rfl hch10 hbx10
      have H := H.pX 0 rfl hx28
      refine pz 2 hf fun a hf => ?_
      refine wl_end (then_n (ib hR1 hf (fun hc6 hR1 => ?_) fun hc6 hR1 => ?_))
      ·refine wp_skip (then_n (wp_block (reg (pz 1 hf fun a hf => ?_))))
       refine lN 0 hf H TF.la61 fun a hf => ?_
       refine wl0 rfl (bl hf H 61 ([e] : List Request) [(.int .i64 e.Route.Start), (.slice A16 e.Route.Fibers.length c15), (.int .i64 e.Count)] (el1 (y := e) ((Request_mk (x := e) (H.get 2 rfl)))) fun A26 a w hf H => ?_)
       obtain ⟨l5, hl5_, hR1⟩ := bs_ hR1
       refine wl0 rfl (op_appR hf H Tryz.underlying46 TF.ai61 rfl (by decide) 1 0 rfl rfl rfl rfl (.inr rfl) hl5_ (by decide) fun E5 A27 c24 a w hf H => ?_)
       refine pz 1 hf fun a hf => ?_
       refine wl_end (blk_n ?_)
       have hf := hf.pn [0, 2, 4, 5, 7, 8]
       have H := H.lt_ [true, true, true, true] [false, true] [true, true] [0, 2, 3, 4]
       exact then_n ⟨(l5, y10.2.code, y10.2.at_, y10.2.seed), hR1, A27, c24, E5, hx29, hf, H⟩
      ·refine wp_exit (then_x (then_x (blk_e (?_))))
       have hf := hf.pn [0, 2, 4, 5, 7, 8]
       have H := H.lt_ [true, true, true, true] [true] [true, true] [0, 2, 3, 4]
       exact ⟨(l4, y10.2.code, y10.2.at_, y10.2.seed), (Option.some.inj hR1).symm, A24, c22, E4, hx29, hf, H⟩
     rintro a w ⟨⟨l6, m10, m11, m12⟩, rfl, A28, c25, E6, hsm2, hf, H⟩
     try dsimp only at hsm2
     try dsimp only at hF
     refine blk_n (then_n (reg (pz 2 hf fun a hf => ?_)))
     refine lN 0 hf H TF.la61 fun a hf => ?_
     obtain ⟨e4, he4, hF⟩ := bs_ hF
     refine wl0 rfl (op_iaddrR hf H Tryz.underlying46 TF.sz61 0 rfl rfl rfl he4 (by decide) fun p4 o5 cs15 a hf hA4 hr15 hk4 => ?_)
     obtain ⟨A29, c26, rfl, hl19⟩ := Request_cells hr15
     have H := H.pT hl19
     refine wl0 rfl (op_storeR (e' := e) (o := o5) (off := 0) hf H TF.sz61 0 rfl rfl rfl rfl rfl (nle rfl) rfl hA4 he4 (st_full (Request_mk (x := e) (H.get 2 rfl))) fun w H => ?_)
     replace hf : Fr a 73 [(2, (.pointer (some ⟨b2, 0, none⟩))), (4, (.pointer (some ⟨b3, 0, none⟩))), (5, (.slice A28 l6.length c25)), (7, (.int .i64 y6.1)), (8, (.pointer (some ⟨b4, 0, none⟩))), (67, (.slice A28 l6.length c25)), (68, (.int .i64 y6.1)), (69, (.agg #[(.int .i64 e.Route.Start), (.slice A16 e.Route.Fibers.length c15), (.int .i64 e.Count)])), (70, (.pointer (some ⟨p4, o5 + 0, none⟩)))] := hf.prune [2, 4, 5, 7, 8, 67, 68, 69, 70] rfl
     replace hf : Fr a 73 [(2, (.pointer (some ⟨b2, 0, none⟩))), (4, (.pointer (some ⟨b3, 0, none⟩))), (5, (.slice A28 (l6.set (y6.1 : Int).toNat e).length c25)), (7, (.int .i64 y6.1)), (8, (.pointer (some ⟨b4, 0, none⟩))), (67, (.slice A28 (l6.set (y6.1 : Int).toNat e).length c25)), (68, (.int .i64 y6.1)), (69, (.agg #[(.int .i64 e.Route.Start), (.slice A16 e.Route.Fibers.length c15), (.int .i64 e.Count)])), (70, (.pointer (some ⟨p4, o5 + 0, none⟩)))] := by simpa only [List.length_set, Nat.add_zero] using hf
     refine wr (lN 1 hf H TF.la34 fun a hf => ?_)
     refine pz 1 hf fun a hf => ?_
     refine sB 2 hf H TF.sz34 fun w H => ?_
     refine pz 1 hf fun a hf => ?_
     refine wer ?_
     have H := H.freeze 0 rfl
     obtain rfl := oi hF
     refine ret_2 hf rfl (rv_cellN hf H 2 TF.la34 rfl rfl rfl) (rv_tmp hf rfl) ?_
     exact ⟨_, rfl, H.chg, _, H.boxAt 3 rfl, (L1CurP_mk (x := ({ code := m10, at_ := m11, seed := m12 } : L1CurP)) (eB 3 (H.get 2 rfl))), ⟨fxc hsm2, hsm2⟩, _, _, rfl, (Network_mkv (x := y.1) (eB 3 (H.get 5 rfl)) (eB 3 (H.get 4 rfl))), (mk_list (eB 3 (H.get 0 rfl)))⟩
  ·refine wp_skip (then_n (sq (reg (lN 0 hf H TF.la34 fun a hf => ?_))))
   refine pz 1 hf fun a hf => ?_
   refine sB 1 hf H TF.sz34 fun w H => ?_
   refine pz 1 hf fun a hf => ?_
   have hf := hf.pn [2, 3]
   refine wer ?_
   have H := H.freeze 0 rfl
   obtain rfl := oi hF
   refine ret_2 hf rfl (rv_cellN hf H 1 TF.la34 rfl rfl rfl) (rv_tmp hf rfl) ?_
   exact ⟨_, rfl, H.chg, _, H.boxAt 2 rfl, (L1CurP_mk (x := y5.2) (eB 2 (H.get 1 rfl))), ⟨fxc hx14, hx14⟩, _, _, rfl, (Network_mkv (x := y.1) (eB 2 (H.get 4 rfl)) (eB 2 (H.get 3 rfl))), (mk_list (eB 2 (H.get 0 rfl)))⟩
 ·have hf := hf.lit 31 rfl hc2
  refine pz 3 hf fun a hf => ?_
  refine wl_end (then_n (cd_f hf rfl rfl (wp_skip (then_n (sq (reg (lN 0 hf H TF.la34 fun a hf => ?_)))))))
  refine pz 1 hf fun a hf => ?_
  refine sB 1 hf H TF.sz34 fun w H => ?_
  refine pz 1 hf fun a hf => ?_
  have hf := hf.pn [2, 3]
  refine wer ?_
  have H := H.freeze 0 rfl
  obtain rfl := oi hF
  refine ret_2 hf rfl (rv_cellN hf H 1 TF.la34 rfl rfl rfl) (rv_tmp hf rfl) ?_
  exact ⟨_, rfl, H.chg, _, H.boxAt 2 rfl, (L1CurP_mk (x := ({ code := m4, at_ := m5, seed := m6 } : L1CurP)) (eB 2 (H.get 1 rfl))), ⟨fxc hsm, hsm⟩, _, _, rfl, (Network_mkv (x := y.1) (eB 2 (H.get 3 rfl)) (eB 2 (H.get 2 rfl))), (mk_list (eB 2 (H.get 0 rfl)))⟩
theorem spec_l1Cur_order_ok {S : Nat → Prop} {b0 : Nat} {cs0 : List Value} {v1_ : Value} {c : L1CurP} {n' : Int} {r : List Int × L1CurP} (hp0 : w0.heap[b0]? = some (.cells cs0.toArray 101 (0, 0))) (hr0 : GoTy.rep w0 S cs0 c) (hS0 : ¬ S b0) (h1 : VR w0 S v1_ n') (hF : spec_l1Cur_order fu c n' = some r) :
    Calls Tryz.prog 64 [(.pointer (some ⟨b0, 0, none⟩)), v1_].toArray w0 fun e w' => ∃ v, e = .returned v ∧ (Chg w0 w' [b0] ∧ ∃ cs', w'.heap[b0]? = some (.cells cs'.toArray 101 (0, 0)) ∧ GoTy.rep w' (St ⟨w0, [b0]⟩ S [⟨b0, 101, cs'⟩] [] [] false) cs' r.2 ∧ (cs'[0]? = cs0[0]? ∧ r.2.code = c.code) ∧ ∃ F0, VO w' F0 v r.1 ∧ New w0 w' F0) := by
 obtain ⟨A, c2, rfl, hl⟩ := L1CurP_cells hr0
 obtain rfl := VR_int h1
 have H := Mem.startB S hp0
 have H := H.pB hS0 hl
 refine en Tryz.func64 fun a hf => ?_
 rw [spec_l1Cur_order] at hF
 refine sqz (pz 1 hf fun a hf => ?_)
 refine wr (wl0 rfl (bl hf H 3 ([] : List Int) [] el0 fun A2 a w hf H => ?_))
 refine pz 1 hf fun a hf => ?_
 refine we (sqz (pz 1 hf fun a hf => ?_))
 refine wl_end (then_n ?_)
 obtain ⟨out', hB1, hF⟩ := bs_ hF
 have hf := hf.pn [0, 1, 5, 6]
 have H := H.lt_ [true] [true] [] [0]
 refine loopC (fun (s : List Int × Int × List By × Int × U64) (a : Act) (w : World) => match s with | (l, i, m, m2, m3) => ∃ (A3 : Option Addr) (c3 : Nat) (E : Go.TypeId), m = c.code ∧ Fr a 47 [(0, (.pointer (some ⟨b0, 0, none⟩))), (1, (.int .i64 n')), (5, (.slice A3 l.length c3)), (6, (.int .i64 i))] ∧ Mem ⟨w0, [b0]⟩ S [⟨b0, 101, [(.slice A m.length c2), (.int .i64 m2), (.int .u64 m3.n)]⟩] [⟨.sh true, E, A3, c3, (l : List Int)⟩] [] [(false, MP.val [(.slice A m.length c2)] (m : List By))] w) (fun k (s : List Int × Int × List By × Int × U64) => spec_l1Cur_order_L1 fu n' k s.1 s.2.1 s.2.2.1 s.2.2.2.1 s.2.2.2.2 = some out') (fun s => out' = s) (([] : List Int), 0, c.code, c.at_, c.seed) fu hB1 ⟨A2, 0, 3, rfl, hf, H⟩ (fun s h => by cases h) ?_ ?_
 ·rintro fk ⟨l, i, m, m2, m3⟩ a w hR1 hI
  replace hR1 : spec_l1Cur_order_L1 fu n' (fk + 1) l i m m2 m3 = some out' := hR1
  rw [spec_l1Cur_order_L1] at hR1
  obtain ⟨A3, c3, E, hsm, hf, H⟩ := hI
  refine sq (sqz (pz 3 hf fun a hf => ?_))
  refine wl_end (then_n (ib hR1 hf (fun hc hR1 => ?_) fun hc hR1 => ?_))
  ·refine ws (pz 3 hf fun a hf => ?_)
   obtain ⟨y, hy, hR1⟩ := bs_ hR1
   refine oc hf TF.cl133 (spec_l1Cur_pick_ok (S := NB b0) (H.boxAt 0 rfl) ((L1CurP_mk (x := ({ code := m, at_ := m2, seed := m3 } : L1CurP)) (H.nb 0 rfl (H.get 0 rfl)))) (fun h => h rfl) mk_int hy) fun v w a hp3 hf => ?_
   obtain ⟨hch, cs3, hbx, hr3, ⟨hx, hx2⟩, hs⟩ := hp3
   obtain rfl := VR_int hs
   obtain ⟨A4, c4, rfl, hl2⟩ := L1CurP_cells hr3
   obtain ⟨rfl, rfl⟩ := fx_slice hx rfl rfl
   have hx3 := hx2.trans hsm
   have H := H.wroteBox 0 rfl hch hbx
   have H := H.pX 0 rfl hx2
   refine pz 1 hf fun a hf => ?_
   refine wl_end (then_n ?_)
   obtain ⟨l2, hl2_, hR1⟩ := bs_ hR1
   obtain ⟨l3, hl3_, hR1⟩ := bs_ hR1
   obtain ⟨l4, hl4_, hR1⟩ := bs_ hR1
   obtain ⟨l5, hl5_, hR1⟩ := bs_ hR1
   obtain ⟨l6, hl6_, hR1⟩ := bs_ hR1
   refine mid (fun a w => ∃ (A11 : Option Addr) (c9 : Nat) (E4 : Go.TypeId), Fr a 47 [(0, (.pointer (some ⟨b0, 0, none⟩))), (1, (.int .i64 n')), (5, (.slice A11 l6.length c9)), (6, (.int .i64 i))] ∧ Mem ⟨w0, [b0]⟩ S [⟨b0, 101, [(.slice A y.2.code.length c2), (.int .i64 y.2.at_), (.int .u64 y.2.seed.n)]⟩] [⟨.sh true, E4, A11, c9, (l6 : List Int)⟩] [] [(false, MP.val [(.slice A y.2.code.length c2)] (y.2.code : List By))] w) ?_ ?_
   ·refine dw [] 13 fun w hb => ?_
    have H := H.keep hb
    refine zp 1 hf trivial fun a hf => ?_
    refine zp 2 hf trivial fun a hf => ?_
    have H := H.freeze 0 rfl
    obtain ⟨A5, c5, hx4, H⟩ := pre_slice H Tryz.underlying47 TF.sz3 0 (lov := none) (hiv := some (.int .i64 y.1)) (.inl ⟨rfl, rfl⟩) (.inr rfl) rfl hl2_
    refine tP 3 rfl rfl rfl rfl hf (by kernel_rfl) (fun _ => trivial) (fun w => rq_sliceE hf rfl rfl rfl hx4 w) fun a hf => ?_
    refine zp 5 hf trivial fun a hf => ?_
    refine zp 8 hf trivial fun a hf => ?_
    refine zp 9 hf trivial fun a hf => ?_
    obtain ⟨A6, c6, hx5, H⟩ := pre_slice H Tryz.underlying47 TF.sz3 1 (lov := some (.int .i64 y.1)) (hiv := none) (.inr rfl) (.inl ⟨rfl, rfl⟩) rfl hl3_
    refine tP 10 rfl rfl rfl rfl hf (by kernel_rfl) (fun _ => trivial) (fun w => rq_sliceE hf rfl rfl rfl hx5 w) fun a hf => ?_
    refine on2 (i := 0) (j := 6) (bi := [true, true, true, true, false, true, false, false, true, true, true, false, false]) (bj := [false, true, true, true, false, true, true, false, true, true, true, false, false]) (by kernel_rfl) rfl rfl rfl rfl rfl rfl ?_ ?_
    ·refine (bl hf H 3 ([] : List Int) [] el0 fun A7 a w hf H => ?_)
     refine ⟨fun _ => trivial, ?_⟩
     refine on2 (i := 4) (j := 6) (bi := [true, true, true, true, true, true, false, false, true, true, true, false, false]) (bj := [true, true, true, true, false, true, true, false, true, true, true, false, false]) (by kernel_rfl) rfl rfl rfl rfl rfl rfl ?_ ?_
     ·refine (op_appI hf H Tryz.underlying47 TF.ai3 rfl (by decide) 0 1 rfl rfl rfl rfl (.inr rfl) hl4_ (by decide) fun E2 A8 c7 a w hf H => ?_)
      refine ⟨fun _ => trivial, ?_⟩
      refine nn 6 rfl (bl hf H 3 ([i] : List Int) [(.int .i64 i)] (el1 (y := i) (rfl)) fun A9 a w hf H => ?_)
      refine ⟨fun _ => trivial, ?_⟩
      refine nn 7 rfl (op_appR hf H Tryz.underlying47 TF.ai3 rfl (by decide) 1 0 rfl rfl rfl rfl (.inr rfl) hl5_ (by decide) fun E3 A10 c8 a w hf H => ?_)
      refine ⟨fun _ => trivial, ?_⟩
      refine nn 11 rfl (op_appI hf H Tryz.underlying47 TF.ai3 rfl (by decide) 1 0 rfl rfl rfl rfl (.inr rfl) hl6_ (by decide) fun E4 A11 c9 a w hf H => ?_)
      refine ⟨fun _ => trivial, ?_⟩
      refine zp 12 hf trivial fun a hf => ?_
      refine dk ?_
      have hf := hf.pn [0, 1, 5, 6]
      have H := H.lt_ [true] [false, true] [] [3]
      exact ⟨A11, c9, E4, hf, H⟩
     ·refine (bl hf H 3 ([i] : List Int) [(.int .i64 i)] (el1 (y := i) (rfl)) fun A8 a w hf H => ?_)
      refine ⟨fun _ => trivial, ?_⟩
      refine nn 4 rfl (op_appI hf H Tryz.underlying47 TF.ai3 rfl (by decide) 1 1 rfl rfl rfl rfl (.inr rfl) hl4_ (by decide) fun E2 A9 c7 a w hf H => ?_)
      refine ⟨fun _ => trivial, ?_⟩
      refine nn 7 rfl (op_appR hf H Tryz.underlying47 TF.ai3 rfl (by decide) 1 0 rfl rfl rfl rfl (.inr rfl) hl5_ (by decide) fun E3 A10 c8 a w hf H => ?_)
      refine ⟨fun _ => trivial, ?_⟩
      refine nn 11 rfl (op_appI hf H Tryz.underlying47 TF.ai3 rfl (by decide) 1 0 rfl rfl rfl rfl (.inr rfl) hl6_ (by decide) fun E4 A11 c9 a w hf H => ?_)
      refine ⟨fun _ => trivial, ?_⟩
      refine zp 12 hf trivial fun a hf => ?_
      refine dk ?_
      have hf := hf.pn [0, 1, 5, 6]
      have H := H.lt_ [true] [false, true] [] [3]
      exact ⟨A11, c9, E4, hf, H⟩
    ·refine (bl hf H 3 ([i] : List Int) [(.int .i64 i)] (el1 (y := i) (rfl)) fun A7 a w hf H => ?_)
     refine ⟨fun _ => trivial, ?_⟩
     refine nn 0 rfl (bl hf H 3 ([] : List Int) [] el0 fun A8 a w hf H => ?_)
     refine ⟨fun _ => trivial, ?_⟩
     refine nn 4 rfl (op_appI hf H Tryz.underlying47 TF.ai3 rfl (by decide) 0 1 rfl rfl rfl rfl (.inr rfl) hl4_ (by decide) fun E2 A9 c7 a w hf H => ?_)
     refine ⟨fun _ => trivial, ?_⟩
     refine nn 7 rfl (op_appR hf H Tryz.underlying47 TF.ai3 rfl (by decide) 0 1 rfl rfl rfl rfl (.inr rfl) hl5_ (by decide) fun E3 A10 c8 a w hf H => ?_)
     refine ⟨fun _ => trivial, ?_⟩
     refine nn 11 rfl (op_appI hf H Tryz.underlying47 TF.ai3 rfl (by decide) 0 0 rfl rfl rfl rfl (.inr rfl) hl6_ (by decide) fun E4 A11 c9 a w hf H => ?_)
     refine ⟨fun _ => trivial, ?_⟩
     refine zp 12 hf trivial fun a hf => ?_
     refine dk ?_
     have hf := hf.pn [0, 1, 5, 6]
     have H := H.lt_ [true] [true, false] [] [3]
     exact ⟨A11, c9, E4, hf, H⟩
   rintro a w ⟨A11, c9, E4, hf, H⟩
   refine blk_n (then_n (reg (pz 3 hf fun a hf => ?_)))
   refine wl_end ?_
   have hf := hf.pn [0, 1, 5, 6]
   have H := H.lt_ [true] [true] [] [0]
   exact then_n ⟨(l6, w64 (i + 1), y.2.code, y.2.at_, y.2.seed), hR1, A11, c9, E4, hx3, hf, H⟩
  ·refine wp_exit (then_x (then_x (blk_e (?_))))
   have hf := hf.pn [0, 1, 5, 6]
   have H := H.lt_ [true] [true] [] [0]
   exact ⟨(l, i, m, m2, m3), (Option.some.inj hR1).symm, A3, c3, E, hsm, hf, H⟩
 rintro a w ⟨⟨l7, i2, m4, m5, m6⟩, rfl, A12, c10, E5, hsm, hf, H⟩
 try dsimp only at hsm
 try dsimp only at hF
 refine then_n (sq (sqz (pz 3 hf fun a hf => ?_)))
 refine iteB hF (fun hc2 hF => ?_) fun hc2 hF => ?_
 ·have hf := hf.lit 32 rfl hc2
  refine pz 1 hf fun a hf => ?_
  obtain ⟨y2, hy2, hF⟩ := bs_ hF
  refine wlg hf rfl rfl rfl (oC hf TF.cl82 (spec_l1Cur_one_ok (S := NB b0) (H.boxAt 0 rfl) ((L1CurP_mk (x := ({ code := m4, at_ := m5, seed := m6 } : L1CurP)) (H.nb 0 rfl (H.get 0 rfl)))) (fun h => h rfl) mk_int hy2) fun v2 w a hp4 hf => ?_)
  obtain ⟨hch2, cs4, hbx2, hr4, ⟨hx6, hx7⟩, hs2⟩ := hp4
  obtain rfl := VR_bool hs2
  obtain ⟨A13, c11, rfl, hl3⟩ := L1CurP_cells hr4
  obtain ⟨rfl, rfl⟩ := fx_slice hx6 rfl rfl
  have hx8 := hx7.trans hsm
  have H := H.wroteBox 0 rfl hch2 hbx2
  have H := H.pX 0 rfl hx7
  refine pz 1 hf fun a hf => ?_
  refine wl_end (then_n (ib hF hf (fun hc3 hF => ?_) fun hc3 hF => ?_))
  ·refine reg (pz 3 hf fun a hf => ?_)
   obtain ⟨y3, hy3, hF⟩ := bs_ hF
   refine oc hf TF.cl133 (spec_l1Cur_pick_ok (S := NB b0) (H.boxAt 0 rfl) ((L1CurP_mk (x := y2.2) (H.nb 0 rfl (H.get 0 rfl)))) (fun h => h rfl) mk_int hy3) fun v3 w a hp5 hf => ?_
   obtain ⟨hch3, cs5, hbx3, hr5, ⟨hx9, hx10⟩, hs3⟩ := hp5
   obtain rfl := VR_int hs3
   obtain ⟨A14, c12, rfl, hl4⟩ := L1CurP_cells hr5
   obtain ⟨rfl, rfl⟩ := fx_slice hx9 rfl rfl
   have hx11 := hx10.trans hx8
   have H := H.wroteBox 0 rfl hch3 hbx3
   have H := H.pX 0 rfl hx10
   refine pz 3 hf fun a hf => ?_
   obtain ⟨y4, hy4, hF⟩ := bs_ hF
   refine oc hf TF.cl133 (spec_l1Cur_pick_ok (S := NB b0) (H.boxAt 0 rfl) ((L1CurP_mk (x := y3.2) (H.nb 0 rfl (H.get 0 rfl)))) (fun h => h rfl) mk_int hy4) fun v4 w a hp6 hf => ?_
   obtain ⟨hch4, cs6, hbx4, hr6, ⟨hx12, hx13⟩, hs4⟩ := hp6
   obtain rfl := VR_int hs4
   obtain ⟨A15, c13, rfl, hl5⟩ := L1CurP_cells hr6
   obtain ⟨rfl, rfl⟩ := fx_slice hx12 rfl rfl
   have hx14 := hx13.trans hx11
   have H := H.wroteBox 0 rfl hch4 hbx4
   have H := H.pX 0 rfl hx13
   refine pz 1 hf fun a hf => ?_
   obtain ⟨e, he, hF⟩ := bs_ hF
   refine wl0 rfl (op_iaddrR hf H Tryz.underlying47 TF.sz3 0 rfl rfl rfl he (by decide) fun p o3 cs7 a hf hA hr7 hk => ?_)
   obtain rfl := hr7
   refine wl0 rfl (op_storeR (e' := w64 (y4.1 - 1)) (o := o3) (off := 0) hf H TF.sz3 0 rfl rfl rfl rfl rfl (nle rfl) rfl hA he (st_full rfl) fun w H => ?_)
   replace hf : Fr a 47 [(0, (.pointer (some ⟨b0, 0, none⟩))), (1, (.int .i64 n')), (5, (.slice A12 l7.length c10)), (36, (.slice A12 l7.length c10)), (37, (.pointer (some ⟨b0, 0, none⟩))), (38, (.int .i64 n')), (39, (.int .i64 y3.1)), (40, (.pointer (some ⟨b0, 0, none⟩))), (41, (.int .i64 n')), (42, (.int .i64 (w64 (n' + 1)))), (43, (.int .i64 y4.1)), (44, (.int .i64 (w64 (y4.1 - 1)))), (45, (.pointer (some ⟨p, o3 + 0, none⟩)))] := hf.prune [0, 1, 5, 36, 37, 38, 39, 40, 41, 42, 43, 44, 45] rfl
   replace hf : Fr a 47 [(0, (.pointer (some ⟨b0, 0, none⟩))), (1, (.int .i64 n')), (5, (.slice A12 (l7.set (y3.1 : Int).toNat (w64 (y4.1 - 1))).length c10)), (36, (.slice A12 (l7.set (y3.1 : Int).toNat (w64 (y4.1 - 1))).length c10)), (37, (.pointer (some ⟨b0, 0, none⟩))), (38, (.int .i64 n')), (39, (.int .i64 y3.1)), (40, (.pointer (some ⟨b0, 0, none⟩))), (41, (.int .i64 n')), (42, (.int .i64 (w64 (n' + 1)))), (43, (.int .i64 y4.1)), (44, (.int .i64 (w64 (y4.1 - 1)))), (45, (.pointer (some ⟨p, o3 + 0, none⟩)))] := by simpa only [List.length_set, Nat.add_zero] using hf
   refine wr (pz 2 hf fun a hf => ?_)
   have hf := hf.pn [4]
   refine wer ?_
   have H := H.rowOwn 0 rfl rfl
   obtain ⟨F, H⟩ := H.freezeOwn 0 rfl
   have H := H.lend 0 rfl
   obtain rfl := oi hF
   refine rT hf ?_
   have hN := H.endsB1 0 rfl
   exact ⟨_, rfl, H.chg, _, H.boxAt 0 rfl, (L1CurP_mk (x := y4.2) (eB 0 (H.get 1 rfl))), ⟨fxc hx14, hx14⟩, F, (mko_list (H.ownAt 0 rfl)), by first | exact hN | simpa using hN⟩
  ·refine wp_skip (then_n (sqz (pz 2 hf fun a hf => ?_)))
   refine wer ?_
   have H := H.rowOwn 0 rfl rfl
   obtain ⟨F2, H⟩ := H.freezeOwn 0 rfl
   have H := H.lend 0 rfl
   obtain rfl := oi hF
   refine rT hf ?_
   have hN := H.endsB1 0 rfl
   exact ⟨_, rfl, H.chg, _, H.boxAt 0 rfl, (L1CurP_mk (x := y2.2) (eB 0 (H.get 1 rfl))), ⟨fxc hx8, hx8⟩, F2, (mko_list (H.ownAt 0 rfl)), by first | exact hN | simpa using hN⟩
 ·have hf := hf.lit 32 rfl hc2
  refine pz 3 hf fun a hf => ?_
  refine wl_end (then_n (cd_f hf rfl rfl (wp_skip (then_n (sqz (pz 2 hf fun a hf => ?_))))))
  refine wer ?_
  have H := H.rowOwn 0 rfl rfl
  obtain ⟨F3, H⟩ := H.freezeOwn 0 rfl
  have H := H.lend 0 rfl
  obtain rfl := oi hF
  refine rT hf ?_
  have hN := H.endsB1 0 rfl
  exact ⟨_, rfl, H.chg, _, H.boxAt 0 rfl, (L1CurP_mk (x := ({ code := m4, at_ := m5, seed := m6 } : L1CurP)) (eB 0 (H.get 1 rfl))), ⟨fxc hsm, hsm⟩, F3, (mko_list (H.ownAt 0 rfl)), by first | exact hN | simpa using hN⟩
theorem spec_DrawAssignGreedy_ok {S : Nat → Prop} {v0_ : Value} {code : List By} {r : Network × List Request × List Int} (h0 : VR w0 S v0_ code) (hF : spec_DrawAssignGreedy fu code = some r) :
    Calls Tryz.prog 19 [v0_].toArray w0 fun e w' => ∃ v, e = .returned v ∧ (∃ (A0_0 : Option Addr) (c0_0 : Nat) (A0_1 : Option Addr) (c0_1 : Nat) (A1_0 : Option Addr) (c1_0 : Nat) (A2_0 : Option Addr) (c2_0 : Nat) (F2_0 : List Nat), v = .tuple #[(.agg #[(.slice A0_0 r.1.Nodes.length c0_0), (.slice A0_1 r.1.Fibers.length c0_1)]), (.slice A1_0 r.2.1.length c1_0), (.slice A2_0 r.2.2.length c2_0)] ∧ Mem ⟨w0, []⟩ S [] [] [⟨F2_0, MP.own F2_0 [(.slice A2_0 r.2.2.length c2_0)] (r.2.2 : List Int)⟩] [(true, MP.val [(.slice A0_0 r.1.Nodes.length c0_0)] (r.1.Nodes : List ByteArray)), (true, MP.val [(.slice A0_1 r.1.Fibers.length c0_1)] (r.1.Fibers : List Fiber)), (true, MP.val [(.slice A1_0 r.2.1.length c1_0)] (r.2.1 : List Request))] w') := by
 obtain ⟨A, c, rfl, hl⟩ := VR_list h0
 have H := Mem.start ⟨w0, []⟩ S
 have H := H.pA hl
 refine en Tryz.func19 fun a hf => ?_
 rw [spec_DrawAssignGreedy] at hF
 refine sq (reg (aL hf H TF.zv34 fun b' a w hf H => ?_))
 refine pz 2 hf fun a hf => ?_
 refine wr (pz 1 hf fun a hf => ?_)
 refine oq hf (rq_build hf (cs := [(.slice A code.length c), (.int .i64 0), (.int .u64 0)]) rfl (fun w => by kernel_rfl)) fun a hf => ?_
 refine wl0 rfl (op_box hf H rfl rfl (by decide) fun b2 a w hf H => ?_)
 refine pz 1 hf fun a hf => ?_
 refine wr (pz 1 hf fun a hf => ?_)
 obtain ⟨y, hy, hF⟩ := bs_ hF
 refine oc hf TF.cl63 (spec_l1Cur_requests_ok (S := St ⟨w0, []⟩ S [⟨b2, 101, [(.slice A code.length c), (.int .i64 0), (.int .u64 0)]⟩, ⟨b', 34, [(.slice none 0 0), (.slice none 0 0)]⟩] [] [] false) (H.boxAt 0 rfl) ((L1CurP_mk (x := ({ code := code, at_ := 0, seed := (⟨0⟩ : U64) } : L1CurP)) (H.get 0 rfl))) (H.notSt 0 rfl _) hy) fun v w a hp hf => ?_
 obtain ⟨hch, cs, hbx, hr, ⟨hx, hx2⟩, hs⟩ := hp
 obtain ⟨v2, v3, rfl, hp2, hp3⟩ := hs
 obtain ⟨A2, c2, A3, c3, rfl, hl2, hl3⟩ := Network_open hp2
 replace hl2 := GoTy.mono (α := List ByteArray) hl2 (H.movesB (w' := w) 0 rfl true)
 replace hl3 := GoTy.mono (α := List Fiber) hl3 (H.movesB (w' := w) 0 rfl true)
 obtain ⟨A4, c4, rfl, hl4⟩ := VR_list hp3
 replace hl4 := GoTy.mono (α := List Request) hl4 (H.movesB (w' := w) 0 rfl true)
 obtain ⟨A5, c5, rfl, hl5⟩ := L1CurP_cells hr
 obtain ⟨rfl, rfl⟩ := fx_slice hx rfl rfl
 have H := H.wroteBox 0 rfl hch hbx
 have H := H.pX 0 rfl hx2
 have H := H.pT hl2
 have H := H.pT hl3
 have H := H.pT hl4
 refine pz 3 hf fun a hf => ?_
 refine aL hf H TF.zv34 fun b3 a w hf H => ?_
 refine sB 0 hf H TF.sz34 fun w H => ?_
 refine pz 1 hf fun a hf => ?_
 refine wl_end (then_n (sq (dw [6] 9 fun w hb => ?_)))
 have H := H.keep hb
 refine strT (H.lt_ [true, false, false] [] [] []) (fun w H => trivial) fun hS => ?_
 refine zS 0 [0, 6, 7, 8] rfl rfl rfl rfl hf hS (fun w H => rq_loadBN hf H TF.la34 0 rfl rfl rfl rfl) fun a hf => ?_
 refine zp 1 hf hS fun a hf => ?_
 refine zp 2 hf hS fun a hf => ?_
 refine zp 3 hf hS fun a hf => ?_
 refine zp 4 hf hS fun a hf => ?_
 obtain ⟨y2, hy2, hF⟩ := bs_ hF
 refine nn 5 rfl (oC hf TF.cl64 (spec_l1Cur_order_ok (S := NB b2) (H.boxAt 1 rfl) ((L1CurP_mk (x := y.2.2) (H.nb 1 rfl (H.get 3 rfl)))) (fun h => h rfl) mk_int hy2) fun v4 w a hp4 hf => ?_)
 obtain ⟨hch2, cs2, hbx2, hr2, ⟨hx3, hx4⟩, hs2⟩ := hp4
 obtain ⟨F, hp5, hN⟩ := hs2
 obtain ⟨A6, c6, rfl, hl6⟩ := VO_list hp5
 obtain ⟨A7, c7, rfl, hl7⟩ := L1CurP_cells hr2
 obtain ⟨rfl, rfl⟩ := fx_slice hx3 rfl rfl
 have hx5 := hx4.trans hx2
 have H := H.bO1 1 rfl hch2 hbx2 hN hl6
 have H := H.pX 3 rfl hx4
 have H := H.lend 0 rfl
 have hS := H.lt_ [true, false, false] [] [false] []
 refine aS hS ?_
 refine nn 6 rfl (op_storeB hf H 2 TF.sz34 rfl rfl rfl rfl rfl rfl (nle rfl) fun w H => ?_)
 refine ⟨fun h => absurd h (by decide), ?_⟩
 refine tp 7 rfl rfl hf (by kernel_rfl) (fun h => absurd h (by decide)) rfl fun a hf => ?_
 refine tp 8 rfl rfl hf (by kernel_rfl) (fun h => absurd h (by decide)) rfl fun a hf => ?_
 refine dk ?_
 have hf := hf.pn [2, 3, 4]
 refine then_n (wp_ret (?_))
 obtain rfl := oi hF
 refine ret_3 hf rfl (rv_cellN hf H 2 TF.la34 rfl rfl rfl) (rv_tmp hf rfl) (rv_tmp hf rfl) ?_
 have H := H.lt_ [false, false, false] [] [true] [4, 3, 2]
 exact ⟨_, rfl, A2, c2, A3, c3, A4, c4, A6, c6, F, rfl, H⟩
theorem spec_l12Good_ok {S : Nat → Prop} {v0_ : Value} {v1_ : Value} {n' : Network} {list : List Request} {r : Bool} (h0 : VR w0 S v0_ n') (h1 : VR w0 S v1_ list) (hF : spec_l12Good fu n' list = some r) :
    Calls Tryz.prog 68 [v0_, v1_].toArray w0 fun e w' => ∃ v, e = .returned v ∧ (Below w0.heap.size w0 w' ∧ VR w' (St ⟨w0, []⟩ S [] [] [] true) v r) := by
 obtain ⟨A, c, A2, c2, rfl, hl, hl2⟩ := Network_open h0
 obtain ⟨A3, c3, rfl, hl3⟩ := VR_list h1
 have H := Mem.start ⟨w0, []⟩ S
 have H := H.pA hl
 have H := H.pA hl2
 have H := H.pA hl3
 refine en Tryz.func68 fun a hf => ?_
 rw [spec_l12Good] at hF
 refine bx hf H fun b' a w hf H => ?_
 refine pz 1 hf fun a hf => ?_
 refine wl_end (then_n (sq (sq ?_)))
 obtain ⟨c4, hGc4, hF⟩ := bs_ hF
 have fh := hf.prune [1, 2] rfl
 have Hm := H.lt_ [true] [] [] [0, 1, 2]
 refine midF 13 (.bool c4) fh Hm ?_ fun a w hf H => ?_
 ·refine reg (lN 0 hf H TF.la34 fun a hf => ?_)
  obtain ⟨y, hy, hGc4⟩ := bs_ hGc4
  refine oc hf TF.cl113 (spec_l2Good_ok (S := TT) (Network_mkv (x := n') (H.rt 2 rfl) (H.rt 1 rfl)) hy) fun v w a hp hf => ?_
  obtain ⟨hb, hp⟩ := hp
  obtain rfl := VR_bool hp
  have H := H.keep hb
  refine pz 2 hf fun a hf => ?_
  refine iteB hGc4 (fun hc hGc4 => ?_) fun hc hGc4 => ?_
  ·have hf := hf.lit 9 rfl hc
   refine pz 4 hf fun a hf => ?_
   obtain rfl := oi hGc4
   have hf := hf.pn [13, 1, 2]
   have H := H.lt_ [true] [] [] [0, 1, 2]
   exact wl_end ⟨hf, H⟩
  ·have hf := hf.lit 9 rfl hc
   refine pz 4 hf fun a hf => ?_
   obtain rfl := oi hGc4
   have hf := hf.pn [13, 1, 2]
   have H := H.lt_ [true] [] [] [0, 1, 2]
   exact wl_end ⟨hf, H⟩
 refine then_n (ib hF hf (fun hc2 hF => ?_) fun hc2 hF => ?_)
 ·refine sqz (pz 1 hf fun a hf => ?_)
  refine wl_end (then_n (wp_ret (then_r (?_))))
  obtain rfl := oi hF
  refine rT hf ?_
  exact ⟨_, rfl, H.bel, mk_bool⟩
 ·refine wp_skip (then_n (sq (sqz (pz 1 hf fun a hf => ?_))))
  refine wl_end (then_n ?_)
  obtain ⟨out', hB1, hF⟩ := bs_ hF
  have hf := hf.pn [1, 2, 5]
  have H := H.lt_ [true] [] [] [0, 1, 2]
  refine loopC (fun (s : Int) (a : Act) (w : World) => match s with | i => Fr a 37 [(1, (.slice A3 list.length c3)), (2, (.pointer (some ⟨b', 0, none⟩))), (5, (.int .i64 i))] ∧ Mem ⟨w0, []⟩ S [⟨b', 34, [(.slice A n'.Nodes.length c), (.slice A2 n'.Fibers.length c2)]⟩] [] [] [(false, MP.val [(.slice A3 list.length c3)] (list : List Request)), (false, MP.val [(.slice A2 n'.Fibers.length c2)] (n'.Fibers : List Fiber)), (false, MP.val [(.slice A n'.Nodes.length c)] (n'.Nodes : List ByteArray))] w) (fun k (s : Int) => spec_l12Good_L1 fu n' list k s = some out') (fun s => out' = Out.next s) 0 fu hB1 ⟨hf, H⟩ (fun s h => by cases h) ?_ ?_
  ·rintro fk i a w hR1 hI
   replace hR1 : spec_l12Good_L1 fu n' list (fk + 1) i = some out' := hR1
   rw [spec_l12Good_L1] at hR1
   obtain ⟨hf, H⟩ := hI
   refine sq (sqz (pz 4 hf fun a hf => ?_))
   refine wl_end (then_n (ib hR1 hf (fun hc3 hR1 => ?_) fun hc3 hR1 => ?_))
   ·refine wp_skip (then_n (sq (wp_block (sq ?_))))
    obtain ⟨c5, hGc5, hR1⟩ := bs_ hR1
    have fh2 := hf.prune [1, 2, 5] rfl
    have Hm2 := H.lt_ [true] [] [] [0, 1, 2]
    refine midF 36 (.bool c5) fh2 Hm2 ?_ fun a w hf H => ?_
    ·refine dw [] 17 fun w hb => ?_
     have H := H.keep hb
     refine strT (H.lt_ [true] [] [] []) (fun w H => trivial) fun hS => ?_
     refine zS 0 [] rfl rfl rfl rfl hf hS (fun w H => rq_loadBN hf H TF.la34 0 rfl rfl rfl rfl) fun a hf => ?_
     refine zp 1 hf hS fun a hf => ?_
     refine zp 2 hf hS fun a hf => ?_
     obtain ⟨e, he, hGc5⟩ := bs_ hGc5
     obtain ⟨p, o, cs, hx, hr, H⟩ := pre_iaddr H Tryz.underlying46 TF.sz61 0 rfl he
     refine zP 3 rfl rfl rfl rfl hf hS (fun w => rq_iaddrE hf rfl rfl rfl hx w) fun a hf => ?_
     obtain ⟨A4, c6, rfl, hl4⟩ := Request_cells hr
     have H := H.pF hl4
     refine zp 4 hf hS fun a hf => ?_
     refine strT (H.lt_ [true] [] [] [1]) (fun w H => H.lt_ [true] [] [] []) fun hS => ?_
     refine zS 5 [] rfl rfl rfl rfl hf hS (fun w H => rq_loadIN hf H TF.la59 0 0 rfl rfl rfl rfl) fun a hf => ?_
     obtain ⟨y2, hy2, hGc5⟩ := bs_ hGc5
     refine nn 6 rfl (oC hf TF.cl142 (spec_l4Good_ok (S := TT) (Network_mkv (x := n') (H.rt 4 rfl) (H.rt 3 rfl)) (Route_mkv (x := e.Route) (H.rt 0 rfl)) hy2) fun v2 w a hp2 hf => ?_)
     obtain ⟨hb2, hp2⟩ := hp2
     obtain rfl := VR_bool hp2
     have H := H.keep hb2
     have hS := H.lt_ [true] [] [] [1]
     refine aS hS ?_
     refine zp 7 hf hS fun a hf => ?_
     refine zp 8 hf hS fun a hf => ?_
     refine iteB hGc5 (fun hc4 hGc5 => ?_) fun hc4 hGc5 => ?_
     ·have hf := hf.lit 28 rfl hc4
      refine zU 9 hf hS fun a hf => ?_
      refine zU 10 hf hS fun a hf => ?_
      refine zU 11 hf hS fun a hf => ?_
      refine zU 12 hf hS fun a hf => ?_
      refine zU 13 hf hS fun a hf => ?_
      refine zU 14 hf hS fun a hf => ?_
      refine zU 15 hf hS fun a hf => ?_
      refine zp 16 hf hS fun a hf => ?_
      refine dk ?_
      obtain rfl := oi hGc5
      have hf := hf.pn [36, 1, 2, 5]
      have H := H.lt_ [true] [] [] [2, 3, 4]
      exact ⟨hf, H⟩
     ·have hf := hf.lit 28 rfl hc4
      refine zg 9 hf hS fun a hf => ?_
      refine zg 10 hf hS fun a hf => ?_
      obtain ⟨e2, he2, hGc5⟩ := bs_ hGc5
      obtain ⟨p2, o2, cs2, hx2, hr2, H⟩ := pre_iaddr H Tryz.underlying46 TF.sz61 2 rfl he2
      refine tPg 11 rfl rfl rfl rfl rfl rfl hf (by kernel_rfl) (fun _ => hS) (fun w => rq_iaddrE hf rfl rfl rfl hx2 w) fun a hf => ?_
      obtain ⟨A5, c7, rfl, hl5⟩ := Request_cells hr2
      have H := H.pF hl5
      refine zg 12 hf hS fun a hf => ?_
      refine strT (H.lt_ [true] [] [] [1, 3]) (fun w H => H.lt_ [true] [] [] [1]) fun hS => ?_
      refine tSg 13 [] rfl rfl rfl rfl rfl rfl hf (by kernel_rfl) (by kernel_rfl) hS (fun w H => rq_loadI hf H TF.ls3 0 2 rfl rfl rfl) fun a hf => ?_
      obtain ⟨y3, hy3, hGc5⟩ := bs_ hGc5
      refine n1g 14 (by kernel_rfl) rfl rfl rfl rfl hf (oC hf TF.cl86 (spec_l1In_ok (S := TT) mk_int mk_int mk_int hy3) fun v3 w a hp3 hf => ?_)
      obtain ⟨hb3, hp3⟩ := hp3
      obtain rfl := VR_bool hp3
      have H := H.keep hb3
      have hS := H.lt_ [true] [] [] [1, 3]
      refine aS hS ?_
      refine zg 15 hf hS fun a hf => ?_
      refine zp 16 hf hS fun a hf => ?_
      refine dk ?_
      obtain rfl := oi hGc5
      have hf := hf.pn [36, 1, 2, 5]
      have H := H.lt_ [true] [] [] [4, 5, 6]
      exact ⟨hf, H⟩
    refine then_n (ib hR1 hf (fun hc5 hR1 => ?_) fun hc5 hR1 => ?_)
    ·refine sqz (pz 1 hf fun a hf => ?_)
     refine wl_end (then_n (wp_ret (blk_r (then_r (then_r (blk_r (then_r (then_r (?_)))))))))
     obtain rfl := oi hR1
     replace hF := on_ret hF
     obtain rfl := oi hF
     refine rT hf ?_
     exact ⟨_, rfl, H.bel, mk_bool⟩
    ·refine wp_skip (blk_n (then_n (reg (pz 3 hf fun a hf => ?_))))
     refine wl_end ?_
     have hf := hf.pn [1, 2, 5]
     have H := H.lt_ [true] [] [] [0, 1, 2]
     exact then_n ⟨w64 (i + 1), hR1, hf, H⟩
   ·refine wp_exit (then_x (then_x (blk_e (?_))))
    have hf := hf.pn [1, 2, 5]
    have H := H.lt_ [true] [] [] [0, 1, 2]
    exact ⟨i, (Option.some.inj hR1).symm, hf, H⟩
  rintro a w ⟨i2, rfl, hf, H⟩
  replace hF := on_next hF
  refine then_n (sqz (pz 1 hf fun a hf => ?_))
  refine wer ?_
  obtain rfl := oi hF
  refine rT hf ?_
  exact ⟨_, rfl, H.bel, mk_bool⟩
theorem spec_AssignExact_ok {S : Nat → Prop} {v0_ : Value} {v1_ : Value} {n' : Network} {list : List Request} {r : List Block × Int × Bool} (h0 : VR w0 S v0_ n') (h1 : VR w0 S v1_ list) (hF : spec_AssignExact fu n' list = some r) :
    Calls Tryz.prog 21 [v0_, v1_].toArray w0 fun e w' => ∃ v, e = .returned v ∧ (Below w0.heap.size w0 w' ∧ ∃ F0, ∃ u0 u1 u2, v = .tuple #[u0, u1, u2] ∧ VO w' F0 u0 r.1 ∧ VR w' (St ⟨w0, []⟩ S [] [] [] true) u1 r.2.1 ∧ VR w' (St ⟨w0, []⟩ S [] [] [] true) u2 r.2.2 ∧ New w0 w' F0) := by
 obtain ⟨A, c, A2, c2, rfl, hl, hl2⟩ := Network_open h0
 obtain ⟨A3, c3, rfl, hl3⟩ := VR_list h1
 have H := Mem.start ⟨w0, []⟩ S
 have H := H.pA hl
 have H := H.pA hl2
 have H := H.pA hl3
 refine en Tryz.func21 fun a hf => ?_
 rw [spec_AssignExact] at hF
 refine bx hf H fun b' a w hf H => ?_
 refine pz 3 hf fun a hf => ?_
 refine wl_end (then_n (sq (sq (reg (lN 0 hf H TF.la34 fun a hf => ?_)))))
 refine pz 1 hf fun a hf => ?_
 obtain ⟨y, hy, hF⟩ := bs_ hF
 refine oc hf TF.cl68 (spec_l12Good_ok (S := TT) (Network_mkv (x := n') (H.rt 2 rfl) (H.rt 1 rfl)) (mk_list (H.rt 0 rfl)) hy) fun v w a hp hf => ?_
 obtain ⟨hb, hp⟩ := hp
 obtain rfl := VR_bool hp
 have H := H.keep hb
 refine pz 1 hf fun a hf => ?_
 refine wl_end (then_n (ib hF hf (fun hc hF => ?_) fun hc hF => ?_))
 ·refine sq (reg (wl0 rfl (bl hf H 71 ([] : List Block) [] el0 fun A4 a w hf H => ?_)))
  refine pz 3 hf fun a hf => ?_
  refine wl_end (then_n (wp_ret (then_r (?_))))
  have H := H.rowOwn 0 rfl rfl
  obtain ⟨F, H⟩ := H.freezeOwn 0 rfl
  have H := H.lend 0 rfl
  obtain rfl := oi hF
  refine ret_3 hf rfl (rv_tmp hf rfl) (rv_tmp hf rfl) (rv_tmp hf rfl) ?_
  have hN := H.ends1
  exact ⟨_, rfl, H.bel, F, _, _, _, rfl, (mko_list (H.ownAt 0 rfl)), mk_int, mk_bool, by first | exact hN | simpa using hN⟩
 ·refine wp_skip (then_n (sqz (pz 1 hf fun a hf => ?_)))
  obtain ⟨y2, hy2, hF⟩ := bs_ hF
  refine oc hf TF.cl50 (spec_l12Exact_ok (S := TT) (mk_list (H.rt 0 rfl)) hy2) fun v2 w a hp2 hf => ?_
  obtain ⟨hb2, F2, v3, v4, v5, rfl, hp3, hp4, hp5, hN⟩ := hp2
  obtain ⟨A5, c4, rfl, hl4⟩ := VO_list hp3
  obtain rfl := VR_int hp4
  obtain rfl := VR_bool hp5
  have H := H.aO1 hb2 hN hl4
  have H := H.lend 0 rfl
  refine pz 6 hf fun a hf => ?_
  refine wer ?_
  obtain rfl := oi hF
  refine ret_3 hf rfl (rv_tmp hf rfl) (rv_tmp hf rfl) (rv_tmp hf rfl) ?_
  have hN := H.ends1
  exact ⟨_, rfl, H.bel, F2, _, _, _, rfl, (mko_list (H.ownAt 0 rfl)), mk_int, mk_bool, by first | exact hN | simpa using hN⟩
theorem impl_CliqueBound_ok {S : Nat → Prop} {v0_ : Value} {v1_ : Value} {n' : Network} {list : List Request} {r : Int × List Int × Bool} (h0 : VR w0 S v0_ n') (h1 : VR w0 S v1_ list) (hF : impl_CliqueBound fu n' list = some r) :
    Calls Tryz.prog 22 [v0_, v1_].toArray w0 fun e w' => ∃ v, e = .returned v ∧ (Below w0.heap.size w0 w' ∧ ∃ F1, ∃ u0 u1 u2, v = .tuple #[u0, u1, u2] ∧ VR w' (St ⟨w0, []⟩ S [] [] [] true) u0 r.1 ∧ VO w' F1 u1 r.2.1 ∧ VR w' (St ⟨w0, []⟩ S [] [] [] true) u2 r.2.2 ∧ New w0 w' F1) := by
 obtain ⟨A, c, A2, c2, rfl, hl, hl2⟩ := Network_open h0
 obtain ⟨A3, c3, rfl, hl3⟩ := VR_list h1
 have H := Mem.start ⟨w0, []⟩ S
 have H := H.pA hl
 have H := H.pA hl2
 have H := H.pA hl3
 refine en Tryz.func22 fun a hf => ?_
 rw [impl_CliqueBound] at hF
 refine bx hf H fun b' a w hf H => ?_
 refine pz 3 hf fun a hf => ?_
 refine wl_end (then_n (sq (sq (reg (lN 0 hf H TF.la34 fun a hf => ?_)))))
 refine pz 1 hf fun a hf => ?_
 obtain ⟨y, hy, hF⟩ := bs_ hF
 refine oc hf TF.cl65 (impl_IsValidRequests_ok (S := TT) (Network_mkv (x := n') (H.rt 2 rfl) (H.rt 1 rfl)) (mk_list (H.rt 0 rfl)) hy) fun v w a hp hf => ?_
 obtain ⟨hb, hp⟩ := hp
 obtain rfl := VR_bool hp
 have H := H.keep hb
 refine pz 1 hf fun a hf => ?_
 refine wl_end (then_n (ib hF hf (fun hc hF => ?_) fun hc hF => ?_))
 ·refine sqz (pz 3 hf fun a hf => ?_)
  refine wl_end (then_n (wp_ret (then_r (?_))))
  have H := H.ownNil (Int)
  have H := H.lend 0 rfl
  obtain rfl := oi hF
  refine ret_3 hf rfl (rv_tmp hf rfl) (rv_tmp hf rfl) (rv_tmp hf rfl) ?_
  have hN := H.ends1
  exact ⟨_, rfl, H.bel, [], _, _, _, rfl, mk_int, (mko_list (H.ownAt 0 rfl)), mk_bool, by first | exact hN | simpa using hN⟩
 ·refine wp_skip (then_n (sqz (pz 1 hf fun a hf => ?_)))
  obtain ⟨y2, hy2, hF⟩ := bs_ hF
  refine oc hf TF.cl66 (impl_cliqueBound_ok (S := TT) (mk_list (H.rt 0 rfl)) hy2) fun v2 w a hp2 hf => ?_
  obtain ⟨hb2, v3, v4, rfl, hp3, hp4⟩ := hp2
  obtain rfl := VR_int hp3
  obtain rfl := VR_int hp4
  have H := H.keep hb2
  refine pz 5 hf fun a hf => ?_
  have hf := hf.pn [1, 7, 8]
  refine wr (wl0 rfl (bl hf H 3 ([] : List Int) [] el0 fun A4 a w hf H => ?_))
  refine pz 1 hf fun a hf => ?_
  refine we (sqz (pz 3 hf fun a hf => ?_))
  refine wl_end (then_n ?_)
  obtain ⟨out2, hB1, hF⟩ := bs_ hF
  have hf := hf.pn [7, 8, 9, 22, 23]
  have H := H.lt_ [false] [true] [] []
  refine loopC (fun (s : List Int × Int) (a : Act) (w : World) => match s with | (out', i) => ∃ (A5 : Option Addr) (c4 : Nat) (E : Go.TypeId), Fr a 38 [(7, (.int .i64 y2.1)), (8, (.int .i64 y2.2)), (9, (.slice A5 out'.length c4)), (22, (.int .i64 (list.length : Int))), (23, (.int .i64 i))] ∧ Mem ⟨w0, []⟩ S [] [⟨.sh true, E, A5, c4, (out' : List Int)⟩] [] [] w) (fun k (s : List Int × Int) => impl_CliqueBound_L1 fu list y2 k s.1 s.2 = some out2) (fun s => out2 = s) (([] : List Int), 0) fu hB1 ⟨A4, 0, 3, hf, H⟩ (fun s h => by cases h) ?_ ?_
  ·rintro fk ⟨out', i⟩ a w hR1 hI
   replace hR1 : impl_CliqueBound_L1 fu list y2 (fk + 1) out' i = some out2 := hR1
   rw [impl_CliqueBound_L1] at hR1
   obtain ⟨A5, c4, E, hf, H⟩ := hI
   refine sqz (pz 1 hf fun a hf => ?_)
   refine wl_end (then_n (sq (ib hR1 hf (fun hc2 hR1 => ?_) fun hc2 hR1 => ?_)))
   ·refine ws (pz 2 hf fun a hf => ?_)
    refine wr (pz 2 hf fun a hf => ?_)
    obtain ⟨q, hq, hR1⟩ := bs_ hR1
    refine oq hf (rq_shr hf rfl rfl hq) fun a hf => ?_
    refine pz 2 hf fun a hf => ?_
    refine wl_end (then_n (ib hR1 hf (fun hc3 hR1 => ?_) fun hc3 hR1 => ?_))
    ·refine reg (pz 2 hf fun a hf => ?_)
     refine wl0 rfl (bl hf H 3 ([i] : List Int) [(.int .i64 i)] (el1 (y := i) (rfl)) fun A6 a w hf H => ?_)
     obtain ⟨l, hl_, hR1⟩ := bs_ hR1
     refine wl0 rfl (op_appR hf H Tryz.underlying47 TF.ai3 rfl (by decide) 1 0 rfl rfl rfl rfl (.inr rfl) hl_ (by decide) fun E2 A7 c5 a w hf H => ?_)
     refine pz 1 hf fun a hf => ?_
     refine wl_end (blk_n (then_n (reg (pz 2 hf fun a hf => ?_))))
     have hf := hf.pn [7, 8, 9, 22, 23]
     refine wl_end ?_
     have hf := hf.pn [7, 8, 9, 22, 23]
     have H := H.lt_ [] [false, true] [] []
     exact then_n ⟨(l, w64 (i + 1)), hR1, A7, c5, E2, hf, H⟩
    ·refine wp_skip (blk_n (then_n (reg (pz 2 hf fun a hf => ?_))))
     refine wl_end ?_
     have hf := hf.pn [7, 8, 9, 22, 23]
     have H := H.lt_ [] [true] [] []
     exact then_n ⟨(out', w64 (i + 1)), hR1, A5, c4, E, hf, H⟩
   ·refine wp_exit (then_x (then_x (blk_e (?_))))
    have hf := hf.pn [7, 8, 9, 22, 23]
    have H := H.lt_ [] [true] [] []
    exact ⟨(out', i), (Option.some.inj hR1).symm, A5, c4, E, hf, H⟩
  rintro a w ⟨⟨out3, i2⟩, rfl, A8, c6, E3, hf, H⟩
  try dsimp only at hF
  refine then_n (sqz (pz 5 hf fun a hf => ?_))
  refine wer ?_
  have H := H.rowOwn 0 rfl rfl
  obtain ⟨F, H⟩ := H.freezeOwn 0 rfl
  have H := H.lend 0 rfl
  obtain rfl := oi hF
  refine ret_3 hf rfl (rv_tmp hf rfl) (rv_tmp hf rfl) (rv_tmp hf rfl) ?_
  have hN := H.ends1
  exact ⟨_, rfl, H.bel, F, _, _, _, rfl, mk_int, (mko_list (H.ownAt 0 rfl)), mk_bool, by first | exact hN | simpa using hN⟩
theorem slices_Max_int_int_ok {S : Nat → Prop} {v0_ : Value} {x1 : List Int} {r : Int} (h0 : VR w0 S v0_ x1) (hF : slices_Max_int_int fu x1 = some r) :
    Calls Tryz.prog 69 [v0_].toArray w0 fun e w' => ∃ v, e = .returned v ∧ (Below w0.heap.size w0 w' ∧ VR w' (St ⟨w0, []⟩ S [] [] [] true) v r) := by
 obtain ⟨A, c, rfl, hl⟩ := VR_list h0
 have H := Mem.start ⟨w0, []⟩ S
 have H := H.pA hl
 refine en Tryz.func69 fun a hf => ?_
 rw [slices_Max_int_int] at hF
 refine sqz (pz 1 hf fun a hf => ?_)
 refine we (sqz (pz 3 hf fun a hf => ?_))
 refine wl_end (then_n (ib hF hf (fun hc hF => ?_) fun hc hF => ?_))
 ·refine reg ?_
  cases hF
 ·refine wp_skip (then_n (sqz (pz 1 hf fun a hf => ?_)))
  obtain ⟨e, he, hF⟩ := bs_ hF
  refine wl0 rfl (op_iaddr hf H Tryz.underlying47 TF.sz3 0 rfl rfl rfl he (by decide) fun p o cs a hf hr H => ?_)
  obtain rfl := hr
  refine oq hf (rq_loadI hf H TF.ls3 0 0 rfl rfl rfl) fun a hf => ?_
  refine pz 1 hf fun a hf => ?_
  refine we (sqz (pz 1 hf fun a hf => ?_))
  refine wl_end (then_n ?_)
  obtain ⟨out', hB1, hF⟩ := bs_ hF
  have hf := hf.pn [0, 3, 4]
  have H := H.lt_ [] [] [] [1]
  refine loopC (fun (s : Int × Int) (a : Act) (w : World) => match s with | (m, i) => Fr a 25 [(0, (.slice A x1.length c)), (3, (.int .i64 m)), (4, (.int .i64 i))] ∧ Mem ⟨w0, []⟩ S [] [] [] [(false, MP.val [(.slice A x1.length c)] (x1 : List Int))] w) (fun k (s : Int × Int) => slices_Max_int_int_L1 fu x1 k s.1 s.2 = some out') (fun s => out' = s) (e, 1) fu hB1 ⟨hf, H⟩ (fun s h => by cases h) ?_ ?_
  ·rintro fk ⟨m, i⟩ a w hR1 hI
   replace hR1 : slices_Max_int_int_L1 fu x1 (fk + 1) m i = some out' := hR1
   rw [slices_Max_int_int_L1] at hR1
   obtain ⟨hf, H⟩ := hI
   refine sq (sqz (pz 4 hf fun a hf => ?_))
   refine wl_end (then_n (ib hR1 hf (fun hc2 hR1 => ?_) fun hc2 hR1 => ?_))
   ·refine wp_skip (then_n (sq (wp_block (reg (pz 3 hf fun a hf => ?_)))))
    obtain ⟨e2, he2, hR1⟩ := bs_ hR1
    refine wl0 rfl (op_iaddr hf H Tryz.underlying47 TF.sz3 0 rfl rfl rfl he2 (by decide) fun p2 o2 cs2 a hf hr2 H => ?_)
    obtain rfl := hr2
    refine oq hf (rq_loadI hf H TF.ls3 0 0 rfl rfl rfl) fun a hf => ?_
    refine pz 2 hf fun a hf => ?_
    refine wl_end (blk_n (then_n (reg (pz 3 hf fun a hf => ?_))))
    refine wl_end ?_
    have hf := hf.pn [0, 3, 4]
    have H := H.lt_ [] [] [] [1]
    exact then_n ⟨(gmax m e2, w64 (i + 1)), hR1, hf, H⟩
   ·refine wp_exit (then_x (then_x (blk_e (?_))))
    have hf := hf.pn [0, 3, 4]
    have H := H.lt_ [] [] [] [0]
    exact ⟨(m, i), (Option.some.inj hR1).symm, hf, H⟩
  rintro a w ⟨⟨m2, i2⟩, rfl, hf, H⟩
  try dsimp only at hF
  refine then_n (sqz (pz 2 hf fun a hf => ?_))
  refine wer ?_
  obtain rfl := oi hF
  refine rT hf ?_
  exact ⟨_, rfl, H.bel, mk_int⟩
theorem impl_FiberBound_ok {S : Nat → Prop} {v0_ : Value} {v1_ : Value} {n' : Network} {list : List Request} {r : Int × Int × Bool} (h0 : VR w0 S v0_ n') (h1 : VR w0 S v1_ list) (hF : impl_FiberBound fu n' list = some r) :
    Calls Tryz.prog 23 [v0_, v1_].toArray w0 fun e w' => ∃ v, e = .returned v ∧ (Below w0.heap.size w0 w' ∧ ∃ u0 u1 u2, v = .tuple #[u0, u1, u2] ∧ VR w' (St ⟨w0, []⟩ S [] [] [] true) u0 r.1 ∧ VR w' (St ⟨w0, []⟩ S [] [] [] true) u1 r.2.1 ∧ VR w' (St ⟨w0, []⟩ S [] [] [] true) u2 r.2.2) := by
 obtain ⟨A, c, A2, c2, rfl, hl, hl2⟩ := Network_open h0
 obtain ⟨A3, c3, rfl, hl3⟩ := VR_list h1
 have H := Mem.start ⟨w0, []⟩ S
 have H := H.pA hl
 have H := H.pA hl2
 have H := H.pA hl3
 refine en Tryz.func23 fun a hf => ?_
 rw [impl_FiberBound] at hF
 refine bx hf H fun b' a w hf H => ?_
 refine pz 3 hf fun a hf => ?_
 refine wl_end (then_n (sq (sq (reg (lN 0 hf H TF.la34 fun a hf => ?_)))))
 refine pz 1 hf fun a hf => ?_
 obtain ⟨y, hy, hF⟩ := bs_ hF
 refine oc hf TF.cl65 (impl_IsValidRequests_ok (S := TT) (Network_mkv (x := n') (H.rt 2 rfl) (H.rt 1 rfl)) (mk_list (H.rt 0 rfl)) hy) fun v w a hp hf => ?_
 obtain ⟨hb, hp⟩ := hp
 obtain rfl := VR_bool hp
 have H := H.keep hb
 refine pz 1 hf fun a hf => ?_
 refine wl_end (then_n (ib hF hf (fun hc hF => ?_) fun hc hF => ?_))
 ·refine sqz (pz 3 hf fun a hf => ?_)
  refine wl_end (then_n (wp_ret (then_r (?_))))
  obtain rfl := oi hF
  refine ret_3 hf rfl (rv_tmp hf rfl) (rv_tmp hf rfl) (rv_tmp hf rfl) ?_
  exact ⟨_, rfl, H.bel, _, _, _, rfl, mk_int, mk_int, mk_bool⟩
 ·refine wp_skip (then_n (sqz (pz 1 hf fun a hf => ?_)))
  refine lB 0 hf H TF.ls32 fun a hf => ?_
  refine pz 1 hf fun a hf => ?_
  obtain ⟨l, hl_, hF⟩ := bs_ hF
  refine wl0 rfl (op_make (z0 := (0 : Int)) hf H Tryz.underlying47 TF.ai3 rfl (by decide) rfl rfl rfl hl_ (by decide) fun A4 c4 a w hf H => ?_)
  refine pz 1 hf fun a hf => ?_
  have hf := hf.pn [1, 7]
  refine we (sqz (pz 3 hf fun a hf => ?_))
  refine wl_end (then_n ?_)
  obtain ⟨out', hB1, hF⟩ := bs_ hF
  have hf := hf.pn [7, 21, 22, 23]
  have H := H.lt_ [false] [true] [] [0]
  refine loopC (fun (s : List Int × Int) (a : Act) (w : World) => match s with | (sums, i) => ∃ (A5 : Option Addr) (c5 : Nat) (E : Go.TypeId), Fr a 54 [(7, (.slice A5 sums.length c5)), (21, (.slice A3 list.length c3)), (22, (.int .i64 (list.length : Int))), (23, (.int .i64 i))] ∧ Mem ⟨w0, []⟩ S [] [⟨.sh true, E, A5, c5, (sums : List Int)⟩] [] [(false, MP.val [(.slice A3 list.length c3)] (list : List Request))] w) (fun k (s : List Int × Int) => impl_FiberBound_L1 fu list k s.1 s.2 = some out') (fun s => out' = s) (l, 0) fu hB1 ⟨A4, c4, 3, hf, H⟩ (fun s h => by cases h) ?_ ?_
  ·rintro fk ⟨sums, i⟩ a w hR1 hI
   replace hR1 : impl_FiberBound_L1 fu list (fk + 1) sums i = some out' := hR1
   rw [impl_FiberBound_L1] at hR1
   obtain ⟨A5, c5, E, hf, H⟩ := hI
   refine sqz (pz 1 hf fun a hf => ?_)
   refine wl_end (then_n (sq (ib hR1 hf (fun hc2 hR1 => ?_) fun hc2 hR1 => ?_)))
   ·refine wp_skip (then_n (sq (wp_block (sq (reg ?_)))))
    obtain ⟨e, he, hR1⟩ := bs_ hR1
    refine wl0 rfl (op_iaddr hf H Tryz.underlying46 TF.sz61 0 rfl rfl rfl he (by decide) fun p o cs a hf hr H => ?_)
    obtain ⟨A6, c6, rfl, hl4⟩ := Request_cells hr
    have H := H.pF hl4
    refine oq hf (rq_loadIN hf H TF.la61 1 0 rfl rfl rfl rfl) fun a hf => ?_
    refine aL hf H TF.zv61 fun b2 a w hf H => ?_
    refine sB 0 hf H TF.sz61 fun w H => ?_
    refine wr (pz 2 hf fun a hf => ?_)
    refine lB 0 hf H TF.ls47 fun a hf => ?_
    refine pz 2 hf fun a hf => ?_
    refine wl_end (then_n ?_)
    obtain ⟨out2, hB2, hR1⟩ := bs_ hR1
    have hf := hf.pn [7, 9, 21, 22, 23, 29, 30, 31]
    have H := H.lt_ [true] [true] [] [0, 2]
    refine loopC (fun (s : List Int × Int) (a : Act) (w : World) => match s with | (sums2, i2) => ∃ (A7 : Option Addr) (c7 : Nat) (E2 : Go.TypeId), Fr a 54 [(7, (.slice A7 sums2.length c7)), (9, (.pointer (some ⟨b2, 0, none⟩))), (21, (.slice A3 list.length c3)), (22, (.int .i64 (list.length : Int))), (23, (.int .i64 i)), (29, (.slice A6 e.Route.Fibers.length c6)), (30, (.int .i64 (e.Route.Fibers.length : Int))), (31, (.int .i64 i2))] ∧ Mem ⟨w0, []⟩ S [⟨b2, 61, [(.int .i64 e.Route.Start), (.slice A6 e.Route.Fibers.length c6), (.int .i64 e.Count)]⟩] [⟨.sh true, E2, A7, c7, (sums2 : List Int)⟩] [] [(false, MP.val [(.slice A6 e.Route.Fibers.length c6)] (e.Route.Fibers : List Int)), (false, MP.val [(.slice A3 list.length c3)] (list : List Request))] w) (fun k (s : List Int × Int) => impl_FiberBound_L2 fu e k s.1 s.2 = some out2) (fun s => out2 = s) (sums, 0) fu hB2 ⟨A5, c5, E, hf, H⟩ (fun s h => by cases h) ?_ ?_
    ·rintro fk ⟨sums2, i2⟩ a w hR2 hI
     replace hR2 : impl_FiberBound_L2 fu e (fk + 1) sums2 i2 = some out2 := hR2
     rw [impl_FiberBound_L2] at hR2
     obtain ⟨A7, c7, E2, hf, H⟩ := hI
     refine sqz (pz 1 hf fun a hf => ?_)
     refine wl_end (then_n (sq (ib hR2 hf (fun hc3 hR2 => ?_) fun hc3 hR2 => ?_)))
     ·refine wp_skip (then_n (sq (wp_block (sq (reg ?_)))))
      obtain ⟨e2, he2, hR2⟩ := bs_ hR2
      refine wl0 rfl (op_iaddr hf H Tryz.underlying47 TF.sz3 0 rfl rfl rfl he2 (by decide) fun p2 o2 cs2 a hf hr2 H => ?_)
      obtain rfl := hr2
      refine oq hf (rq_loadI hf H TF.ls3 0 0 rfl rfl rfl) fun a hf => ?_
      refine pz 1 hf fun a hf => ?_
      refine wl_end (then_n (dw [8] 9 fun w hb => ?_))
      have H := H.keep hb
      refine zp 0 hf trivial fun a hf => ?_
      refine zp 1 hf trivial fun a hf => ?_
      obtain ⟨e3, he3, hR2⟩ := bs_ hR2
      obtain ⟨p3, o3, hA, hx⟩ := pre_iaddrR H Tryz.underlying47 TF.sz3 0 rfl he3
      refine tP 2 rfl rfl rfl rfl hf (by kernel_rfl) (fun _ => trivial) (fun w => rq_iaddrE hf rfl rfl rfl hx w) fun a hf => ?_
      refine strT (H.lt_ [false] [true] [] []) (fun w H => trivial) fun hS => ?_
      refine zS 3 [3, 6, 7, 8] rfl rfl rfl rfl hf hS (fun w H => rq_loadRow (off := 0) hf H TF.ls3 0 rfl rfl hA he3 (fun w T cs h => by obtain rfl := h; rfl)) fun a hf => ?_
      refine zp 4 hf hS fun a hf => ?_
      refine strT (H.lt_ [true] [true] [] []) (fun w H => H.lt_ [false] [true] [] []) fun hS => ?_
      refine zS 5 [5, 6, 7, 8] rfl rfl rfl rfl hf hS (fun w H => rq_loadB hf H TF.ls3 0 rfl rfl rfl) fun a hf => ?_
      refine zp 6 hf hS fun a hf => ?_
      obtain ⟨e4, he4, hR2⟩ := bs_ hR2
      refine nn 7 rfl (op_iaddrR hf H Tryz.underlying47 TF.sz3 0 rfl rfl rfl he4 (by decide) fun p4 o4 cs3 a hf hA2 hr3 hk => ?_)
      obtain rfl := hr3
      have hS := H.lt_ [true] [true] [] []
      refine aS hS ?_
      refine nn 8 rfl (op_storeR (e' := w64 (e3 + e.Count)) (o := o4) (off := 0) hf H TF.sz3 0 rfl rfl rfl rfl rfl (nle rfl) rfl hA2 he4 (st_full rfl) fun w H => ?_)
      replace hf : Fr a 54 [(7, (.slice A7 sums2.length c7)), (9, (.pointer (some ⟨b2, 0, none⟩))), (11, (.int .i64 e2)), (21, (.slice A3 list.length c3)), (22, (.int .i64 (list.length : Int))), (23, (.int .i64 i)), (29, (.slice A6 e.Route.Fibers.length c6)), (30, (.int .i64 (e.Route.Fibers.length : Int))), (31, (.int .i64 i2)), (35, (.slice A7 sums2.length c7)), (36, (.int .i64 e2)), (37, (.pointer (some ⟨p3, o3 + 0, none⟩))), (38, (.int .i64 e3)), (39, (.pointer (some ⟨b2, 2, none⟩))), (40, (.int .i64 e.Count)), (41, (.int .i64 (w64 (e3 + e.Count)))), (42, (.pointer (some ⟨p4, o4 + 0, none⟩)))] := hf.prune [7, 9, 11, 21, 22, 23, 29, 30, 31, 35, 36, 37, 38, 39, 40, 41, 42] rfl
      replace hf : Fr a 54 [(7, (.slice A7 (sums2.set (e2 : Int).toNat (w64 (e3 + e.Count))).length c7)), (9, (.pointer (some ⟨b2, 0, none⟩))), (11, (.int .i64 e2)), (21, (.slice A3 list.length c3)), (22, (.int .i64 (list.length : Int))), (23, (.int .i64 i)), (29, (.slice A6 e.Route.Fibers.length c6)), (30, (.int .i64 (e.Route.Fibers.length : Int))), (31, (.int .i64 i2)), (35, (.slice A7 (sums2.set (e2 : Int).toNat (w64 (e3 + e.Count))).length c7)), (36, (.int .i64 e2)), (37, (.pointer (some ⟨p3, o3 + 0, none⟩))), (38, (.int .i64 e3)), (39, (.pointer (some ⟨b2, 2, none⟩))), (40, (.int .i64 e.Count)), (41, (.int .i64 (w64 (e3 + e.Count)))), (42, (.pointer (some ⟨p4, o4 + 0, none⟩)))] := by simpa only [List.length_set, Nat.add_zero] using hf
      refine ⟨fun h => absurd h (by decide), ?_⟩
      refine dk ?_
      refine blk_n (then_n (reg (pz 2 hf fun a hf => ?_)))
      refine wl_end ?_
      have hf := hf.pn [7, 9, 21, 22, 23, 29, 30, 31]
      have H := H.lt_ [true] [true] [] [1, 2]
      exact then_n ⟨(sums2.set (e2 : Int).toNat (w64 (e3 + e.Count)), w64 (i2 + 1)), hR2, A7, c7, E2, hf, H⟩
     ·refine wp_exit (then_x (then_x (blk_e (?_))))
      have hf := hf.pn [7, 9, 21, 22, 23, 29, 30, 31]
      have H := H.lt_ [true] [true] [] [0, 1]
      exact ⟨(sums2, i2), (Option.some.inj hR2).symm, A7, c7, E2, hf, H⟩
    rintro a w ⟨⟨sums3, i3⟩, rfl, A8, c8, E3, hf, H⟩
    try dsimp only at hR1
    refine blk_n (then_n (reg (pz 2 hf fun a hf => ?_)))
    refine wl_end ?_
    have hf := hf.pn [7, 21, 22, 23]
    have H := H.lt_ [false] [true] [] [1]
    exact then_n ⟨(sums3, w64 (i + 1)), hR1, A8, c8, E3, hf, H⟩
   ·refine wp_exit (then_x (then_x (blk_e (?_))))
    have hf := hf.pn [7, 21, 22, 23]
    have H := H.lt_ [] [true] [] [0]
    exact ⟨(sums, i), (Option.some.inj hR1).symm, A5, c5, E, hf, H⟩
  rintro a w ⟨⟨sums4, i4⟩, rfl, A9, c9, E4, hf, H⟩
  try dsimp only at hF
  refine then_n (sq (sqz (pz 3 hf fun a hf => ?_)))
  refine wl_end (then_n (ib hF hf (fun hc4 hF => ?_) fun hc4 hF => ?_))
  ·refine sqz (pz 3 hf fun a hf => ?_)
   refine wl_end (then_n (wp_ret (then_r (?_))))
   obtain rfl := oi hF
   refine ret_3 hf rfl (rv_tmp hf rfl) (rv_tmp hf rfl) (rv_tmp hf rfl) ?_
   exact ⟨_, rfl, H.bel, _, _, _, rfl, mk_int, mk_int, mk_bool⟩
  ·refine wp_skip (then_n (sqz (pz 1 hf fun a hf => ?_)))
   obtain ⟨y2, hy2, hF⟩ := bs_ hF
   refine oc hf TF.cl69 (slices_Max_int_int_ok (S := TT) (mk_list (H.rowTrue 0 rfl)) hy2) fun v2 w a hp2 hf => ?_
   obtain ⟨hb2, hp2⟩ := hp2
   obtain rfl := VR_int hp2
   have H := H.keep hb2
   refine pz 1 hf fun a hf => ?_
   refine wr (pz 3 hf fun a hf => ?_)
   obtain ⟨y3, hy3, hF⟩ := bs_ hF
   refine oc hf TF.cl70 (slices_Index_int_int_ok (S := TT) (mk_list (H.rowTrue 0 rfl)) mk_int hy3) fun v3 w a hp3 hf => ?_
   obtain ⟨hb3, hp3⟩ := hp3
   obtain rfl := VR_int hp3
   have H := H.keep hb3
   refine pz 3 hf fun a hf => ?_
   have hf := hf.pn [4, 5, 6]
   refine wer ?_
   obtain rfl := oi hF
   refine ret_3 hf rfl (rv_tmp hf rfl) (rv_tmp hf rfl) (rv_tmp hf rfl) ?_
   exact ⟨_, rfl, H.bel, _, _, _, rfl, mk_int, mk_int, mk_bool⟩
theorem spec_IsValidRequests_ok {S : Nat → Prop} {v0_ : Value} {v1_ : Value} {n' : Network} {list : List Request} {r : Bool} (h0 : VR w0 S v0_ n') (h1 : VR w0 S v1_ list) (hF : spec_IsValidRequests fu n' list = some r) :
    Calls Tryz.prog 24 [v0_, v1_].toArray w0 fun e w' => ∃ v, e = .returned v ∧ (Below w0.heap.size w0 w' ∧ VR w' (St ⟨w0, []⟩ S [] [] [] true) v r) := by
 obtain ⟨A, c, A2, c2, rfl, hl, hl2⟩ := Network_open h0
 obtain ⟨A3, c3, rfl, hl3⟩ := VR_list h1
 have H := Mem.start ⟨w0, []⟩ S
 have H := H.pA hl
 have H := H.pA hl2
 have H := H.pA hl3
 refine en Tryz.func24 fun a hf => ?_
 rw [spec_IsValidRequests] at hF
 refine bx hf H fun b' a w hf H => ?_
 refine pz 1 hf fun a hf => ?_
 refine wr (lN 0 hf H TF.la34 fun a hf => ?_)
 refine pz 1 hf fun a hf => ?_
 obtain ⟨y, hy, hF⟩ := bs_ hF
 refine oc hf TF.cl68 (spec_l12Good_ok (S := TT) (Network_mkv (x := n') (H.rt 2 rfl) (H.rt 1 rfl)) (mk_list (H.rt 0 rfl)) hy) fun v w a hp hf => ?_
 obtain ⟨hb, hp⟩ := hp
 obtain rfl := VR_bool hp
 have H := H.keep hb
 refine pz 1 hf fun a hf => ?_
 refine wer ?_
 obtain rfl := oi hF
 refine rT hf ?_
 exact ⟨_, rfl, H.bel, mk_bool⟩
theorem impl_CheckAssignment_c1_ok {S : Nat → Prop} {v0_ : Value} {b1 o1 : Nat} {cs1 : List Value} {k' : Int} {cap : Int} {r : Bool} (h0 : VR w0 S v0_ k') (hp1 : (MP.cells ⟨b1, o1, none⟩ cs1).pred w0 S) (hr1 : GoTy.rep w0 S cs1 cap) (hF : impl_CheckAssignment_c1 fu k' cap = some r) :
    Calls Tryz.prog 73 [v0_, (.pointer (some ⟨b1, o1, none⟩))].toArray w0 fun e w' => ∃ v, e = .returned v ∧ (Below w0.heap.size w0 w' ∧ VR w' (St ⟨w0, []⟩ S [] [] [] true) v r) := by
 obtain rfl := VR_int h0
 obtain rfl := hr1
 have H := Mem.start ⟨w0, []⟩ S
 have H := H.pushArg (MP.cells ⟨b1, o1, none⟩ [(.int .i64 cap)]) hp1
 refine en Tryz.func73 fun a hf => ?_
 rw [impl_CheckAssignment_c1] at hF
 refine sqz (pz 1 hf fun a hf => ?_)
 refine wr (pz 1 hf fun a hf => ?_)
 refine oq hf (rq_loadI hf H TF.ls3 0 0 rfl rfl rfl) fun a hf => ?_
 refine pz 2 hf fun a hf => ?_
 refine wer ?_
 obtain rfl := oi hF
 refine rT hf ?_
 exact ⟨_, rfl, H.bel, mk_bool⟩
theorem impl_isFree_of_CheckAssignment_c1_ok {S : Nat → Prop} {v0_ : Value} {v1_ : Value} {v2_ : Value} {v3_ : Value} {b4_0 o4_0 : Nat} {cs4_0 : List Value} {list : List Request} {blocks : List Block} {i : Int} {b6 : Block} {cap : Int} {r : Bool} (h0 : VR w0 S v0_ list) (h1 : VR w0 S v1_ blocks) (h2 : VR w0 S v2_ i) (h3 : VR w0 S v3_ b6) (hp4_0 : (MP.cells ⟨b4_0, o4_0, none⟩ cs4_0).pred w0 S) (hr4_0 : GoTy.rep w0 S cs4_0 cap) (hF : impl_isFree_of_CheckAssignment_c1 fu list blocks i b6 cap = some r) :
    Calls Tryz.prog 72 [v0_, v1_, v2_, v3_, (.func (.func 73) #[] #[(.pointer (some ⟨b4_0, o4_0, none⟩))])].toArray w0 fun e w' => ∃ v, e = .returned v ∧ (Below w0.heap.size w0 w' ∧ VR w' (St ⟨w0, []⟩ S [] [] [] true) v r) := by
 obtain ⟨A, c, rfl, hl⟩ := VR_list h0
 obtain ⟨A2, c2, rfl, hl2⟩ := VR_list h1
 obtain rfl := VR_int h2
 obtain rfl := Block_open h3
 obtain rfl := hr4_0
 have H := Mem.start ⟨w0, []⟩ S
 have H := H.pA hl
 have H := H.pA hl2
 have H := H.pushArg (MP.cells ⟨b4_0, o4_0, none⟩ [(.int .i64 cap)]) hp4_0
 refine en Tryz.func72 fun a hf => ?_
 rw [impl_isFree_of_CheckAssignment_c1] at hF
 refine bx hf H fun b7 a w hf H => ?_
 refine pz 1 hf fun a hf => ?_
 refine we (sqz (pz 3 hf fun a hf => ?_))
 refine wl_end (then_n ?_)
 obtain ⟨out', hB1, hF⟩ := bs_ hF
 have hf := hf.pn [0, 1, 2, 4, 8, 13, 14]
 have H := H.lt_ [true] [] [] [0, 1, 2]
 refine loopC (fun (s : Int) (a : Act) (w : World) => match s with | i2 => Fr a 48 [(0, (.slice A list.length c)), (1, (.slice A2 blocks.length c2)), (2, (.int .i64 i)), (4, (.func (.func 73) #[] #[(.pointer (some ⟨b4_0, o4_0 + 0, none⟩))])), (8, (.pointer (some ⟨b7, 0, none⟩))), (13, (.int .i64 (list.length : Int))), (14, (.int .i64 i2))] ∧ Mem ⟨w0, []⟩ S [⟨b7, 71, [(.int .i64 b6.First), (.int .i64 b6.Count)]⟩] [] [] [(false, MP.cells ⟨b4_0, o4_0, none⟩ [(.int .i64 cap)]), (false, MP.val [(.slice A2 blocks.length c2)] (blocks : List Block)), (false, MP.val [(.slice A list.length c)] (list : List Request))] w) (fun k (s : Int) => impl_isFree_of_CheckAssignment_c1_L1 fu list blocks i b6 cap k s = some out') (fun s => out' = Out.next s) 0 fu hB1 ⟨hf, H⟩ (fun s h => by cases h) ?_ ?_
 ·rintro fk i2 a w hR1 hI
  replace hR1 : impl_isFree_of_CheckAssignment_c1_L1 fu list blocks i b6 cap (fk + 1) i2 = some out' := hR1
  rw [impl_isFree_of_CheckAssignment_c1_L1] at hR1
  obtain ⟨hf, H⟩ := hI
  refine sqz (pz 1 hf fun a hf => ?_)
  refine wl_end (then_n (sq (ib hR1 hf (fun hc hR1 => ?_) fun hc hR1 => ?_)))
  ·refine ws (pz 2 hf fun a hf => ?_)
   refine wl_end (then_n (sq ?_))
   obtain ⟨c3, hGc3, hR1⟩ := bs_ hR1
   have fh := hf.prune [0, 1, 2, 4, 8, 13, 14] rfl
   have Hm := H.lt_ [true] [] [] [0, 1, 2]
   refine midF 46 (.bool c3) fh Hm ?_ fun a w hf H => ?_
   ·refine dw [] 30 fun w hb => ?_
    have H := H.keep hb
    refine zp 0 hf trivial fun a hf => ?_
    refine zp 1 hf trivial fun a hf => ?_
    refine zp 2 hf trivial fun a hf => ?_
    refine zp 3 hf trivial fun a hf => ?_
    refine iteB hGc3 (fun hc2 hGc3 => ?_) fun hc2 hGc3 => ?_
    ·have hf := hf.lit 20 rfl hc2
     refine zg 4 hf trivial fun a hf => ?_
     refine zg 5 hf trivial fun a hf => ?_
     obtain ⟨y, hy, hGc3⟩ := bs_ hGc3
     refine n1g 6 (by kernel_rfl) rfl rfl rfl rfl hf (op_callV hf TF.cl73 rfl rfl (by decide) (impl_CheckAssignment_c1_ok (S := TT) mk_int (mp_true (H.get 0 rfl)) (rfl) hy) fun v w a hp6 hf => ?_)
     obtain ⟨hb, hp6⟩ := hp6
     obtain rfl := VR_bool hp6
     have H := H.keep hb
     refine ⟨fun _ => trivial, ?_⟩
     refine zp 7 hf trivial fun a hf => ?_
     refine zp 8 hf trivial fun a hf => ?_
     refine iteB hGc3 (fun hc3 hGc3 => ?_) fun hc3 hGc3 => ?_
     ·have hf := hf.lit 25 rfl hc3
      refine zg 9 hf trivial fun a hf => ?_
      refine zg 10 hf trivial fun a hf => ?_
      obtain ⟨e, he, hGc3⟩ := bs_ hGc3
      obtain ⟨p, o6, cs6, hx, hr6, H⟩ := pre_iaddr H Tryz.underlying46 TF.sz61 2 rfl he
      refine tPg 11 rfl rfl rfl rfl rfl rfl hf (by kernel_rfl) (fun _ => trivial) (fun w => rq_iaddrE hf rfl rfl rfl hx w) fun a hf => ?_
      obtain ⟨A3, c4, rfl, hl3⟩ := Request_cells hr6
      have H := H.pF hl3
      refine strT (H.lt_ [false] [] [] [1]) (fun w H => trivial) fun hS => ?_
      refine tSg 12 [] rfl rfl rfl rfl rfl rfl hf (by kernel_rfl) (by kernel_rfl) hS (fun w H => rq_loadIN hf H TF.la61 0 0 rfl rfl rfl rfl) fun a hf => ?_
      refine zg 13 hf hS fun a hf => ?_
      refine zg 14 hf hS fun a hf => ?_
      obtain ⟨e2, he2, hGc3⟩ := bs_ hGc3
      obtain ⟨p2, o7, cs7, hx2, hr7, H⟩ := pre_iaddr H Tryz.underlying46 TF.sz61 4 rfl he2
      refine tPg 15 rfl rfl rfl rfl rfl rfl hf (by kernel_rfl) (fun _ => hS) (fun w => rq_iaddrE hf rfl rfl rfl hx2 w) fun a hf => ?_
      obtain ⟨A4, c5, rfl, hl4⟩ := Request_cells hr7
      have H := H.pF hl4
      refine strT (H.lt_ [false] [] [] [1, 3]) (fun w H => H.lt_ [] [] [] [1]) fun hS => ?_
      refine tSg 16 [] rfl rfl rfl rfl rfl rfl hf (by kernel_rfl) (by kernel_rfl) hS (fun w H => rq_loadIN hf H TF.la61 0 0 rfl rfl rfl rfl) fun a hf => ?_
      obtain ⟨y2, hy2, hGc3⟩ := bs_ hGc3
      refine n1g 17 (by kernel_rfl) rfl rfl rfl rfl hf (oC hf TF.cl143 (impl_conflict_ok (S := TT) (Request_mkv (x := e) (H.rt 2 rfl)) (Request_mkv (x := e2) (H.rt 0 rfl)) hy2) fun v2 w a hp7 hf => ?_)
      obtain ⟨hb2, hp7⟩ := hp7
      obtain rfl := VR_bool hp7
      have H := H.keep hb2
      have hS := H.lt_ [false] [] [] [1, 3]
      refine aS hS ?_
      refine zp 18 hf hS fun a hf => ?_
      refine zp 19 hf hS fun a hf => ?_
      refine iteB hGc3 (fun hc4 hGc3 => ?_) fun hc4 hGc3 => ?_
      ·have hf := hf.lit 36 rfl hc4
       refine strT (H.lt_ [true] [] [] [1, 3]) (fun w H => H.lt_ [false] [] [] [0, 1]) fun hS => ?_
       refine tSg 20 [] rfl rfl rfl rfl rfl rfl hf (by kernel_rfl) (by kernel_rfl) hS (fun w H => rq_loadBN hf H TF.la71 0 rfl rfl rfl rfl) fun a hf => ?_
       refine zg 22 hf hS fun a hf => ?_
       refine zg 23 hf hS fun a hf => ?_
       obtain ⟨e3, he3, hGc3⟩ := bs_ hGc3
       obtain ⟨p3, o8, cs8, hx3, hr8, H⟩ := pre_iaddr H Tryz.underlying50 TF.sz71 5 rfl he3
       refine tPg 24 rfl rfl rfl rfl rfl rfl hf (by kernel_rfl) (fun _ => hS) (fun w => rq_iaddrE hf rfl rfl rfl hx3 w) fun a hf => ?_
       obtain rfl := Block_cells hr8
       refine strT (H.lt_ [true] [] [] [0, 2, 4]) (fun w H => H.lt_ [true] [] [] [1, 2]) fun hS => ?_
       refine tSg 25 [] rfl rfl rfl rfl rfl rfl hf (by kernel_rfl) (by kernel_rfl) hS (fun w H => rq_loadIN hf H TF.la71 0 0 rfl rfl rfl rfl) fun a hf => ?_
       obtain ⟨y3, hy3, hGc3⟩ := bs_ hGc3
       refine n1g 21 (by kernel_rfl) rfl rfl rfl rfl hf (oC hf TF.cl144 (impl_maskOf_ok (S := TT) Block_mkv hy3) fun v3 w a hp8 hf => ?_)
       obtain ⟨hb3, hp8⟩ := hp8
       obtain rfl := VR_int hp8
       have H := H.keep hb3
       have hS := H.lt_ [true] [] [] [0, 2, 4]
       refine aS hS ?_
       obtain ⟨y4, hy4, hGc3⟩ := bs_ hGc3
       refine n1g 26 (by kernel_rfl) rfl rfl rfl rfl hf (oC hf TF.cl144 (impl_maskOf_ok (S := TT) Block_mkv hy4) fun v4 w a hp9 hf => ?_)
       obtain ⟨hb4, hp9⟩ := hp9
       obtain rfl := VR_int hp9
       have H := H.keep hb4
       have hS := H.lt_ [true] [] [] [0, 2, 4]
       refine aS hS ?_
       refine zg 27 hf hS fun a hf => ?_
       refine zg 28 hf hS fun a hf => ?_
       refine zp 29 hf hS fun a hf => ?_
       refine dk ?_
       obtain rfl := oi hGc3
       have hf := hf.pn [46, 0, 1, 2, 4, 8, 13, 14]
       have H := H.lt_ [true] [] [] [5, 6, 7]
       exact ⟨hf, H⟩
      ·have hf := hf.lit 36 rfl hc4
       refine zU 20 hf hS fun a hf => ?_
       refine zU 21 hf hS fun a hf => ?_
       refine zU 22 hf hS fun a hf => ?_
       refine zU 23 hf hS fun a hf => ?_
       refine zU 24 hf hS fun a hf => ?_
       refine zU 25 hf hS fun a hf => ?_
       refine zU 26 hf hS fun a hf => ?_
       refine zU 27 hf hS fun a hf => ?_
       refine zU 28 hf hS fun a hf => ?_
       refine zp 29 hf hS fun a hf => ?_
       refine dk ?_
       obtain rfl := oi hGc3
       have hf := hf.pn [46, 0, 1, 2, 4, 8, 13, 14]
       have H := H.lt_ [true] [] [] [4, 5, 6]
       exact ⟨hf, H⟩
     ·have hf := hf.lit 25 rfl hc3
      refine zU 9 hf trivial fun a hf => ?_
      refine zU 10 hf trivial fun a hf => ?_
      refine zU 11 hf trivial fun a hf => ?_
      refine zU 12 hf trivial fun a hf => ?_
      refine zU 13 hf trivial fun a hf => ?_
      refine zU 14 hf trivial fun a hf => ?_
      refine zU 15 hf trivial fun a hf => ?_
      refine zU 16 hf trivial fun a hf => ?_
      refine zU 17 hf trivial fun a hf => ?_
      refine zp 18 hf trivial fun a hf => ?_
      refine zp 19 hf trivial fun a hf => ?_
      refine zU 20 hf trivial fun a hf => ?_
      refine zU 21 hf trivial fun a hf => ?_
      refine zU 22 hf trivial fun a hf => ?_
      refine zU 23 hf trivial fun a hf => ?_
      refine zU 24 hf trivial fun a hf => ?_
      refine zU 25 hf trivial fun a hf => ?_
      refine zU 26 hf trivial fun a hf => ?_
      refine zU 27 hf trivial fun a hf => ?_
      refine zU 28 hf trivial fun a hf => ?_
      refine zp 29 hf trivial fun a hf => ?_
      refine dk ?_
      obtain rfl := oi hGc3
      have hf := hf.pn [46, 0, 1, 2, 4, 8, 13, 14]
      have H := H.lt_ [true] [] [] [0, 1, 2]
      exact ⟨hf, H⟩
    ·have hf := hf.lit 20 rfl hc2
     refine zU 4 hf trivial fun a hf => ?_
     refine zU 5 hf trivial fun a hf => ?_
     refine zU 6 hf trivial fun a hf => ?_
     refine zp 7 hf trivial fun a hf => ?_
     refine zp 8 hf trivial fun a hf => ?_
     refine zU 9 hf trivial fun a hf => ?_
     refine zU 10 hf trivial fun a hf => ?_
     refine zU 11 hf trivial fun a hf => ?_
     refine zU 12 hf trivial fun a hf => ?_
     refine zU 13 hf trivial fun a hf => ?_
     refine zU 14 hf trivial fun a hf => ?_
     refine zU 15 hf trivial fun a hf => ?_
     refine zU 16 hf trivial fun a hf => ?_
     refine zU 17 hf trivial fun a hf => ?_
     refine zp 18 hf trivial fun a hf => ?_
     refine zp 19 hf trivial fun a hf => ?_
     refine zU 20 hf trivial fun a hf => ?_
     refine zU 21 hf trivial fun a hf => ?_
     refine zU 22 hf trivial fun a hf => ?_
     refine zU 23 hf trivial fun a hf => ?_
     refine zU 24 hf trivial fun a hf => ?_
     refine zU 25 hf trivial fun a hf => ?_
     refine zU 26 hf trivial fun a hf => ?_
     refine zU 27 hf trivial fun a hf => ?_
     refine zU 28 hf trivial fun a hf => ?_
     refine zp 29 hf trivial fun a hf => ?_
     refine dk ?_
     obtain rfl := oi hGc3
     have hf := hf.pn [46, 0, 1, 2, 4, 8, 13, 14]
     have H := H.lt_ [true] [] [] [0, 1, 2]
     exact ⟨hf, H⟩
   refine then_n (ib hR1 hf (fun hc5 hR1 => ?_) fun hc5 hR1 => ?_)
   ·refine sqz (pz 1 hf fun a hf => ?_)
    refine wl_end (then_n (wp_ret (blk_r (then_r (then_r (blk_r (then_r (then_r (?_)))))))))
    obtain rfl := oi hR1
    replace hF := on_ret hF
    obtain rfl := oi hF
    refine rT hf ?_
    exact ⟨_, rfl, H.bel, mk_bool⟩
   ·refine wp_skip (blk_n (then_n (reg (pz 2 hf fun a hf => ?_))))
    refine wl_end ?_
    have hf := hf.pn [0, 1, 2, 4, 8, 13, 14]
    have H := H.lt_ [true] [] [] [0, 1, 2]
    exact then_n ⟨w64 (i2 + 1), hR1, hf, H⟩
  ·refine wp_exit (then_x (then_x (blk_e (?_))))
   have hf := hf.pn [0, 1, 2, 4, 8, 13, 14]
   have H := H.lt_ [true] [] [] [0, 1, 2]
   exact ⟨i2, (Option.some.inj hR1).symm, hf, H⟩
 rintro a w ⟨i3, rfl, hf, H⟩
 replace hF := on_next hF
 refine then_n (sqz (pz 1 hf fun a hf => ?_))
 refine wer ?_
 obtain rfl := oi hF
 refine rT hf ?_
 exact ⟨_, rfl, H.bel, mk_bool⟩
theorem impl_heightOf_ok {S : Nat → Prop} {v0_ : Value} {blocks : List Block} {r : Int} (h0 : VR w0 S v0_ blocks) (hF : impl_heightOf fu blocks = some r) :
    Calls Tryz.prog 74 [v0_].toArray w0 fun e w' => ∃ v, e = .returned v ∧ (Below w0.heap.size w0 w' ∧ VR w' (St ⟨w0, []⟩ S [] [] [] true) v r) := by
 obtain ⟨A, c, rfl, hl⟩ := VR_list h0
 have H := Mem.start ⟨w0, []⟩ S
 have H := H.pA hl
 refine en Tryz.func74 fun a hf => ?_
 rw [impl_heightOf] at hF
 refine sqz (pz 1 hf fun a hf => ?_)
 refine wr (pz 1 hf fun a hf => ?_)
 refine we (sqz (pz 3 hf fun a hf => ?_))
 refine wl_end (then_n ?_)
 obtain ⟨out', hB1, hF⟩ := bs_ hF
 have hf := hf.pn [3, 6, 7, 8]
 have H := H.lt_ [] [] [] [0]
 refine loopC (fun (s : Int × Int) (a : Act) (w : World) => match s with | (height, i) => Fr a 21 [(3, (.int .i64 height)), (6, (.slice A blocks.length c)), (7, (.int .i64 (blocks.length : Int))), (8, (.int .i64 i))] ∧ Mem ⟨w0, []⟩ S [] [] [] [(false, MP.val [(.slice A blocks.length c)] (blocks : List Block))] w) (fun k (s : Int × Int) => impl_heightOf_L1 fu blocks k s.1 s.2 = some out') (fun s => out' = s) (0, 0) fu hB1 ⟨hf, H⟩ (fun s h => by cases h) ?_ ?_
 ·rintro fk ⟨height, i⟩ a w hR1 hI
  replace hR1 : impl_heightOf_L1 fu blocks (fk + 1) height i = some out' := hR1
  rw [impl_heightOf_L1] at hR1
  obtain ⟨hf, H⟩ := hI
  refine sqz (pz 1 hf fun a hf => ?_)
  refine wl_end (then_n (sq (ib hR1 hf (fun hc hR1 => ?_) fun hc hR1 => ?_)))
  ·refine wp_skip (then_n (sq (wp_block (sq (reg ?_)))))
   obtain ⟨e, he, hR1⟩ := bs_ hR1
   refine wl0 rfl (op_iaddr hf H Tryz.underlying50 TF.sz71 0 rfl rfl rfl he (by decide) fun p o cs a hf hr H => ?_)
   obtain rfl := Block_cells hr
   refine oq hf (rq_loadIN hf H TF.la71 0 0 rfl rfl rfl rfl) fun a hf => ?_
   refine aL hf H TF.zv71 fun b' a w hf H => ?_
   refine sB 0 hf H TF.sz71 fun w H => ?_
   refine wl_end (then_n (reg (pz 2 hf fun a hf => ?_)))
   refine lB 0 hf H TF.ls3 fun a hf => ?_
   refine pz 1 hf fun a hf => ?_
   refine lB 0 hf H TF.ls3 fun a hf => ?_
   refine pz 3 hf fun a hf => ?_
   refine wl_end (blk_n (then_n (reg (pz 2 hf fun a hf => ?_))))
   refine wl_end ?_
   have hf := hf.pn [3, 6, 7, 8]
   have H := H.lt_ [false] [] [] [1]
   exact then_n ⟨(gmax height (w64 (e.First + e.Count)), w64 (i + 1)), hR1, hf, H⟩
  ·refine wp_exit (then_x (then_x (blk_e (?_))))
   have hf := hf.pn [3, 6, 7, 8]
   have H := H.lt_ [] [] [] [0]
   exact ⟨(height, i), (Option.some.inj hR1).symm, hf, H⟩
 rintro a w ⟨⟨height2, i2⟩, rfl, hf, H⟩
 try dsimp only at hF
 refine then_n (sqz (pz 2 hf fun a hf => ?_))
 refine wer ?_
 obtain rfl := oi hF
 refine rT hf ?_
 exact ⟨_, rfl, H.bel, mk_int⟩
theorem impl_CheckAssignment_ok {S : Nat → Prop} {v0_ : Value} {v1_ : Value} {v2_ : Value} {n' : Network} {list : List Request} {blocks : List Block} {r : Int × Bool} (h0 : VR w0 S v0_ n') (h1 : VR w0 S v1_ list) (h2 : VR w0 S v2_ blocks) (hF : impl_CheckAssignment fu n' list blocks = some r) :
    Calls Tryz.prog 25 [v0_, v1_, v2_].toArray w0 fun e w' => ∃ v, e = .returned v ∧ (Below w0.heap.size w0 w' ∧ ∃ u0 u1, v = .tuple #[u0, u1] ∧ VR w' (St ⟨w0, []⟩ S [] [] [] true) u0 r.1 ∧ VR w' (St ⟨w0, []⟩ S [] [] [] true) u1 r.2) := by
 obtain ⟨A, c, A2, c2, rfl, hl, hl2⟩ := Network_open h0
 obtain ⟨A3, c3, rfl, hl3⟩ := VR_list h1
 obtain ⟨A4, c4, rfl, hl4⟩ := VR_list h2
 have H := Mem.start ⟨w0, []⟩ S
 have H := H.pA hl
 have H := H.pA hl2
 have H := H.pA hl3
 have H := H.pA hl4
 refine en Tryz.func25 fun a hf => ?_
 rw [impl_CheckAssignment] at hF
 refine bx hf H fun b' a w hf H => ?_
 refine pz 2 hf fun a hf => ?_
 refine wl_end (then_n (sq (sq ?_)))
 obtain ⟨c5, hGc5, hF⟩ := bs_ hF
 have fh := hf.prune [1, 2] rfl
 have Hm := H.lt_ [false] [] [] [0, 1]
 refine midF 20 (.bool c5) fh Hm ?_ fun a w hf H => ?_
 ·refine reg (lN 0 hf H TF.la34 fun a hf => ?_)
  refine pz 1 hf fun a hf => ?_
  obtain ⟨y, hy, hGc5⟩ := bs_ hGc5
  refine oc hf TF.cl65 (impl_IsValidRequests_ok (S := TT) (Network_mkv (x := n') (H.rt 3 rfl) (H.rt 2 rfl)) (mk_list (H.rt 1 rfl)) hy) fun v w a hp hf => ?_
  obtain ⟨hb, hp⟩ := hp
  obtain rfl := VR_bool hp
  have H := H.keep hb
  refine pz 2 hf fun a hf => ?_
  refine iteB hGc5 (fun hc hGc5 => ?_) fun hc hGc5 => ?_
  ·have hf := hf.lit 14 rfl hc
   refine pz 6 hf fun a hf => ?_
   obtain rfl := oi hGc5
   have hf := hf.pn [20, 1, 2]
   have H := H.lt_ [false] [] [] [0, 1]
   exact wl_end ⟨hf, H⟩
  ·have hf := hf.lit 14 rfl hc
   refine pz 6 hf fun a hf => ?_
   obtain rfl := oi hGc5
   have hf := hf.pn [20, 1, 2]
   have H := H.lt_ [false] [] [] [0, 1]
   exact wl_end ⟨hf, H⟩
 refine then_n (ib hF hf (fun hc2 hF => ?_) fun hc2 hF => ?_)
 ·refine sqz (pz 2 hf fun a hf => ?_)
  refine wl_end (then_n (wp_ret (then_r (?_))))
  obtain rfl := oi hF
  refine ret_2 hf rfl (rv_tmp hf rfl) (rv_tmp hf rfl) ?_
  exact ⟨_, rfl, H.bel, _, _, rfl, mk_int, mk_bool⟩
 ·refine wp_skip (then_n (sq (sqz (pz 3 hf fun a hf => ?_))))
  refine wl_end (then_n ?_)
  obtain ⟨out', hB1, hF⟩ := bs_ hF
  have hf := hf.pn [1, 2, 21, 22, 23]
  have H := H.lt_ [] [] [] [0, 1]
  refine loopC (fun (s : Int) (a : Act) (w : World) => match s with | i => Fr a 53 [(1, (.slice A3 list.length c3)), (2, (.slice A4 blocks.length c4)), (21, (.slice A4 blocks.length c4)), (22, (.int .i64 (blocks.length : Int))), (23, (.int .i64 i))] ∧ Mem ⟨w0, []⟩ S [] [] [] [(false, MP.val [(.slice A4 blocks.length c4)] (blocks : List Block)), (false, MP.val [(.slice A3 list.length c3)] (list : List Request))] w) (fun k (s : Int) => impl_CheckAssignment_L1 fu list blocks k s = some out') (fun s => out' = Out.next s) 0 fu hB1 ⟨hf, H⟩ (fun s h => by cases h) ?_ ?_
  ·rintro fk i a w hR1 hI
   replace hR1 : impl_CheckAssignment_L1 fu list blocks (fk + 1) i = some out' := hR1
   rw [impl_CheckAssignment_L1] at hR1
   obtain ⟨hf, H⟩ := hI
   refine sqz (pz 1 hf fun a hf => ?_)
   refine wl_end (then_n (sq (ib hR1 hf (fun hc3 hR1 => ?_) fun hc3 hR1 => ?_)))
   ·refine ws (pz 1 hf fun a hf => ?_)
    obtain ⟨e, he, hR1⟩ := bs_ hR1
    refine wl0 rfl (op_iaddr hf H Tryz.underlying50 TF.sz71 0 rfl rfl rfl he (by decide) fun p o cs a hf hr H => ?_)
    obtain rfl := Block_cells hr
    refine oq hf (rq_loadIN hf H TF.la71 0 0 rfl rfl rfl rfl) fun a hf => ?_
    refine aL hf H TF.zv3 fun b2 a w hf H => ?_
    refine aL hf H TF.zv71 fun b3 a w hf H => ?_
    refine sB 1 hf H TF.sz3 fun w H => ?_
    refine sB 0 hf H TF.sz71 fun w H => ?_
    refine wl_end (then_n (sq ?_))
    obtain ⟨c6, hGc6, hR1⟩ := bs_ hR1
    have fh2 := hf.prune [1, 2, 21, 22, 23] rfl
    have Hm2 := H.lt_ [false, false] [] [] [1, 2]
    refine midF 49 (.bool c6) fh2 Hm2 ?_ fun a w hf H => ?_
    ·refine dw [] 22 fun w hb => ?_
     have H := H.keep hb
     refine strT (H.lt_ [true, false] [] [] []) (fun w H => trivial) fun hS => ?_
     refine zS 0 [] rfl rfl rfl rfl hf hS (fun w H => rq_loadBN hf H TF.la71 0 rfl rfl rfl rfl) fun a hf => ?_
     obtain ⟨y2, hy2, hGc6⟩ := bs_ hGc6
     refine nn 1 rfl (oC hf TF.cl71 (impl_IsValidBlock_ok (S := TT) Block_mkv hy2) fun v2 w a hp2 hf => ?_)
     obtain ⟨hb2, hp2⟩ := hp2
     obtain rfl := VR_bool hp2
     have H := H.keep hb2
     have hS := H.lt_ [true, false] [] [] []
     refine aS hS ?_
     refine zp 2 hf hS fun a hf => ?_
     refine zp 3 hf hS fun a hf => ?_
     refine iteB hGc6 (fun hc4 hGc6 => ?_) fun hc4 hGc6 => ?_
     ·have hf := hf.lit 31 rfl hc4
      refine zU 4 hf hS fun a hf => ?_
      refine zU 5 hf hS fun a hf => ?_
      refine zU 6 hf hS fun a hf => ?_
      refine zU 7 hf hS fun a hf => ?_
      refine zU 8 hf hS fun a hf => ?_
      refine zU 9 hf hS fun a hf => ?_
      refine zU 10 hf hS fun a hf => ?_
      refine zU 11 hf hS fun a hf => ?_
      refine zp 12 hf hS fun a hf => ?_
      refine zp 13 hf hS fun a hf => ?_
      refine zU 14 hf hS fun a hf => ?_
      refine zU 15 hf hS fun a hf => ?_
      refine zU 16 hf hS fun a hf => ?_
      refine zU 17 hf hS fun a hf => ?_
      refine zU 18 hf hS fun a hf => ?_
      refine zU 19 hf hS fun a hf => ?_
      refine zU 20 hf hS fun a hf => ?_
      refine zp 21 hf hS fun a hf => ?_
      refine dk ?_
      obtain rfl := oi hGc6
      have hf := hf.pn [49, 1, 2, 21, 22, 23]
      have H := H.lt_ [false, false] [] [] [1, 2]
      exact ⟨hf, H⟩
     ·have hf := hf.lit 31 rfl hc4
      refine zg 4 hf hS fun a hf => ?_
      refine tSg 5 [] rfl rfl rfl rfl rfl rfl hf (by kernel_rfl) (by kernel_rfl) hS (fun w H => rq_loadB hf H TF.ls3 0 rfl rfl rfl) fun a hf => ?_
      refine zg 6 hf hS fun a hf => ?_
      refine strT (H.lt_ [true, true] [] [] []) (fun w H => H.lt_ [true, false] [] [] []) fun hS => ?_
      refine tSg 7 [] rfl rfl rfl rfl rfl rfl hf (by kernel_rfl) (by kernel_rfl) hS (fun w H => rq_loadB hf H TF.ls3 1 rfl rfl rfl) fun a hf => ?_
      obtain ⟨e2, he2, hGc6⟩ := bs_ hGc6
      obtain ⟨p2, o2, cs2, hx, hr2, H⟩ := pre_iaddr H Tryz.underlying46 TF.sz61 2 rfl he2
      refine tPg 8 rfl rfl rfl rfl rfl rfl hf (by kernel_rfl) (fun _ => hS) (fun w => rq_iaddrE hf rfl rfl rfl hx w) fun a hf => ?_
      obtain ⟨A5, c7, rfl, hl5⟩ := Request_cells hr2
      have H := H.pF hl5
      refine zg 9 hf hS fun a hf => ?_
      refine strT (H.lt_ [true, true] [] [] [1]) (fun w H => H.lt_ [true, true] [] [] []) fun hS => ?_
      refine tSg 10 [] rfl rfl rfl rfl rfl rfl hf (by kernel_rfl) (by kernel_rfl) hS (fun w H => rq_loadI hf H TF.ls3 0 2 rfl rfl rfl) fun a hf => ?_
      refine zg 11 hf hS fun a hf => ?_
      refine zp 12 hf hS fun a hf => ?_
      refine zp 13 hf hS fun a hf => ?_
      refine iteB hGc6 (fun hc5 hGc6 => ?_) fun hc5 hGc6 => ?_
      ·have hf := hf.lit 41 rfl hc5
       refine zU 14 hf hS fun a hf => ?_
       refine zU 15 hf hS fun a hf => ?_
       refine zU 16 hf hS fun a hf => ?_
       refine zU 17 hf hS fun a hf => ?_
       refine zU 18 hf hS fun a hf => ?_
       refine zU 19 hf hS fun a hf => ?_
       refine zU 20 hf hS fun a hf => ?_
       refine zp 21 hf hS fun a hf => ?_
       refine dk ?_
       obtain rfl := oi hGc6
       have hf := hf.pn [49, 1, 2, 21, 22, 23]
       have H := H.lt_ [false, false] [] [] [3, 4]
       exact ⟨hf, H⟩
      ·have hf := hf.lit 41 rfl hc5
       refine zg 14 hf hS fun a hf => ?_
       refine zg 15 hf hS fun a hf => ?_
       refine tSg 16 [] rfl rfl rfl rfl rfl rfl hf (by kernel_rfl) (by kernel_rfl) hS (fun w H => rq_loadB hf H TF.ls3 1 rfl rfl rfl) fun a hf => ?_
       refine tSg 17 [] rfl rfl rfl rfl rfl rfl hf (by kernel_rfl) (by kernel_rfl) hS (fun w H => rq_loadBN hf H TF.la71 0 rfl rfl rfl rfl) fun a hf => ?_
       refine n1g 18 (by kernel_rfl) rfl rfl rfl rfl hf (op_q hf (rq_makeFunc hf rfl) rfl (by decide) fun a hf => ?_)
       have hS := H.lt_ [true, true] [] [] [1]
       refine aS hS ?_
       obtain ⟨y3, hy3, hGc6⟩ := bs_ hGc6
       refine n1g 19 (by kernel_rfl) rfl rfl rfl rfl hf (oC hf TF.cl72 (impl_isFree_of_CheckAssignment_c1_ok (S := TT) (mk_list (H.rt 4 rfl)) (mk_list (H.rt 3 rfl)) mk_int Block_mkv (H.boxTrue 1 rfl) (rfl) hy3) fun v3 w a hp3 hf => ?_)
       obtain ⟨hb3, hp3⟩ := hp3
       obtain rfl := VR_bool hp3
       have H := H.keep hb3
       have hS := H.lt_ [true, true] [] [] [1]
       refine aS hS ?_
       refine zg 20 hf hS fun a hf => ?_
       refine zp 21 hf hS fun a hf => ?_
       refine dk ?_
       obtain rfl := oi hGc6
       have hf := hf.pn [49, 1, 2, 21, 22, 23]
       have H := H.lt_ [false, false] [] [] [3, 4]
       exact ⟨hf, H⟩
    refine then_n (ib hR1 hf (fun hc6 hR1 => ?_) fun hc6 hR1 => ?_)
    ·refine sqz (pz 2 hf fun a hf => ?_)
     refine wl_end (then_n (wp_ret (blk_r (then_r (then_r (blk_r (then_r (then_r (?_)))))))))
     obtain rfl := oi hR1
     replace hF := on_ret hF
     obtain rfl := oi hF
     refine ret_2 hf rfl (rv_tmp hf rfl) (rv_tmp hf rfl) ?_
     exact ⟨_, rfl, H.bel, _, _, rfl, mk_int, mk_bool⟩
    ·refine wp_skip (blk_n (then_n (reg (pz 2 hf fun a hf => ?_))))
     refine wl_end ?_
     have hf := hf.pn [1, 2, 21, 22, 23]
     have H := H.lt_ [] [] [] [0, 1]
     exact then_n ⟨w64 (i + 1), hR1, hf, H⟩
   ·refine wp_exit (then_x (then_x (blk_e (?_))))
    have hf := hf.pn [1, 2, 21, 22, 23]
    have H := H.lt_ [] [] [] [0, 1]
    exact ⟨i, (Option.some.inj hR1).symm, hf, H⟩
  rintro a w ⟨i2, rfl, hf, H⟩
  replace hF := on_next hF
  refine then_n (sqz (pz 1 hf fun a hf => ?_))
  obtain ⟨y4, hy4, hF⟩ := bs_ hF
  refine oc hf TF.cl74 (impl_heightOf_ok (S := TT) (mk_list (H.rt 0 rfl)) hy4) fun v4 w a hp4 hf => ?_
  obtain ⟨hb4, hp4⟩ := hp4
  obtain rfl := VR_int hp4
  have H := H.keep hb4
  refine pz 2 hf fun a hf => ?_
  refine wer ?_
  obtain rfl := oi hF
  refine ret_2 hf rfl (rv_tmp hf rfl) (rv_tmp hf rfl) ?_
  exact ⟨_, rfl, H.bel, _, _, rfl, mk_int, mk_bool⟩
theorem impl_OptimalityGap_ok {S : Nat → Prop} {v0_ : Value} {v1_ : Value} {v2_ : Value} {n' : Network} {list : List Request} {blocks : List Block} {r : Int × Bool} (h0 : VR w0 S v0_ n') (h1 : VR w0 S v1_ list) (h2 : VR w0 S v2_ blocks) (hF : impl_OptimalityGap fu n' list blocks = some r) :
    Calls Tryz.prog 26 [v0_, v1_, v2_].toArray w0 fun e w' => ∃ v, e = .returned v ∧ (Below w0.heap.size w0 w' ∧ ∃ u0 u1, v = .tuple #[u0, u1] ∧ VR w' (St ⟨w0, []⟩ S [] [] [] true) u0 r.1 ∧ VR w' (St ⟨w0, []⟩ S [] [] [] true) u1 r.2) := by
 obtain ⟨A, c, A2, c2, rfl, hl, hl2⟩ := Network_open h0
 obtain ⟨A3, c3, rfl, hl3⟩ := VR_list h1
 obtain ⟨A4, c4, rfl, hl4⟩ := VR_list h2
 have H := Mem.start ⟨w0, []⟩ S
 have H := H.pA hl
 have H := H.pA hl2
 have H := H.pA hl3
 have H := H.pA hl4
 refine en Tryz.func26 fun a hf => ?_
 rw [impl_OptimalityGap] at hF
 refine bx hf H fun b' a w hf H => ?_
 refine pz 2 hf fun a hf => ?_
 refine wr (lN 0 hf H TF.la34 fun a hf => ?_)
 refine pz 2 hf fun a hf => ?_
 obtain ⟨y, hy, hF⟩ := bs_ hF
 refine oc hf TF.cl25 (impl_CheckAssignment_ok (S := TT) (Network_mkv (x := n') (H.rt 3 rfl) (H.rt 2 rfl)) (mk_list (H.rt 1 rfl)) (mk_list (H.rt 0 rfl)) hy) fun v w a hp hf => ?_
 obtain ⟨hb, v2, v3, rfl, hp2, hp3⟩ := hp
 obtain rfl := VR_int hp2
 obtain rfl := VR_bool hp3
 have H := H.keep hb
 refine pz 5 hf fun a hf => ?_
 refine we (sqz (pz 2 hf fun a hf => ?_))
 have hf := hf.pn [1, 8, 20]
 refine wl_end (then_n (ib hF hf (fun hc hF => ?_) fun hc hF => ?_))
 ·refine sqz (pz 2 hf fun a hf => ?_)
  refine wl_end (then_n (wp_ret (then_r (?_))))
  obtain rfl := oi hF
  refine ret_2 hf rfl (rv_tmp hf rfl) (rv_tmp hf rfl) ?_
  exact ⟨_, rfl, H.bel, _, _, rfl, mk_int, mk_bool⟩
 ·refine wp_skip (then_n (sqz (pz 1 hf fun a hf => ?_)))
  obtain ⟨y2, hy2, hF⟩ := bs_ hF
  refine oc hf TF.cl66 (impl_cliqueBound_ok (S := TT) (mk_list (H.rt 1 rfl)) hy2) fun v4 w a hp4 hf => ?_
  obtain ⟨hb2, v5, v6, rfl, hp5, hp6⟩ := hp4
  obtain rfl := VR_int hp5
  obtain rfl := VR_int hp6
  have H := H.keep hb2
  refine pz 5 hf fun a hf => ?_
  refine wr (pz 5 hf fun a hf => ?_)
  have hf := hf.pn [6, 7]
  refine wer ?_
  obtain rfl := oi hF
  refine ret_2 hf rfl (rv_tmp hf rfl) (rv_tmp hf rfl) ?_
  exact ⟨_, rfl, H.bel, _, _, rfl, mk_int, mk_bool⟩
theorem slices_Clone_int_int_ok {S : Nat → Prop} {v0_ : Value} {s' : List Int} {r : List Int} (h0 : VR w0 S v0_ s') (hF : slices_Clone_int_int fu s' = some r) :
    Calls Tryz.prog 75 [v0_].toArray w0 fun e w' => ∃ v, e = .returned v ∧ (Below w0.heap.size w0 w' ∧ ∃ F0, VO w' F0 v r ∧ New w0 w' F0) := by
 obtain ⟨A, c, rfl, hl⟩ := VR_list h0
 have H := Mem.start ⟨w0, []⟩ S
 have H := H.pA hl
 refine en Tryz.func75 fun a hf => ?_
 rw [slices_Clone_int_int] at hF
 refine sqz (pz 1 hf fun a hf => ?_)
 refine we (sqz (pz 1 hf fun a hf => ?_))
 cases A with
 | none =>
  have hnil : s' = [] := nil_data (α := Int) (H.get 0 rfl)
  replace hF := nil_case1 hnil hF
  refine oq hf (rq_nilN hf Tryz.underlying47 rfl rfl) fun a hf => ?_
  refine wl_end (then_n (cd_t hf rfl rfl (sqz (pz 1 hf fun a hf => ?_))))
  refine wl_end (then_n (wp_ret (then_r (?_))))
  have H := H.ownNil (Int)
  have H := H.lend 0 rfl
  obtain rfl := oi hF
  refine rT hf ?_
  have hN := H.ends1
  exact ⟨_, rfl, H.bel, [], (mko_list (H.ownAt 0 rfl)), by first | exact hN | simpa using hN⟩
 | some A2 =>
  replace hF := nil_case2 hF
  refine oq hf (rq_nilS hf Tryz.underlying47 rfl rfl) fun a hf => ?_
  refine wl_end (then_n (cd_f hf rfl rfl (wp_skip (then_n (sq (reg (wl0 rfl (bl hf H 3 ([] : List Int) [] el0 fun A3 a w hf H => ?_))))))))
  refine pz 1 hf fun a hf => ?_
  obtain ⟨l, hl_, hF⟩ := bs_ hF
  have H := H.rowWeak 0 rfl
  refine wl0 rfl (op_appI hf H Tryz.underlying47 TF.ai3 rfl (by decide) 0 0 rfl rfl rfl rfl (.inl rfl) hl_ (by decide) fun E A4 c2 a w hf H => ?_)
  have H := H.rowOwn 0 rfl rfl
  have H := H.rowSh 0 rfl
  refine pz 1 hf fun a hf => ?_
  refine wer ?_
  have H := H.rowOwn 0 rfl rfl
  obtain ⟨F, H⟩ := H.freezeOwn 0 rfl
  have H := H.lend 0 rfl
  obtain rfl := oi hF
  refine rT hf ?_
  have hN := H.ends1
  exact ⟨_, rfl, H.bel, F, (mko_list (H.ownAt 0 rfl)), by first | exact hN | simpa using hN⟩
theorem impl_isSet_ok {S : Nat → Prop} {v0_ : Value} {v1_ : Value} {l : List Int} {n' : Int} {r : Bool} (h0 : VR w0 S v0_ l) (h1 : VR w0 S v1_ n') (hF : impl_isSet fu l n' = some r) :
    Calls Tryz.prog 77 [v0_, v1_].toArray w0 fun e w' => ∃ v, e = .returned v ∧ (Below w0.heap.size w0 w' ∧ VR w' (St ⟨w0, []⟩ S [] [] [] true) v r) := by
 obtain ⟨A, c, rfl, hl⟩ := VR_list h0
 obtain rfl := VR_int h1
 have H := Mem.start ⟨w0, []⟩ S
 have H := H.pA hl
 refine en Tryz.func77 fun a hf => ?_
 rw [impl_isSet] at hF
 refine sqz (pz 1 hf fun a hf => ?_)
 refine we (sqz (pz 3 hf fun a hf => ?_))
 refine wl_end (then_n ?_)
 obtain ⟨out', hB1, hF⟩ := bs_ hF
 have hf := hf.pn [0, 1, 7, 8, 9]
 have H := H.lt_ [] [] [] [0]
 refine loopC (fun (s : Int) (a : Act) (w : World) => match s with | i => Fr a 33 [(0, (.slice A l.length c)), (1, (.int .i64 n')), (7, (.slice A l.length c)), (8, (.int .i64 (l.length : Int))), (9, (.int .i64 i))] ∧ Mem ⟨w0, []⟩ S [] [] [] [(false, MP.val [(.slice A l.length c)] (l : List Int))] w) (fun k (s : Int) => impl_isSet_L1 fu l n' k s = some out') (fun s => out' = Out.next s) 0 fu hB1 ⟨hf, H⟩ (fun s h => by cases h) ?_ ?_
 ·rintro fk i a w hR1 hI
  replace hR1 : impl_isSet_L1 fu l n' (fk + 1) i = some out' := hR1
  rw [impl_isSet_L1] at hR1
  obtain ⟨hf, H⟩ := hI
  refine sqz (pz 1 hf fun a hf => ?_)
  refine wl_end (then_n (sq (ib hR1 hf (fun hc hR1 => ?_) fun hc hR1 => ?_)))
  ·refine ws (pz 1 hf fun a hf => ?_)
   obtain ⟨e, he, hR1⟩ := bs_ hR1
   refine wl0 rfl (op_iaddr hf H Tryz.underlying47 TF.sz3 0 rfl rfl rfl he (by decide) fun p o cs a hf hr H => ?_)
   obtain rfl := hr
   refine oq hf (rq_loadI hf H TF.ls3 0 0 rfl rfl rfl) fun a hf => ?_
   refine pz 2 hf fun a hf => ?_
   refine wl_end (then_n (sq ?_))
   obtain ⟨c2, hGc2, hR1⟩ := bs_ hR1
   have fh := hf.prune [0, 1, 7, 8, 9] rfl
   have Hm := H.lt_ [] [] [] [1]
   refine midF 31 (.bool c2) fh Hm ?_ fun a w hf H => ?_
   ·refine reg (pz 3 hf fun a hf => ?_)
    obtain ⟨y, hy, hGc2⟩ := bs_ hGc2
    refine oc hf TF.cl84 (impl_within_ok (S := TT) mk_int mk_int mk_int hy) fun v w a hp hf => ?_
    obtain ⟨hb, hp⟩ := hp
    obtain rfl := VR_bool hp
    have H := H.keep hb
    refine pz 2 hf fun a hf => ?_
    refine iteB hGc2 (fun hc2 hGc2 => ?_) fun hc2 hGc2 => ?_
    ·have hf := hf.lit 19 rfl hc2
     refine pz 3 hf fun a hf => ?_
     refine wlsu hf rfl rfl rfl rfl (by decide) fun a hf => ?_
     refine wlsu hf rfl rfl rfl rfl (by decide) fun a hf => ?_
     refine wlsu hf rfl rfl rfl rfl (by decide) fun a hf => ?_
     refine wlsu hf rfl rfl rfl rfl (by decide) fun a hf => ?_
     refine wlsu hf rfl rfl rfl rfl (by decide) fun a hf => ?_
     refine wlsu hf rfl rfl rfl rfl (by decide) fun a hf => ?_
     refine wlsu hf rfl rfl rfl rfl (by decide) fun a hf => ?_
     refine pz 2 hf fun a hf => ?_
     obtain rfl := oi hGc2
     have hf := hf.pn [31, 0, 1, 7, 8, 9]
     have H := H.lt_ [] [] [] [1]
     exact wl_end ⟨hf, H⟩
    ·have hf := hf.lit 19 rfl hc2
     refine pz 3 hf fun a hf => ?_
     refine iteB hGc2 (fun hc3 hGc2 => ?_) fun hc3 hGc2 => ?_
     ·have hf := hf.lit 22 rfl hc3
      refine pz 3 hf fun a hf => ?_
      obtain ⟨e2, he2, hGc2⟩ := bs_ hGc2
      refine wlg hf rfl rfl rfl (op_iaddr hf H Tryz.underlying47 TF.sz3 1 rfl rfl rfl he2 (by decide) fun p2 o2 cs2 a hf hr2 H => ?_)
      obtain rfl := hr2
      refine wlg hf rfl rfl rfl (op_q hf (rq_loadI hf H TF.ls3 0 0 rfl rfl rfl) rfl (by decide) fun a hf => ?_)
      refine pz 4 hf fun a hf => ?_
      obtain rfl := oi hGc2
      have hf := hf.pn [31, 0, 1, 7, 8, 9]
      have H := H.lt_ [] [] [] [2]
      exact wl_end ⟨hf, H⟩
     ·have hf := hf.lit 22 rfl hc3
      refine pz 9 hf fun a hf => ?_
      obtain rfl := oi hGc2
      have hf := hf.pn [31, 0, 1, 7, 8, 9]
      have H := H.lt_ [] [] [] [1]
      exact wl_end ⟨hf, H⟩
   refine then_n (ib hR1 hf (fun hc4 hR1 => ?_) fun hc4 hR1 => ?_)
   ·refine sqz (pz 1 hf fun a hf => ?_)
    refine wl_end (then_n (wp_ret (blk_r (then_r (then_r (blk_r (then_r (then_r (?_)))))))))
    obtain rfl := oi hR1
    replace hF := on_ret hF
    obtain rfl := oi hF
    refine rT hf ?_
    exact ⟨_, rfl, H.bel, mk_bool⟩
   ·refine wp_skip (blk_n (then_n (reg (pz 2 hf fun a hf => ?_))))
    refine wl_end ?_
    have hf := hf.pn [0, 1, 7, 8, 9]
    have H := H.lt_ [] [] [] [0]
    exact then_n ⟨w64 (i + 1), hR1, hf, H⟩
  ·refine wp_exit (then_x (then_x (blk_e (?_))))
   have hf := hf.pn [0, 1, 7, 8, 9]
   have H := H.lt_ [] [] [] [0]
   exact ⟨i, (Option.some.inj hR1).symm, hf, H⟩
 rintro a w ⟨i2, rfl, hf, H⟩
 replace hF := on_next hF
 refine then_n (sqz (pz 1 hf fun a hf => ?_))
 refine wer ?_
 obtain rfl := oi hF
 refine rT hf ?_
 exact ⟨_, rfl, H.bel, mk_bool⟩
theorem impl_greedy_c1_ok {S : Nat → Prop} {v0_ : Value} {b1 o1 : Nat} {cs1 : List Value} {k' : Int} {cap : List Bool} {r : Bool} (h0 : VR w0 S v0_ k') (hp1 : (MP.cells ⟨b1, o1, none⟩ cs1).pred w0 S) (hr1 : GoTy.rep w0 S cs1 cap) (hF : impl_greedy_c1 fu k' cap = some r) :
    Calls Tryz.prog 147 [v0_, (.pointer (some ⟨b1, o1, none⟩))].toArray w0 fun e w' => ∃ v, e = .returned v ∧ (Below w0.heap.size w0 w' ∧ VR w' (St ⟨w0, []⟩ S [] [] [] true) v r) := by
 obtain rfl := VR_int h0
 obtain ⟨A, c, rfl, hl⟩ := list_cells hr1
 have H := Mem.start ⟨w0, []⟩ S
 have H := H.pA hl
 have H := H.pushArg (MP.cells ⟨b1, o1, none⟩ [(.slice A cap.length c)]) hp1
 refine en Tryz.func147 fun a hf => ?_
 rw [impl_greedy_c1] at hF
 refine sqz (pz 1 hf fun a hf => ?_)
 refine wr (oq hf (rq_loadI hf H TF.ls131 0 0 rfl rfl rfl) fun a hf => ?_)
 refine pz 1 hf fun a hf => ?_
 obtain ⟨e, he, hF⟩ := bs_ hF
 refine wl0 rfl (op_iaddr hf H Tryz.underlying131 TF.sz4 1 rfl rfl rfl he (by decide) fun p o3 cs3 a hf hr3 H => ?_)
 obtain rfl := hr3
 refine oq hf (rq_loadI hf H TF.ls4 0 0 rfl rfl rfl) fun a hf => ?_
 refine pz 1 hf fun a hf => ?_
 refine wer ?_
 obtain rfl := oi hF
 refine rT hf ?_
 exact ⟨_, rfl, H.bel, mk_bool⟩
theorem impl_isFree_of_greedy_c1_ok {S : Nat → Prop} {v0_ : Value} {v1_ : Value} {v2_ : Value} {v3_ : Value} {b4_0 o4_0 : Nat} {cs4_0 : List Value} {list : List Request} {blocks : List Block} {i : Int} {b6 : Block} {cap : List Bool} {r : Bool} (h0 : VR w0 S v0_ list) (h1 : VR w0 S v1_ blocks) (h2 : VR w0 S v2_ i) (h3 : VR w0 S v3_ b6) (hp4_0 : (MP.cells ⟨b4_0, o4_0, none⟩ cs4_0).pred w0 S) (hr4_0 : GoTy.rep w0 S cs4_0 cap) (hF : impl_isFree_of_greedy_c1 fu list blocks i b6 cap = some r) :
    Calls Tryz.prog 72 [v0_, v1_, v2_, v3_, (.func (.func 147) #[] #[(.pointer (some ⟨b4_0, o4_0, none⟩))])].toArray w0 fun e w' => ∃ v, e = .returned v ∧ (Below w0.heap.size w0 w' ∧ VR w' (St ⟨w0, []⟩ S [] [] [] true) v r) := by
 obtain ⟨A, c, rfl, hl⟩ := VR_list h0
 obtain ⟨A2, c2, rfl, hl2⟩ := VR_list h1
 obtain rfl := VR_int h2
 obtain rfl := Block_open h3
 obtain ⟨A3, c3, rfl, hl3⟩ := list_cells hr4_0
 have H := Mem.start ⟨w0, []⟩ S
 have H := H.pA hl
 have H := H.pA hl2
 have H := H.pA hl3
 have H := H.pushArg (MP.cells ⟨b4_0, o4_0, none⟩ [(.slice A3 cap.length c3)]) hp4_0
 refine en Tryz.func72 fun a hf => ?_
 rw [impl_isFree_of_greedy_c1] at hF
 refine bx hf H fun b7 a w hf H => ?_
 refine pz 1 hf fun a hf => ?_
 refine we (sqz (pz 3 hf fun a hf => ?_))
 refine wl_end (then_n ?_)
 obtain ⟨out', hB1, hF⟩ := bs_ hF
 have hf := hf.pn [0, 1, 2, 4, 8, 13, 14]
 have H := H.lt_ [true] [] [] [0, 1, 2, 3]
 refine loopC (fun (s : Int) (a : Act) (w : World) => match s with | i2 => Fr a 48 [(0, (.slice A list.length c)), (1, (.slice A2 blocks.length c2)), (2, (.int .i64 i)), (4, (.func (.func 147) #[] #[(.pointer (some ⟨b4_0, o4_0 + 0, none⟩))])), (8, (.pointer (some ⟨b7, 0, none⟩))), (13, (.int .i64 (list.length : Int))), (14, (.int .i64 i2))] ∧ Mem ⟨w0, []⟩ S [⟨b7, 71, [(.int .i64 b6.First), (.int .i64 b6.Count)]⟩] [] [] [(false, MP.cells ⟨b4_0, o4_0, none⟩ [(.slice A3 cap.length c3)]), (false, MP.val [(.slice A3 cap.length c3)] (cap : List Bool)), (false, MP.val [(.slice A2 blocks.length c2)] (blocks : List Block)), (false, MP.val [(.slice A list.length c)] (list : List Request))] w) (fun k (s : Int) => impl_isFree_of_greedy_c1_L1 fu list blocks i b6 cap k s = some out') (fun s => out' = Out.next s) 0 fu hB1 ⟨hf, H⟩ (fun s h => by cases h) ?_ ?_
 ·rintro fk i2 a w hR1 hI
  replace hR1 : impl_isFree_of_greedy_c1_L1 fu list blocks i b6 cap (fk + 1) i2 = some out' := hR1
  rw [impl_isFree_of_greedy_c1_L1] at hR1
  obtain ⟨hf, H⟩ := hI
  refine sqz (pz 1 hf fun a hf => ?_)
  refine wl_end (then_n (sq (ib hR1 hf (fun hc hR1 => ?_) fun hc hR1 => ?_)))
  ·refine ws (pz 2 hf fun a hf => ?_)
   refine wl_end (then_n (sq ?_))
   obtain ⟨c4, hGc4, hR1⟩ := bs_ hR1
   have fh := hf.prune [0, 1, 2, 4, 8, 13, 14] rfl
   have Hm := H.lt_ [true] [] [] [0, 1, 2, 3]
   refine midF 46 (.bool c4) fh Hm ?_ fun a w hf H => ?_
   ·refine dw [] 30 fun w hb => ?_
    have H := H.keep hb
    refine zp 0 hf trivial fun a hf => ?_
    refine zp 1 hf trivial fun a hf => ?_
    refine zp 2 hf trivial fun a hf => ?_
    refine zp 3 hf trivial fun a hf => ?_
    refine iteB hGc4 (fun hc2 hGc4 => ?_) fun hc2 hGc4 => ?_
    ·have hf := hf.lit 20 rfl hc2
     refine zg 4 hf trivial fun a hf => ?_
     refine zg 5 hf trivial fun a hf => ?_
     obtain ⟨y, hy, hGc4⟩ := bs_ hGc4
     refine n1g 6 (by kernel_rfl) rfl rfl rfl rfl hf (op_callV hf TF.cl147 rfl rfl (by decide) (impl_greedy_c1_ok (S := TT) mk_int (mp_true (H.get 0 rfl)) (H.rt 1 rfl) hy) fun v w a hp6 hf => ?_)
     obtain ⟨hb, hp6⟩ := hp6
     obtain rfl := VR_bool hp6
     have H := H.keep hb
     refine ⟨fun _ => trivial, ?_⟩
     refine zp 7 hf trivial fun a hf => ?_
     refine zp 8 hf trivial fun a hf => ?_
     refine iteB hGc4 (fun hc3 hGc4 => ?_) fun hc3 hGc4 => ?_
     ·have hf := hf.lit 25 rfl hc3
      refine zg 9 hf trivial fun a hf => ?_
      refine zg 10 hf trivial fun a hf => ?_
      obtain ⟨e, he, hGc4⟩ := bs_ hGc4
      obtain ⟨p, o6, cs6, hx, hr6, H⟩ := pre_iaddr H Tryz.underlying46 TF.sz61 3 rfl he
      refine tPg 11 rfl rfl rfl rfl rfl rfl hf (by kernel_rfl) (fun _ => trivial) (fun w => rq_iaddrE hf rfl rfl rfl hx w) fun a hf => ?_
      obtain ⟨A4, c5, rfl, hl4⟩ := Request_cells hr6
      have H := H.pF hl4
      refine strT (H.lt_ [false] [] [] [1]) (fun w H => trivial) fun hS => ?_
      refine tSg 12 [] rfl rfl rfl rfl rfl rfl hf (by kernel_rfl) (by kernel_rfl) hS (fun w H => rq_loadIN hf H TF.la61 0 0 rfl rfl rfl rfl) fun a hf => ?_
      refine zg 13 hf hS fun a hf => ?_
      refine zg 14 hf hS fun a hf => ?_
      obtain ⟨e2, he2, hGc4⟩ := bs_ hGc4
      obtain ⟨p2, o7, cs7, hx2, hr7, H⟩ := pre_iaddr H Tryz.underlying46 TF.sz61 5 rfl he2
      refine tPg 15 rfl rfl rfl rfl rfl rfl hf (by kernel_rfl) (fun _ => hS) (fun w => rq_iaddrE hf rfl rfl rfl hx2 w) fun a hf => ?_
      obtain ⟨A5, c6, rfl, hl5⟩ := Request_cells hr7
      have H := H.pF hl5
      refine strT (H.lt_ [false] [] [] [1, 3]) (fun w H => H.lt_ [] [] [] [1]) fun hS => ?_
      refine tSg 16 [] rfl rfl rfl rfl rfl rfl hf (by kernel_rfl) (by kernel_rfl) hS (fun w H => rq_loadIN hf H TF.la61 0 0 rfl rfl rfl rfl) fun a hf => ?_
      obtain ⟨y2, hy2, hGc4⟩ := bs_ hGc4
      refine n1g 17 (by kernel_rfl) rfl rfl rfl rfl hf (oC hf TF.cl143 (impl_conflict_ok (S := TT) (Request_mkv (x := e) (H.rt 2 rfl)) (Request_mkv (x := e2) (H.rt 0 rfl)) hy2) fun v2 w a hp7 hf => ?_)
      obtain ⟨hb2, hp7⟩ := hp7
      obtain rfl := VR_bool hp7
      have H := H.keep hb2
      have hS := H.lt_ [false] [] [] [1, 3]
      refine aS hS ?_
      refine zp 18 hf hS fun a hf => ?_
      refine zp 19 hf hS fun a hf => ?_
      refine iteB hGc4 (fun hc4 hGc4 => ?_) fun hc4 hGc4 => ?_
      ·have hf := hf.lit 36 rfl hc4
       refine strT (H.lt_ [true] [] [] [1, 3]) (fun w H => H.lt_ [false] [] [] [0, 1]) fun hS => ?_
       refine tSg 20 [] rfl rfl rfl rfl rfl rfl hf (by kernel_rfl) (by kernel_rfl) hS (fun w H => rq_loadBN hf H TF.la71 0 rfl rfl rfl rfl) fun a hf => ?_
       refine zg 22 hf hS fun a hf => ?_
       refine zg 23 hf hS fun a hf => ?_
       obtain ⟨e3, he3, hGc4⟩ := bs_ hGc4
       obtain ⟨p3, o8, cs8, hx3, hr8, H⟩ := pre_iaddr H Tryz.underlying50 TF.sz71 6 rfl he3
       refine tPg 24 rfl rfl rfl rfl rfl rfl hf (by kernel_rfl) (fun _ => hS) (fun w => rq_iaddrE hf rfl rfl rfl hx3 w) fun a hf => ?_
       obtain rfl := Block_cells hr8
       refine strT (H.lt_ [true] [] [] [0, 2, 4]) (fun w H => H.lt_ [true] [] [] [1, 2]) fun hS => ?_
       refine tSg 25 [] rfl rfl rfl rfl rfl rfl hf (by kernel_rfl) (by kernel_rfl) hS (fun w H => rq_loadIN hf H TF.la71 0 0 rfl rfl rfl rfl) fun a hf => ?_
       obtain ⟨y3, hy3, hGc4⟩ := bs_ hGc4
       refine n1g 21 (by kernel_rfl) rfl rfl rfl rfl hf (oC hf TF.cl144 (impl_maskOf_ok (S := TT) Block_mkv hy3) fun v3 w a hp8 hf => ?_)
       obtain ⟨hb3, hp8⟩ := hp8
       obtain rfl := VR_int hp8
       have H := H.keep hb3
       have hS := H.lt_ [true] [] [] [0, 2, 4]
       refine aS hS ?_
       obtain ⟨y4, hy4, hGc4⟩ := bs_ hGc4
       refine n1g 26 (by kernel_rfl) rfl rfl rfl rfl hf (oC hf TF.cl144 (impl_maskOf_ok (S := TT) Block_mkv hy4) fun v4 w a hp9 hf => ?_)
       obtain ⟨hb4, hp9⟩ := hp9
       obtain rfl := VR_int hp9
       have H := H.keep hb4
       have hS := H.lt_ [true] [] [] [0, 2, 4]
       refine aS hS ?_
       refine zg 27 hf hS fun a hf => ?_
       refine zg 28 hf hS fun a hf => ?_
       refine zp 29 hf hS fun a hf => ?_
       refine dk ?_
       obtain rfl := oi hGc4
       have hf := hf.pn [46, 0, 1, 2, 4, 8, 13, 14]
       have H := H.lt_ [true] [] [] [5, 6, 7, 8]
       exact ⟨hf, H⟩
      ·have hf := hf.lit 36 rfl hc4
       refine zU 20 hf hS fun a hf => ?_
       refine zU 21 hf hS fun a hf => ?_
       refine zU 22 hf hS fun a hf => ?_
       refine zU 23 hf hS fun a hf => ?_
       refine zU 24 hf hS fun a hf => ?_
       refine zU 25 hf hS fun a hf => ?_
       refine zU 26 hf hS fun a hf => ?_
       refine zU 27 hf hS fun a hf => ?_
       refine zU 28 hf hS fun a hf => ?_
       refine zp 29 hf hS fun a hf => ?_
       refine dk ?_
       obtain rfl := oi hGc4
       have hf := hf.pn [46, 0, 1, 2, 4, 8, 13, 14]
       have H := H.lt_ [true] [] [] [4, 5, 6, 7]
       exact ⟨hf, H⟩
     ·have hf := hf.lit 25 rfl hc3
      refine zU 9 hf trivial fun a hf => ?_
      refine zU 10 hf trivial fun a hf => ?_
      refine zU 11 hf trivial fun a hf => ?_
      refine zU 12 hf trivial fun a hf => ?_
      refine zU 13 hf trivial fun a hf => ?_
      refine zU 14 hf trivial fun a hf => ?_
      refine zU 15 hf trivial fun a hf => ?_
      refine zU 16 hf trivial fun a hf => ?_
      refine zU 17 hf trivial fun a hf => ?_
      refine zp 18 hf trivial fun a hf => ?_
      refine zp 19 hf trivial fun a hf => ?_
      refine zU 20 hf trivial fun a hf => ?_
      refine zU 21 hf trivial fun a hf => ?_
      refine zU 22 hf trivial fun a hf => ?_
      refine zU 23 hf trivial fun a hf => ?_
      refine zU 24 hf trivial fun a hf => ?_
      refine zU 25 hf trivial fun a hf => ?_
      refine zU 26 hf trivial fun a hf => ?_
      refine zU 27 hf trivial fun a hf => ?_
      refine zU 28 hf trivial fun a hf => ?_
      refine zp 29 hf trivial fun a hf => ?_
      refine dk ?_
      obtain rfl := oi hGc4
      have hf := hf.pn [46, 0, 1, 2, 4, 8, 13, 14]
      have H := H.lt_ [true] [] [] [0, 1, 2, 3]
      exact ⟨hf, H⟩
    ·have hf := hf.lit 20 rfl hc2
     refine zU 4 hf trivial fun a hf => ?_
     refine zU 5 hf trivial fun a hf => ?_
     refine zU 6 hf trivial fun a hf => ?_
     refine zp 7 hf trivial fun a hf => ?_
     refine zp 8 hf trivial fun a hf => ?_
     refine zU 9 hf trivial fun a hf => ?_
     refine zU 10 hf trivial fun a hf => ?_
     refine zU 11 hf trivial fun a hf => ?_
     refine zU 12 hf trivial fun a hf => ?_
     refine zU 13 hf trivial fun a hf => ?_
     refine zU 14 hf trivial fun a hf => ?_
     refine zU 15 hf trivial fun a hf => ?_
     refine zU 16 hf trivial fun a hf => ?_
     refine zU 17 hf trivial fun a hf => ?_
     refine zp 18 hf trivial fun a hf => ?_
     refine zp 19 hf trivial fun a hf => ?_
     refine zU 20 hf trivial fun a hf => ?_
     refine zU 21 hf trivial fun a hf => ?_
     refine zU 22 hf trivial fun a hf => ?_
     refine zU 23 hf trivial fun a hf => ?_
     refine zU 24 hf trivial fun a hf => ?_
     refine zU 25 hf trivial fun a hf => ?_
     refine zU 26 hf trivial fun a hf => ?_
     refine zU 27 hf trivial fun a hf => ?_
     refine zU 28 hf trivial fun a hf => ?_
     refine zp 29 hf trivial fun a hf => ?_
     refine dk ?_
     obtain rfl := oi hGc4
     have hf := hf.pn [46, 0, 1, 2, 4, 8, 13, 14]
     have H := H.lt_ [true] [] [] [0, 1, 2, 3]
     exact ⟨hf, H⟩
   refine then_n (ib hR1 hf (fun hc5 hR1 => ?_) fun hc5 hR1 => ?_)
   ·refine sqz (pz 1 hf fun a hf => ?_)
    refine wl_end (then_n (wp_ret (blk_r (then_r (then_r (blk_r (then_r (then_r (?_)))))))))
    obtain rfl := oi hR1
    replace hF := on_ret hF
    obtain rfl := oi hF
    refine rT hf ?_
    exact ⟨_, rfl, H.bel, mk_bool⟩
   ·refine wp_skip (blk_n (then_n (reg (pz 2 hf fun a hf => ?_))))
    refine wl_end ?_
    have hf := hf.pn [0, 1, 2, 4, 8, 13, 14]
    have H := H.lt_ [true] [] [] [0, 1, 2, 3]
    exact then_n ⟨w64 (i2 + 1), hR1, hf, H⟩
  ·refine wp_exit (then_x (then_x (blk_e (?_))))
   have hf := hf.pn [0, 1, 2, 4, 8, 13, 14]
   have H := H.lt_ [true] [] [] [0, 1, 2, 3]
   exact ⟨i2, (Option.some.inj hR1).symm, hf, H⟩
 rintro a w ⟨i3, rfl, hf, H⟩
 replace hF := on_next hF
 refine then_n (sqz (pz 1 hf fun a hf => ?_))
 refine wer ?_
 obtain rfl := oi hF
 refine rT hf ?_
 exact ⟨_, rfl, H.bel, mk_bool⟩
end AT
