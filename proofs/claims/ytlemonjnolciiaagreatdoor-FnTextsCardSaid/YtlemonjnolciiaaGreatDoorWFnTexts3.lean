/- The Go functions do what is told of them, by program (gen.py). -/
import Derived.Test.YtlemonjnolciiaaGreatDoorWFnTexts2
set_option linter.unusedVariables false
set_option linter.unusedSimpArgs false
set_option maxRecDepth 100000
set_option maxHeartbeats 1000000
namespace AT
open Go Go.RowKit Go.Proofs
variable {fu : Nat} {w0 : World}
theorem spec_l1Cur_plan_ok {S : Nat → Prop} {b0 : Nat} {cs0 : List Value} {c : L1CurP} {r : Plan × L1CurP} (hp0 : w0.heap[b0]? = some (.cells cs0.toArray 87 (0, 0))) (hr0 : GoTy.rep w0 S cs0 c) (hS0 : ¬ S b0) (hF : spec_l1Cur_plan fu c = some r) :
    Calls Tryz.prog 50 [(.pointer (some ⟨b0, 0, none⟩))].toArray w0 fun e w' => ∃ v, e = .returned v ∧ (∃ cs', GoTy.rep w' (fun _ => True) cs' r.2 ∧ (cs'[0]? = cs0[0]? ∧ r.2.code = c.code) ∧ (∃ (A0_0 : Option Addr) (c0_0 : Nat) (F0_0 : List Nat) (A0_1 : Option Addr) (c0_1 : Nat) (F0_1 : List Nat) (A0_2 : Option Addr) (c0_2 : Nat) (E0_2 : Go.TypeId), v = (.agg #[(.slice A0_0 r.1.Network.Nodes.length c0_0), (.slice A0_1 r.1.Network.Fibers.length c0_1), (.slice A0_2 r.1.Lights.length c0_2)]) ∧ Mem ⟨w0, [b0]⟩ S [⟨b0, 87, cs'⟩] [⟨.sh true, E0_2, A0_2, c0_2, (r.1.Lights : List Light)⟩] [⟨F0_0, MP.own F0_0 [(.slice A0_0 r.1.Network.Nodes.length c0_0)] (r.1.Network.Nodes : List ByteArray)⟩, ⟨F0_1, MP.own F0_1 [(.slice A0_1 r.1.Network.Fibers.length c0_1)] (r.1.Network.Fibers : List Fiber)⟩] [] w')) := by
 obtain ⟨A, c2, rfl, hl⟩ := L1CurP_cells hr0
 have H := Mem.startB S hp0
 have H := H.pB hS0 hl
 refine en Tryz.func50 fun a hf => ?_
 rw [spec_l1Cur_plan] at hF
 refine sq (reg (aL hf H TF.zv53 fun b2 a w hf H => ?_))
 refine wr (pz 1 hf fun a hf => ?_)
 obtain ⟨y, hy, hF⟩ := bs_ hF
 refine oc hf TF.cl87 (spec_l1Cur_linked_ok (S := NB b0) (H.boxAt 1 rfl) ((L1CurP_mk (x := c) (H.nb 1 rfl (H.get 0 rfl)))) (fun h => h rfl) hy) fun v w a hp2 hf => ?_
 obtain ⟨hch, cs2, hbx, hr2, ⟨hx, hx2⟩, hs⟩ := hp2
 obtain ⟨F, hp3, hN⟩ := hs
 obtain ⟨A2, c3, F2, A3, c4, F3, rfl, rfl, hl2, hl3⟩ := Network_vo hp3
 obtain ⟨A4, c5, rfl, hl4⟩ := L1CurP_cells hr2
 obtain ⟨rfl, rfl⟩ := fx_slice hx rfl rfl
 have H := H.bO2 1 rfl hch hbx hN hl2 hl3
 have H := H.pX 0 rfl hx2
 have H := H.lend 0 rfl
 have H := H.lend 1 rfl
 refine oq hf (rq_build hf (cs := [(.slice A2 y.1.Nodes.length c3), (.slice A3 y.1.Fibers.length c4), (.slice none 0 0)]) rfl (fun w => by kernel_rfl)) fun a hf => ?_
 refine aL hf H TF.zv53 fun b3 a w hf H => ?_
 refine sB 0 hf H TF.sz53 fun w H => ?_
 refine we (sqz (pz 1 hf fun a hf => ?_))
 obtain ⟨y2, hy2, hF⟩ := bs_ hF
 refine oc hf TF.cl75 (spec_l1Cur_pick_ok (S := NB b0) (H.boxAt 2 rfl) ((L1CurP_mk (x := y.2) (H.nb 2 rfl (H.get 2 rfl)))) (fun h => h rfl) mk_int hy2) fun v2 w a hp4 hf => ?_
 obtain ⟨hch2, cs3, hbx2, hr3, ⟨hx3, hx4⟩, hs2⟩ := hp4
 obtain rfl := VR_int hs2
 obtain ⟨A5, c6, rfl, hl5⟩ := L1CurP_cells hr3
 obtain ⟨rfl, rfl⟩ := fx_slice hx3 rfl rfl
 have hx5 := hx4.trans hx2
 have H := H.wroteBox 2 rfl hch2 hbx2
 have H := H.pX 2 rfl hx4
 refine pz 1 hf fun a hf => ?_
 refine wl_end (then_n ?_)
 have H := H.nilRow (Light) (.ow []) rfl rfl 80
 have H := H.rowSh 0 rfl
 obtain ⟨out', hB1, hF⟩ := bs_ hF
 have hf := hf.pn [0, 2, 3, 4]
 have H := H.frontD 1 rfl
 have H := H.lm 7 1 3 3 7
 refine loopC (fun (s : Int × List ByteArray × List Fiber × List Light × List By × Int × U64) (a : Act) (w : World) => match s with | (n', m, m2, m3, m4, m5, m6) => ∃ (A6 : Option Addr) (c7 : Nat) (F4 : List Nat) (A7 : Option Addr) (c8 : Nat) (F5 : List Nat) (A8 : Option Addr) (c9 : Nat) (E : Go.TypeId), m4 = c.code ∧ Fr a 61 [(0, (.pointer (some ⟨b0, 0, none⟩))), (2, (.pointer (some ⟨b2, 0, none⟩))), (3, (.pointer (some ⟨b3, 0, none⟩))), (4, (.int .i64 n'))] ∧ Mem ⟨w0, [b0]⟩ S [⟨b3, 53, [(.slice A6 m.length c7), (.slice A7 m2.length c8), (.slice A8 m3.length c9)]⟩, ⟨b2, 53, [(.slice none 0 0), (.slice none 0 0), (.slice none 0 0)]⟩, ⟨b0, 87, [(.slice A m4.length c2), (.int .i64 m5), (.int .u64 m6.n)]⟩] [⟨.sh true, E, A8, c9, (m3 : List Light)⟩] [⟨F5, MP.own F5 [(.slice A7 m2.length c8)] (m2 : List Fiber)⟩, ⟨F4, MP.own F4 [(.slice A6 m.length c7)] (m : List ByteArray)⟩] [(false, MP.val [(.slice A m4.length c2)] (m4 : List By)), (true, MP.val [(.slice A7 m2.length c8)] (m2 : List Fiber)), (true, MP.val [(.slice A6 m.length c7)] (m : List ByteArray))] w) (fun k (s : Int × List ByteArray × List Fiber × List Light × List By × Int × U64) => spec_l1Cur_plan_L1 fu k s.1 s.2.1 s.2.2.1 s.2.2.2.1 s.2.2.2.2.1 s.2.2.2.2.2.1 s.2.2.2.2.2.2 = some out') (fun s => out' = s) (y2.1, y.1.Nodes, y.1.Fibers, ([] : List Light), y2.2.code, y2.2.at_, y2.2.seed) fu hB1 ⟨A2, c3, F2, A3, c4, F3, none, 0, 80, hx5, hf, H⟩ (fun s h => by cases h) ?_ ?_
 ·rintro fk ⟨n', m, m2, m3, m4, m5, m6⟩ a w hR1 hI
  replace hR1 : spec_l1Cur_plan_L1 fu (fk + 1) n' m m2 m3 m4 m5 m6 = some out' := hR1
  rw [spec_l1Cur_plan_L1] at hR1
  obtain ⟨A6, c7, F4, A7, c8, F5, A8, c9, E, hsm, hf, H⟩ := hI
  refine sq (sqz (pz 2 hf fun a hf => ?_))
  refine wl_end (then_n (ib hR1 hf (fun hc hR1 => ?_) fun hc hR1 => ?_))
  ·refine ws (pz 2 hf fun a hf => ?_)
   refine lN 0 hf H TF.la27 fun a hf => ?_
   obtain ⟨y3, hy3, hR1⟩ := bs_ hR1
   refine oc hf TF.cl88 (spec_l1Cur_routed_ok (S := NB b0) (H.boxAt 2 rfl) ((L1CurP_mk (x := ({ code := m4, at_ := m5, seed := m6 } : L1CurP)) (H.nb 2 rfl (H.get 0 rfl)))) (fun h => h rfl) (Network_mkv (x := ({ Nodes := m, Fibers := m2 } : Network)) (H.nb 2 rfl (H.get 2 rfl)) (H.nb 2 rfl (H.get 1 rfl))) hy3) fun v3 w a hp5 hf => ?_
   obtain ⟨hch3, cs4, hbx3, hr4, ⟨hx6, hx7⟩, hs3⟩ := hp5
   obtain ⟨F6, hp6, hN2⟩ := hs3
   obtain ⟨A9, c10, F7, rfl, rfl, hl6⟩ := Route_vo hp6
   obtain ⟨A10, c11, rfl, hl7⟩ := L1CurP_cells hr4
   obtain ⟨rfl, rfl⟩ := fx_slice hx6 rfl rfl
   have hx8 := hx7.trans hsm
   have H := H.bO1 2 rfl hch3 hbx3 hN2 hl6
   have H := H.pX 0 rfl hx7
   have H := H.lend 0 rfl
   refine aL hf H TF.zv30 fun b4 a w hf H => ?_
   refine sB 0 hf H TF.sz30 fun w H => ?_
   refine wr (pz 1 hf fun a hf => ?_)
   obtain ⟨y4, hy4, hR1⟩ := bs_ hR1
   refine oc hf TF.cl75 (spec_l1Cur_pick_ok (S := NB b0) (H.boxAt 3 rfl) ((L1CurP_mk (x := y3.2) (H.nb 3 rfl (H.get 1 rfl)))) (fun h => h rfl) mk_int hy4) fun v4 w a hp7 hf => ?_
   obtain ⟨hch4, cs5, hbx4, hr5, ⟨hx9, hx10⟩, hs4⟩ := hp7
   obtain rfl := VR_int hs4
   obtain ⟨A11, c12, rfl, hl8⟩ := L1CurP_cells hr5
   obtain ⟨rfl, rfl⟩ := fx_slice hx9 rfl rfl
   have hx11 := hx10.trans hx8
   have H := H.wroteBox 3 rfl hch4 hbx4
   have H := H.pX 1 rfl hx10
   refine pz 2 hf fun a hf => ?_
   refine wr (lN 1 hf H TF.la53 fun a hf => ?_)
   refine lN 0 hf H TF.la30 fun a hf => ?_
   obtain ⟨y5, hy5, hR1⟩ := bs_ hR1
   refine oc hf TF.cl90 (spec_l9Along_ok (S := TT) (Plan_mkv (x := ({ Network := ({ Nodes := m, Fibers := m2 } : Network), Lights := m3 } : Plan)) (H.rt 5 rfl) (H.rt 4 rfl) (H.rowTrue 0 rfl)) (Route_mkv (x := y3.1) (H.rt 1 rfl)) hy5) fun v5 w a hp8 hf => ?_
   obtain ⟨hb, hp8⟩ := hp8
   obtain rfl := VR_int hp8
   have H := H.keep hb
   refine pz 1 hf fun a hf => ?_
   obtain ⟨y6, hy6, hR1⟩ := bs_ hR1
   refine oc hf TF.cl89 (spec_l8Fits_ok (S := TT) mk_int mk_int hy6) fun v6 w a hp9 hf => ?_
   obtain ⟨hb2, F8, hp10, hN3⟩ := hp9
   obtain ⟨A12, c13, rfl, hl9⟩ := VO_list hp10
   have H := H.aO1 hb2 hN3 hl9
   have H := H.lend 0 rfl
   refine pz 1 hf fun a hf => ?_
   have hf := hf.pn [0, 2, 3, 4, 5, 6, 7]
   refine wr (pz 3 hf fun a hf => ?_)
   refine wl_end (then_n (ib hR1 hf (fun hc2 hR1 => ?_) fun hc2 hR1 => ?_))
   ·refine sqz (pz 1 hf fun a hf => ?_)
    obtain ⟨e, he, hR1⟩ := bs_ hR1
    refine wl0 rfl (op_iaddr hf H Tryz.underlying28 TF.sz3 0 rfl rfl rfl he (by decide) fun p o2 cs6 a hf hr6 H => ?_)
    obtain rfl := hr6
    refine oq hf (rq_loadI hf H TF.ls3 0 0 rfl rfl rfl) fun a hf => ?_
    refine pz 1 hf fun a hf => ?_
    refine we (sqz (pz 1 hf fun a hf => ?_))
    obtain ⟨y7, hy7, hR1⟩ := bs_ hR1
    refine oc hf TF.cl51 (spec_l1Cur_one_ok (S := NB b0) (H.boxAt 3 rfl) ((L1CurP_mk (x := y4.2) (H.nb 3 rfl (H.get 2 rfl)))) (fun h => h rfl) mk_int hy7) fun v7 w a hp11 hf => ?_
    obtain ⟨hch5, cs7, hbx5, hr7, ⟨hx12, hx13⟩, hs5⟩ := hp11
    obtain rfl := VR_bool hs5
    obtain ⟨A13, c14, rfl, hl10⟩ := L1CurP_cells hr7
    obtain ⟨rfl, rfl⟩ := fx_slice hx12 rfl rfl
    have hx14 := hx13.trans hx11
    have H := H.wroteBox 3 rfl hch5 hbx5
    have H := H.pX 2 rfl hx13
    refine wl_end (then_n (ib hR1 hf (fun hc3 hR1 => ?_) fun hc3 hR1 => ?_))
    ·refine reg (pz 4 hf fun a hf => ?_)
     obtain ⟨y8, hy8, hR1⟩ := bs_ hR1
     refine oc hf TF.cl75 (spec_l1Cur_pick_ok (S := NB b0) (H.boxAt 3 rfl) ((L1CurP_mk (x := y7.2) (H.nb 3 rfl (H.get 0 rfl)))) (fun h => h rfl) mk_int hy8) fun v8 w a hp12 hf => ?_
     obtain ⟨hch6, cs8, hbx6, hr8, ⟨hx15, hx16⟩, hs6⟩ := hp12
     obtain rfl := VR_int hs6
     obtain ⟨A14, c15, rfl, hl11⟩ := L1CurP_cells hr8
     obtain ⟨rfl, rfl⟩ := fx_slice hx15 rfl rfl
     have hx17 := hx16.trans hx14
     have H := H.wroteBox 3 rfl hch6 hbx6
     have H := H.pX 0 rfl hx16
     obtain ⟨e2, he2, hR1⟩ := bs_ hR1
     refine wl0 rfl (op_iaddr hf H Tryz.underlying28 TF.sz3 3 rfl rfl rfl he2 (by decide) fun p2 o3 cs9 a hf hr9 H => ?_)
     obtain rfl := hr9
     refine oq hf (rq_loadI hf H TF.ls3 0 0 rfl rfl rfl) fun a hf => ?_
     refine pz 1 hf fun a hf => ?_
     have hf := hf.pn [0, 2, 3, 4, 5, 6, 8]
     refine wl_end (then_n (dw [15] 16 fun w hb => ?_))
     have H := H.keep hb
     refine strT (H.lk 2 0 0 []) (fun w H => trivial) fun hS => ?_
     refine zS 0 [0, 14, 15] rfl rfl rfl rfl hf hS (fun w H => rq_loadBN hf H TF.la53 0 rfl rfl rfl rfl) fun a hf => ?_
     refine zp 1 hf hS fun a hf => ?_
     refine zS 2 [2, 3, 4, 5, 8, 13, 14, 15] rfl rfl rfl rfl hf hS (fun w H => rq_loadB hf H TF.ls51 0 rfl rfl rfl) fun a hf => ?_
     refine zp 3 hf hS fun a hf => ?_
     refine zp 4 hf hS fun a hf => ?_
     refine zp 5 hf hS fun a hf => ?_
     refine zp 6 hf hS fun a hf => ?_
     refine strT (H.lk 3 0 0 []) (fun w H => H.lk 2 0 0 []) fun hS => ?_
     refine zS 9 [9, 13, 14, 15] rfl rfl rfl rfl hf hS (fun w H => rq_loadBN hf H TF.la30 0 rfl rfl rfl rfl) fun a hf => ?_
     refine zp 10 hf hS fun a hf => ?_
     refine zp 11 hf hS fun a hf => ?_
     refine zP 12 rfl rfl rfl rfl hf hS (fun w => rq_build hf (cs := [(.int .i64 e2), (.int .i64 (w64 (1 + y4.1)))]) rfl (fun w => by kernel_rfl)) fun a hf => ?_
     obtain ⟨y9, hy9, hR1⟩ := bs_ hR1
     refine nn 7 rfl (oC hf TF.cl75 (spec_l1Cur_pick_ok (S := NB b0) (H.boxAt 3 rfl) ((L1CurP_mk (x := y8.2) (H.nb 3 rfl (H.get 1 rfl)))) (fun h => h rfl) mk_int hy9) fun v9 w a hp13 hf => ?_)
     obtain ⟨hch7, cs10, hbx7, hr10, ⟨hx18, hx19⟩, hs7⟩ := hp13
     obtain rfl := VR_int hs7
     obtain ⟨A15, c16, rfl, hl12⟩ := L1CurP_cells hr10
     obtain ⟨rfl, rfl⟩ := fx_slice hx18 rfl rfl
     have hx20 := hx19.trans hx17
     have H := H.wroteBox 3 rfl hch7 hbx7
     have H := H.pX 1 rfl hx19
     have hS := H.lk 3 0 0 []
     refine aS hS ?_
     refine zp 8 hf hS fun a hf => ?_
     refine zP 13 rfl rfl rfl rfl hf hS (fun w => rq_build hf (cs := [(.int .i64 (w64 ((w64 ((w64 ((m3.length : Int) * 3)) + 1)) + y9.1))), (.int .i64 y3.1.Start), (.slice A9 y3.1.Fibers.length c10), (.int .i64 e2), (.int .i64 (w64 (1 + y4.1)))]) rfl (fun w => by kernel_rfl)) fun a hf => ?_
     obtain ⟨y10, hy10, hR1⟩ := bs_ hR1
     refine nn 14 rfl (oC hf TF.cl91 (spec_l9Put_ok (S := TT) (Plan_mkv (x := ({ Network := ({ Nodes := m, Fibers := m2 } : Network), Lights := m3 } : Plan)) (H.rt 11 rfl) (H.rt 10 rfl) (H.rowTrue 0 rfl)) (Light_mkv (x := ({ Id := w64 ((w64 ((w64 ((m3.length : Int) * 3)) + 1)) + y9.1), Route := y3.1, Block := ({ First := e2, Count := w64 (1 + y4.1) } : Block) } : Light)) (H.rt 7 rfl)) hy10) fun v10 w a hp14 hf => ?_)
     obtain ⟨A16, c17, F10, A17, c18, F11, A18, c19, E2, rfl, Hc⟩ := hp14
     have H := H.comp Hc (.inl rfl)
     have H := H.lend 0 rfl
     have H := H.lend 1 rfl
     have hS := H.lk 3 0 0 []
     refine aS hS ?_
     refine nn 15 rfl (op_storeB hf H 1 TF.sz53 rfl rfl rfl rfl rfl rfl (nle rfl) fun w H => ?_)
     refine ⟨fun h => absurd h (by decide), ?_⟩
     refine dk ?_
     have hf := hf.pn [0, 2, 3, 4]
     refine blk_n (then_n (reg (pz 3 hf fun a hf => ?_)))
     refine wl_end ?_
     have H := H.lm 15 1 63 14 16383
     have hf := hf.pn [0, 2, 3, 4]
     have H := H.frontD 1 rfl
     have H := H.lk 14 1 3 [2,0,1]
     exact then_n ⟨(w64 (n' - 1), y10.Network.Nodes, y10.Network.Fibers, y10.Lights, y9.2.code, y9.2.at_, y9.2.seed), hR1, A16, c17, F10, A17, c18, F11, A18, c19, E2, hx20, hf, H⟩
    ·refine wp_skip (then_n (dw [15] 16 fun w hb => ?_))
     have H := H.keep hb
     refine strT (H.lk 2 0 0 []) (fun w H => trivial) fun hS => ?_
     refine zS 0 [0, 14, 15] rfl rfl rfl rfl hf hS (fun w H => rq_loadBN hf H TF.la53 0 rfl rfl rfl rfl) fun a hf => ?_
     refine zp 1 hf hS fun a hf => ?_
     refine zS 2 [2, 3, 4, 5, 8, 13, 14, 15] rfl rfl rfl rfl hf hS (fun w H => rq_loadB hf H TF.ls51 0 rfl rfl rfl) fun a hf => ?_
     refine zp 3 hf hS fun a hf => ?_
     refine zp 4 hf hS fun a hf => ?_
     refine zp 5 hf hS fun a hf => ?_
     refine zp 6 hf hS fun a hf => ?_
     refine strT (H.lk 3 0 0 []) (fun w H => H.lk 2 0 0 []) fun hS => ?_
     refine zS 9 [9, 13, 14, 15] rfl rfl rfl rfl hf hS (fun w H => rq_loadBN hf H TF.la30 0 rfl rfl rfl rfl) fun a hf => ?_
     refine zp 10 hf hS fun a hf => ?_
     refine zp 11 hf hS fun a hf => ?_
     refine zP 12 rfl rfl rfl rfl hf hS (fun w => rq_build hf (cs := [(.int .i64 e), (.int .i64 (w64 (1 + y4.1)))]) rfl (fun w => by kernel_rfl)) fun a hf => ?_
     obtain ⟨y11, hy11, hR1⟩ := bs_ hR1
     refine nn 7 rfl (oC hf TF.cl75 (spec_l1Cur_pick_ok (S := NB b0) (H.boxAt 3 rfl) ((L1CurP_mk (x := y7.2) (H.nb 3 rfl (H.get 0 rfl)))) (fun h => h rfl) mk_int hy11) fun v11 w a hp15 hf => ?_)
     obtain ⟨hch8, cs11, hbx8, hr11, ⟨hx21, hx22⟩, hs8⟩ := hp15
     obtain rfl := VR_int hs8
     obtain ⟨A19, c20, rfl, hl13⟩ := L1CurP_cells hr11
     obtain ⟨rfl, rfl⟩ := fx_slice hx21 rfl rfl
     have hx23 := hx22.trans hx14
     have H := H.wroteBox 3 rfl hch8 hbx8
     have H := H.pX 0 rfl hx22
     have hS := H.lk 3 0 0 []
     refine aS hS ?_
     refine zp 8 hf hS fun a hf => ?_
     refine zP 13 rfl rfl rfl rfl hf hS (fun w => rq_build hf (cs := [(.int .i64 (w64 ((w64 ((w64 ((m3.length : Int) * 3)) + 1)) + y11.1))), (.int .i64 y3.1.Start), (.slice A9 y3.1.Fibers.length c10), (.int .i64 e), (.int .i64 (w64 (1 + y4.1)))]) rfl (fun w => by kernel_rfl)) fun a hf => ?_
     obtain ⟨y12, hy12, hR1⟩ := bs_ hR1
     refine nn 14 rfl (oC hf TF.cl91 (spec_l9Put_ok (S := TT) (Plan_mkv (x := ({ Network := ({ Nodes := m, Fibers := m2 } : Network), Lights := m3 } : Plan)) (H.rt 9 rfl) (H.rt 8 rfl) (H.rowTrue 0 rfl)) (Light_mkv (x := ({ Id := w64 ((w64 ((w64 ((m3.length : Int) * 3)) + 1)) + y11.1), Route := y3.1, Block := ({ First := e, Count := w64 (1 + y4.1) } : Block) } : Light)) (H.rt 5 rfl)) hy12) fun v12 w a hp16 hf => ?_)
     obtain ⟨A20, c21, F12, A21, c22, F13, A22, c23, E3, rfl, Hc2⟩ := hp16
     have H := H.comp Hc2 (.inl rfl)
     have H := H.lend 0 rfl
     have H := H.lend 1 rfl
     have hS := H.lk 3 0 0 []
     refine aS hS ?_
     refine nn 15 rfl (op_storeB hf H 1 TF.sz53 rfl rfl rfl rfl rfl rfl (nle rfl) fun w H => ?_)
     refine ⟨fun h => absurd h (by decide), ?_⟩
     refine dk ?_
     have hf := hf.pn [0, 2, 3, 4]
     refine blk_n (then_n (reg (pz 3 hf fun a hf => ?_)))
     refine wl_end ?_
     have H := H.lm 15 1 63 12 4095
     have hf := hf.pn [0, 2, 3, 4]
     have H := H.frontD 1 rfl
     have H := H.lk 14 1 3 [2,0,1]
     exact then_n ⟨(w64 (n' - 1), y12.Network.Nodes, y12.Network.Fibers, y12.Lights, y11.2.code, y11.2.at_, y11.2.seed), hR1, A20, c21, F12, A21, c22, F13, A22, c23, E3, hx23, hf, H⟩
   ·refine wp_skip (blk_n (then_n (reg (pz 3 hf fun a hf => ?_))))
    refine wl_end ?_
    have hf := hf.pn [0, 2, 3, 4]
    have H := H.lm 14 1 12 7 98
    exact then_n ⟨(w64 (n' - 1), m, m2, m3, y4.2.code, y4.2.at_, y4.2.seed), hR1, A6, c7, F4, A7, c8, F5, A8, c9, E, hx11, hf, H⟩
  ·refine wp_exit (then_x (then_x (blk_e (?_))))
   have hf := hf.pn [0, 2, 3, 4]
   have H := H.lm 7 1 3 3 7
   exact ⟨(n', m, m2, m3, m4, m5, m6), (Option.some.inj hR1).symm, A6, c7, F4, A7, c8, F5, A8, c9, E, hsm, hf, H⟩
 rintro a w ⟨⟨n2, m7, m8, m9, m10, m11, m12⟩, rfl, A23, c24, F14, A24, c25, F15, A25, c26, E4, hsm, hf, H⟩
 try dsimp only at hsm
 try dsimp only at hF
 refine then_n (sq (reg (lN 0 hf H TF.la53 fun a hf => ?_)))
 refine sB 1 hf H TF.sz53 fun w H => ?_
 refine wer ?_
 have hcell : GoTy.rep w (fun _ => True) [(.slice A m10.length c2), (.int .i64 m11), (.int .u64 m12.n)] (({ code := m10, at_ := m11, seed := m12 } : L1CurP) : L1CurP) := (L1CurP_mk (x := ({ code := m10, at_ := m11, seed := m12 } : L1CurP)) (H.rt 0 rfl))
 have H := H.frontD 1 rfl
 obtain rfl := oi hF
 refine ret_1 hf rfl (rv_cellN hf H 1 TF.la53 rfl rfl rfl) ?_
 have H := H.lk 4 1 3 []
 exact ⟨_, rfl, _, hcell, ⟨fxc hsm, hsm⟩, A23, c24, F14, A24, c25, F15, A25, c26, E4, rfl, H⟩
theorem spec_l1Cur_anyPlan_ok {S : Nat → Prop} {b0 : Nat} {cs0 : List Value} {c : L1CurP} {r : Plan × L1CurP} (hp0 : w0.heap[b0]? = some (.cells cs0.toArray 87 (0, 0))) (hr0 : GoTy.rep w0 S cs0 c) (hS0 : ¬ S b0) (hF : spec_l1Cur_anyPlan fu c = some r) :
    Calls Tryz.prog 78 [(.pointer (some ⟨b0, 0, none⟩))].toArray w0 fun e w' => ∃ v, e = .returned v ∧ (∃ cs', GoTy.rep w' (fun _ => True) cs' r.2 ∧ (cs'[0]? = cs0[0]? ∧ r.2.code = c.code) ∧ (∃ (A0_0 : Option Addr) (c0_0 : Nat) (F0_0 : List Nat) (A0_1 : Option Addr) (c0_1 : Nat) (F0_1 : List Nat) (A0_2 : Option Addr) (c0_2 : Nat) (E0_2 : Go.TypeId), v = (.agg #[(.slice A0_0 r.1.Network.Nodes.length c0_0), (.slice A0_1 r.1.Network.Fibers.length c0_1), (.slice A0_2 r.1.Lights.length c0_2)]) ∧ Mem ⟨w0, [b0]⟩ S [⟨b0, 87, cs'⟩] [⟨.sh true, E0_2, A0_2, c0_2, (r.1.Lights : List Light)⟩] [⟨F0_0, MP.own F0_0 [(.slice A0_0 r.1.Network.Nodes.length c0_0)] (r.1.Network.Nodes : List ByteArray)⟩, ⟨F0_1, MP.own F0_1 [(.slice A0_1 r.1.Network.Fibers.length c0_1)] (r.1.Network.Fibers : List Fiber)⟩] [] w')) := by
 obtain ⟨A, c2, rfl, hl⟩ := L1CurP_cells hr0
 have H := Mem.startB S hp0
 have H := H.pB hS0 hl
 refine en Tryz.func78 fun a hf => ?_
 rw [spec_l1Cur_anyPlan] at hF
 refine sq (reg (aL hf H TF.zv53 fun b2 a w hf H => ?_))
 refine wr (pz 1 hf fun a hf => ?_)
 obtain ⟨y, hy, hF⟩ := bs_ hF
 refine oc hf TF.cl50 (spec_l1Cur_plan_ok (S := NB b0) (H.boxAt 1 rfl) ((L1CurP_mk (x := c) (H.nb 1 rfl (H.get 0 rfl)))) (fun h => h rfl) hy) fun v w a hp2 hf => ?_
 obtain ⟨cs2, hr2, ⟨hx, hx2⟩, A2, c3, F, A3, c4, F2, A4, c5, E, rfl, Hc⟩ := hp2
 obtain ⟨A5, c6, rfl, hl2⟩ := L1CurP_cells hr2
 obtain ⟨rfl, rfl⟩ := fx_slice hx rfl rfl
 have H := H.compB 1 rfl Hc (.inl rfl)
 have H := H.pX 0 rfl hx2
 have H := H.lend 0 rfl
 have H := H.lend 1 rfl
 refine aL hf H TF.zv53 fun b3 a w hf H => ?_
 refine sB 0 hf H TF.sz53 fun w H => ?_
 refine we (sqz (pz 1 hf fun a hf => ?_))
 refine lB 0 hf H TF.ls51 fun a hf => ?_
 refine pz 2 hf fun a hf => ?_
 refine wl_end (then_n (ib hF hf (fun hc hF => ?_) fun hc hF => ?_))
 ·refine sq (reg (lN 0 hf H TF.la53 fun a hf => ?_))
  refine sB 1 hf H TF.sz53 fun w H => ?_
  refine wl_end (then_n (wp_ret (then_r (?_))))
  have hcell : GoTy.rep w (fun _ => True) [(.slice A y.2.code.length c2), (.int .i64 y.2.at_), (.int .u64 y.2.seed.n)] (y.2 : L1CurP) := (L1CurP_mk (x := y.2) (H.rt 2 rfl))
  have H := H.frontD 1 rfl
  have H := H.frontD 1 rfl
  obtain rfl := oi hF
  refine ret_1 hf rfl (rv_cellN hf H 1 TF.la53 rfl rfl rfl) ?_
  have H := H.lk 4 1 3 []
  exact ⟨_, rfl, _, hcell, ⟨fxc hx2, hx2⟩, A2, c3, F, A3, c4, F2, A4, c5, E, rfl, H⟩
 ·refine wp_skip (then_n (sqz (pz 2 hf fun a hf => ?_)))
  refine lB 0 hf H TF.ls51 fun a hf => ?_
  refine pz 1 hf fun a hf => ?_
  obtain ⟨y2, hy2, hF⟩ := bs_ hF
  refine oc hf TF.cl75 (spec_l1Cur_pick_ok (S := NB b0) (H.boxAt 2 rfl) ((L1CurP_mk (x := y.2) (H.nb 2 rfl (H.get 2 rfl)))) (fun h => h rfl) mk_int hy2) fun v2 w a hp3 hf => ?_
  obtain ⟨hch, cs3, hbx, hr3, ⟨hx3, hx4⟩, hs⟩ := hp3
  obtain rfl := VR_int hs
  obtain ⟨A6, c7, rfl, hl3⟩ := L1CurP_cells hr3
  obtain ⟨rfl, rfl⟩ := fx_slice hx3 rfl rfl
  have hx5 := hx4.trans hx2
  have H := H.wroteBox 2 rfl hch hbx
  have H := H.pX 2 rfl hx4
  refine pz 1 hf fun a hf => ?_
  refine wr (pz 1 hf fun a hf => ?_)
  refine lB 0 hf H TF.ls51 fun a hf => ?_
  refine pz 1 hf fun a hf => ?_
  obtain ⟨e, he, hF⟩ := bs_ hF
  refine wl0 rfl (op_iaddrR hf H Tryz.underlying51 TF.sz80 0 rfl rfl rfl he (by decide) fun p o2 cs4 a hf hA hr4 hk => ?_)
  obtain ⟨A7, c8, rfl, hl4⟩ := Light_cells hr4
  have H := H.pT hl4
  refine oq hf (rq_loadN hf TF.la80 rfl rfl (fun j c hj => hk _ c (by simpa using hj))) fun a hf => ?_
  refine aL hf H TF.zv80 fun b4 a w hf H => ?_
  refine sB 0 hf H TF.sz80 fun w H => ?_
  have hf := hf.pn [0, 2, 3, 4, 5]
  refine we (sqz (pz 1 hf fun a hf => ?_))
  obtain ⟨y3, hy3, hF⟩ := bs_ hF
  refine oc hf TF.cl75 (spec_l1Cur_pick_ok (S := NB b0) (H.boxAt 3 rfl) ((L1CurP_mk (x := y2.2) (H.nb 3 rfl (H.get 1 rfl)))) (fun h => h rfl) mk_int hy3) fun v3 w a hp4 hf => ?_
  obtain ⟨hch2, cs5, hbx2, hr5, ⟨hx6, hx7⟩, hs2⟩ := hp4
  obtain rfl := VR_int hs2
  obtain ⟨A8, c9, rfl, hl5⟩ := L1CurP_cells hr5
  obtain ⟨rfl, rfl⟩ := fx_slice hx6 rfl rfl
  have hx8 := hx7.trans hx5
  have H := H.wroteBox 3 rfl hch2 hbx2
  have H := H.pX 1 rfl hx7
  refine wl_end (then_n (wp_block (sqz (pz 2 hf fun a hf => ?_))))
  refine wl_end (then_n ?_)
  obtain ⟨out', hB1, hF⟩ := bs_ hF
  refine mid (fun a w => ∃ s : Int × List By × Int × U64 × Int × Int × Int × List Int × List Light × List ByteArray × List Fiber, out' = Out.next s ∧ (fun (s : Int × List By × Int × U64 × Int × Int × Int × List Int × List Light × List ByteArray × List Fiber) (a : Act) (w : World) => match s with | (m, m2, m3, m4, m5, m6, m7, m8, m9, m10, m11) => ∃ (A9 : Option Addr) (c10 : Nat) (A10 : Option Addr) (c11 : Nat) (E2 : Go.TypeId) (A11 : Option Addr) (c12 : Nat) (F3 : List Nat) (A12 : Option Addr) (c13 : Nat) (F4 : List Nat), m2 = c.code ∧ Fr a 98 [(2, (.pointer (some ⟨b2, 0, none⟩))), (3, (.pointer (some ⟨b3, 0, none⟩))), (4, (.int .i64 y2.1)), (5, (.pointer (some ⟨b4, 0, none⟩)))] ∧ Mem ⟨w0, [b0]⟩ S [⟨b4, 80, [(.int .i64 m), (.int .i64 m7), (.slice A9 m8.length c10), (.int .i64 m5), (.int .i64 m6)]⟩, ⟨b3, 53, [(.slice A11 m10.length c12), (.slice A12 m11.length c13), (.slice A10 m9.length c11)]⟩, ⟨b2, 53, [(.slice none 0 0), (.slice none 0 0), (.slice none 0 0)]⟩, ⟨b0, 87, [(.slice A m2.length c2), (.int .i64 m3), (.int .u64 m4.n)]⟩] [⟨.sh true, E2, A10, c11, (m9 : List Light)⟩] [⟨F4, MP.own F4 [(.slice A12 m11.length c13)] (m11 : List Fiber)⟩, ⟨F3, MP.own F3 [(.slice A11 m10.length c12)] (m10 : List ByteArray)⟩] [(true, MP.val [(.slice A12 m11.length c13)] (m11 : List Fiber)), (true, MP.val [(.slice A11 m10.length c12)] (m10 : List ByteArray)), (true, MP.val [(.slice A9 m8.length c10)] (m8 : List Int)), (false, MP.val [(.slice A m2.length c2)] (m2 : List By))] w) s a w) ?_ ?_
  ·refine ib hB1 hf (fun hc2 hB1 => ?_) fun hc2 hB1 => ?_
   ·refine reg (pz 1 hf fun a hf => ?_)
    refine wl0 rfl (bl hf H 3 ([0, 999, 1000, 1, 4] : List Int) [(.int .i64 0), (.int .i64 999), (.int .i64 1000), (.int .i64 1), (.int .i64 4)] (elI [0, 999, 1000, 1, 4]) fun A13 a w hf H => ?_)
    have H := H.freeze 0 rfl
    obtain ⟨y4, hy4, hB1⟩ := bs_ hB1
    refine oc hf TF.cl94 (spec_l1Cur_among_ok (S := NB b0) (H.boxAt 3 rfl) ((L1CurP_mk (x := y3.2) (H.nb 3 rfl (H.get 1 rfl)))) (fun h => h rfl) (mk_list (H.nb 3 rfl (H.get 0 rfl))) hy4) fun v4 w a hp5 hf => ?_
    obtain ⟨hch3, cs6, hbx3, hr6, ⟨hx9, hx10⟩, hs3⟩ := hp5
    obtain rfl := VR_int hs3
    obtain ⟨A14, c14, rfl, hl6⟩ := L1CurP_cells hr6
    obtain ⟨rfl, rfl⟩ := fx_slice hx9 rfl rfl
    have hx11 := hx10.trans hx8
    have H := H.wroteBox 3 rfl hch3 hbx3
    have H := H.pX 1 rfl hx10
    refine pz 1 hf fun a hf => ?_
    refine sB 0 hf H TF.sz3 fun w H => ?_
    refine wl_end ?_
    have hf := hf.pn [2, 3, 4, 5]
    have H := H.frontD 1 rfl
    have H := H.lk 15 1 3 [5,6,3,0]
    exact then_n ⟨(y4.1, y4.2.code, y4.2.at_, y4.2.seed, e.Block.First, e.Block.Count, e.Route.Start, e.Route.Fibers, y.1.Lights, y.1.Network.Nodes, y.1.Network.Fibers), (Option.some.inj hB1).symm, A7, c8, A4, c5, E, A2, c3, F, A3, c4, F2, hx11, hf, H⟩
   ·refine sqz (pz 2 hf fun a hf => ?_)
    refine wl_end (then_n (ib hB1 hf (fun hc3 hB1 => ?_) fun hc3 hB1 => ?_))
    ·refine reg (pz 1 hf fun a hf => ?_)
     obtain ⟨y5, hy5, hB1⟩ := bs_ hB1
     refine oc hf TF.cl76 (spec_l1Cur_block_ok (S := NB b0) (H.boxAt 3 rfl) ((L1CurP_mk (x := y3.2) (H.nb 3 rfl (H.get 0 rfl)))) (fun h => h rfl) hy5) fun v5 w a hp6 hf => ?_
     obtain ⟨hch4, cs7, hbx4, hr7, ⟨hx12, hx13⟩, hs4⟩ := hp6
     obtain rfl := Block_open hs4
     obtain ⟨A15, c15, rfl, hl7⟩ := L1CurP_cells hr7
     obtain ⟨rfl, rfl⟩ := fx_slice hx12 rfl rfl
     have hx14 := hx13.trans hx8
     have H := H.wroteBox 3 rfl hch4 hbx4
     have H := H.pX 0 rfl hx13
     refine pz 1 hf fun a hf => ?_
     refine sB 0 hf H TF.sz45 fun w H => ?_
     refine wl_end ?_
     have hf := hf.pn [2, 3, 4, 5]
     have H := H.frontD 1 rfl
     have H := H.lk 15 1 3 [4,5,2,0]
     exact then_n ⟨(e.Id, y5.2.code, y5.2.at_, y5.2.seed, y5.1.First, y5.1.Count, e.Route.Start, e.Route.Fibers, y.1.Lights, y.1.Network.Nodes, y.1.Network.Fibers), (Option.some.inj hB1).symm, A7, c8, A4, c5, E, A2, c3, F, A3, c4, F2, hx14, hf, H⟩
    ·refine sqz (pz 2 hf fun a hf => ?_)
     refine wl_end (then_n (ib hB1 hf (fun hc4 hB1 => ?_) fun hc4 hB1 => ?_))
     ·refine reg (pz 2 hf fun a hf => ?_)
      refine lN 1 hf H TF.la27 fun a hf => ?_
      obtain ⟨y6, hy6, hB1⟩ := bs_ hB1
      refine oc hf TF.cl54 (spec_l1Cur_anyRoute_ok (S := NB b0) (H.boxAt 3 rfl) ((L1CurP_mk (x := y3.2) (H.nb 3 rfl (H.get 0 rfl)))) (fun h => h rfl) (Network_mkv (x := y.1.Network) (H.nb 3 rfl (H.get 4 rfl)) (H.nb 3 rfl (H.get 3 rfl))) hy6) fun v6 w a hp7 hf => ?_
      obtain ⟨hch5, cs8, hbx5, hr8, ⟨hx15, hx16⟩, hs5⟩ := hp7
      obtain ⟨F5, hp8, hN⟩ := hs5
      obtain ⟨A16, c16, F6, rfl, rfl, hl8⟩ := Route_vo hp8
      obtain ⟨A17, c17, rfl, hl9⟩ := L1CurP_cells hr8
      obtain ⟨rfl, rfl⟩ := fx_slice hx15 rfl rfl
      have hx17 := hx16.trans hx8
      have H := H.bO1 3 rfl hch5 hbx5 hN hl8
      have H := H.pX 0 rfl hx16
      have H := H.lend 0 rfl
      refine pz 1 hf fun a hf => ?_
      refine sB 0 hf H TF.sz30 fun w H => ?_
      have hf := hf.pn [2, 3, 4, 5]
      refine wl_end ?_
      have hf := hf.pn [2, 3, 4, 5]
      have H := H.frontD 1 rfl
      have H := H.frontD 2 rfl
      have H := H.lk 15 1 3 [5,6,0,1]
      exact then_n ⟨(e.Id, y6.2.code, y6.2.at_, y6.2.seed, e.Block.First, e.Block.Count, y6.1.Start, y6.1.Fibers, y.1.Lights, y.1.Network.Nodes, y.1.Network.Fibers), (Option.some.inj hB1).symm, A16, c16, A4, c5, E, A2, c3, F, A3, c4, F2, hx17, hf, H⟩
     ·refine sqz (pz 2 hf fun a hf => ?_)
      refine wl_end (then_n (ib hB1 hf (fun hc5 hB1 => ?_) fun hc5 hB1 => ?_))
      ·refine reg (pz 1 hf fun a hf => ?_)
       refine lB 1 hf H TF.ls51 fun a hf => ?_
       refine lN 0 hf H TF.la80 fun a hf => ?_
       refine wl0 rfl (bl hf H 80 ([e] : List Light) [(.int .i64 e.Id), (.int .i64 e.Route.Start), (.slice A7 e.Route.Fibers.length c8), (.int .i64 e.Block.First), (.int .i64 e.Block.Count)] (el1 (y := e) ((Light_mk (x := e) (H.get 1 rfl)))) fun A18 a w hf H => ?_)
       obtain ⟨l, hl_, hB1⟩ := bs_ hB1
       refine wl0 rfl (op_appR hf H Tryz.underlying51 TF.ai80 rfl (by decide) 1 0 rfl rfl rfl rfl (.inr rfl) hl_ (by decide) fun E3 A19 c18 a w hf H => ?_)
       refine pz 1 hf fun a hf => ?_
       refine sB 1 hf H TF.sz51 fun w H => ?_
       have hf := hf.pn [2, 3, 4, 5]
       refine wl_end ?_
       have H := H.lm 15 2 3 7 127
       have hf := hf.pn [2, 3, 4, 5]
       have H := H.frontD 1 rfl
       have H := H.lk 15 1 3 [3,4,1,0]
       exact then_n ⟨(e.Id, y3.2.code, y3.2.at_, y3.2.seed, e.Block.First, e.Block.Count, e.Route.Start, e.Route.Fibers, l, y.1.Network.Nodes, y.1.Network.Fibers), (Option.some.inj hB1).symm, A7, c8, A19, c18, E3, A2, c3, F, A3, c4, F2, hx8, hf, H⟩
      ·refine sqz (pz 2 hf fun a hf => ?_)
       refine wl_end (then_n (ib hB1 hf (fun hc6 hB1 => ?_) fun hc6 hB1 => ?_))
       ·refine reg (pz 1 hf fun a hf => ?_)
        obtain ⟨y7, hy7, hB1⟩ := bs_ hB1
        refine oc hf TF.cl53 (spec_l1Cur_anyNetwork_ok (S := NB b0) (H.boxAt 3 rfl) ((L1CurP_mk (x := y3.2) (H.nb 3 rfl (H.get 0 rfl)))) (fun h => h rfl) hy7) fun v7 w a hp9 hf => ?_
        obtain ⟨hch6, cs9, hbx6, hr9, ⟨hx18, hx19⟩, hs6⟩ := hp9
        obtain ⟨F7, hp10, hN2⟩ := hs6
        obtain ⟨A20, c19, F8, A21, c20, F9, rfl, rfl, hl10, hl11⟩ := Network_vo hp10
        obtain ⟨A22, c21, rfl, hl12⟩ := L1CurP_cells hr9
        obtain ⟨rfl, rfl⟩ := fx_slice hx18 rfl rfl
        have hx20 := hx19.trans hx8
        have H := H.bO2 3 rfl hch6 hbx6 hN2 hl10 hl11
        have H := H.pX 0 rfl hx19
        have H := H.lend 0 rfl
        have H := H.lend 1 rfl
        refine pz 1 hf fun a hf => ?_
        refine sB 1 hf H TF.sz27 fun w H => ?_
        have hf := hf.pn [2, 3, 4, 5]
        refine wl_end ?_
        have hf := hf.pn [2, 3, 4, 5]
        have H := H.frontD 1 rfl
        have H := H.lk 15 1 3 [0,1,4,2]
        exact then_n ⟨(e.Id, y7.2.code, y7.2.at_, y7.2.seed, e.Block.First, e.Block.Count, e.Route.Start, e.Route.Fibers, y.1.Lights, y7.1.Nodes, y7.1.Fibers), (Option.some.inj hB1).symm, A7, c8, A4, c5, E, A20, c19, F8, A21, c20, F9, hx20, hf, H⟩
       ·refine sqz (pz 2 hf fun a hf => ?_)
        have hf := hf.pn [0, 2, 3, 4, 5, 57]
        refine wl_end (then_n (ib hB1 hf (fun hc7 hB1 => ?_) fun hc7 hB1 => ?_))
        ·refine sq (sqz (pz 1 hf fun a hf => ?_))
         refine wl_end (then_n ?_)
         obtain ⟨out2, hB2, hB1⟩ := bs_ hB1
         have hf := hf.pn [0, 2, 3, 6]
         have H := H.lm 14 1 3 5 25
         refine loopC (fun (s : Int × List Light × List By × Int × U64) (a : Act) (w : World) => match s with | (n', m12, m13, m14, m15) => ∃ (A23 : Option Addr) (c22 : Nat) (E4 : Go.TypeId), m13 = c.code ∧ Fr a 98 [(0, (.pointer (some ⟨b0, 0, none⟩))), (2, (.pointer (some ⟨b2, 0, none⟩))), (3, (.pointer (some ⟨b3, 0, none⟩))), (6, (.int .i64 n'))] ∧ Mem ⟨w0, [b0]⟩ S [⟨b3, 53, [(.slice A2 y.1.Network.Nodes.length c3), (.slice A3 y.1.Network.Fibers.length c4), (.slice A23 m12.length c22)]⟩, ⟨b2, 53, [(.slice none 0 0), (.slice none 0 0), (.slice none 0 0)]⟩, ⟨b0, 87, [(.slice A m13.length c2), (.int .i64 m14), (.int .u64 m15.n)]⟩] [⟨.sh true, E4, A23, c22, (m12 : List Light)⟩] [⟨F, MP.own F [(.slice A2 y.1.Network.Nodes.length c3)] (y.1.Network.Nodes : List ByteArray)⟩, ⟨F2, MP.own F2 [(.slice A3 y.1.Network.Fibers.length c4)] (y.1.Network.Fibers : List Fiber)⟩] [(false, MP.val [(.slice A m13.length c2)] (m13 : List By)), (true, MP.val [(.slice A3 y.1.Network.Fibers.length c4)] (y.1.Network.Fibers : List Fiber)), (true, MP.val [(.slice A2 y.1.Network.Nodes.length c3)] (y.1.Network.Nodes : List ByteArray))] w) (fun k (s : Int × List Light × List By × Int × U64) => spec_l1Cur_anyPlan_L1 fu y k s.1 s.2.1 s.2.2.1 s.2.2.2.1 s.2.2.2.2 = some out2) (fun s => out2 = s) (0, y.1.Lights, y3.2.code, y3.2.at_, y3.2.seed) fu hB2 ⟨A4, c5, E, hx8, hf, H⟩ (fun s h => by cases h) ?_ ?_
         ·rintro fk ⟨n', m12, m13, m14, m15⟩ a w hR2 hI
          replace hR2 : spec_l1Cur_anyPlan_L1 fu y (fk + 1) n' m12 m13 m14 m15 = some out2 := hR2
          rw [spec_l1Cur_anyPlan_L1] at hR2
          obtain ⟨A23, c22, E4, hsm, hf, H⟩ := hI
          refine sq (sq (dw [] 11 fun w hb => ?_))
          have H := H.keep hb
          refine zp 0 hf trivial fun a hf => ?_
          refine strT (H.lk 1 0 0 []) (fun w H => trivial) fun hS => ?_
          refine zS 1 [] rfl rfl rfl rfl hf hS (fun w H => rq_loadB hf H TF.ls51 0 rfl rfl rfl) fun a hf => ?_
          refine zp 2 hf hS fun a hf => ?_
          refine zp 3 hf hS fun a hf => ?_
          obtain ⟨y8, hy8, hR2⟩ := bs_ hR2
          refine nn 4 rfl (oC hf TF.cl75 (spec_l1Cur_pick_ok (S := NB b0) (H.boxAt 2 rfl) ((L1CurP_mk (x := ({ code := m13, at_ := m14, seed := m15 } : L1CurP)) (H.nb 2 rfl (H.get 0 rfl)))) (fun h => h rfl) mk_int hy8) fun v8 w a hp11 hf => ?_)
          obtain ⟨hch7, cs10, hbx7, hr10, ⟨hx21, hx22⟩, hs7⟩ := hp11
          obtain rfl := VR_int hs7
          obtain ⟨A24, c23, rfl, hl13⟩ := L1CurP_cells hr10
          obtain ⟨rfl, rfl⟩ := fx_slice hx21 rfl rfl
          have hx23 := hx22.trans hsm
          have H := H.wroteBox 2 rfl hch7 hbx7
          have H := H.pX 0 rfl hx22
          have hS := H.lk 1 0 0 []
          refine aS hS ?_
          refine zp 5 hf hS fun a hf => ?_
          refine zp 6 hf hS fun a hf => ?_
          refine zp 7 hf hS fun a hf => ?_
          refine iteB hR2 (fun hc8 hR2 => ?_) fun hc8 hR2 => ?_
          ·have hf := hf.lit 66 rfl hc8
           refine zg 8 hf hS fun a hf => ?_
           refine zg 9 hf hS fun a hf => ?_
           refine zp 10 hf hS fun a hf => ?_
           refine dk ?_
           refine then_n (ib hR2 hf (fun hc9 hR2 => ?_) fun hc9 hR2 => ?_)
           ·refine wp_skip (then_n (sq (wp_block (dw [19] 20 fun w hb => ?_))))
            have H := H.keep hb
            refine zp 0 hf trivial fun a hf => ?_
            refine strT (H.lk 1 0 0 []) (fun w H => trivial) fun hS => ?_
            refine zS 1 [1, 17, 18, 19] rfl rfl rfl rfl hf hS (fun w H => rq_loadB hf H TF.ls51 0 rfl rfl rfl) fun a hf => ?_
            refine zp 2 hf hS fun a hf => ?_
            refine zp 3 hf hS fun a hf => ?_
            refine zp 4 hf hS fun a hf => ?_
            refine zp 5 hf hS fun a hf => ?_
            refine zS 6 [6, 7, 8, 9, 11, 15, 16, 17, 18, 19] rfl rfl rfl rfl hf hS (fun w H => rq_loadB hf H TF.ls25 0 rfl rfl rfl) fun a hf => ?_
            obtain ⟨e2, he2, hR2⟩ := bs_ hR2
            obtain ⟨p2, o3, cs11, hx24, hr11, H⟩ := pre_iaddr H Tryz.underlying25 TF.sz63 2 rfl he2
            refine zP 7 rfl rfl rfl rfl hf hS (fun w => rq_iaddrE hf rfl rfl rfl hx24 w) fun a hf => ?_
            obtain rfl := Fiber_cells hr11
            refine zp 8 hf hS fun a hf => ?_
            refine strT (H.lk 1 0 0 [0]) (fun w H => H.lk 1 0 0 []) fun hS => ?_
            refine zS 9 [9, 11, 15, 16, 17, 18, 19] rfl rfl rfl rfl hf hS (fun w H => rq_loadI hf H TF.ls3 0 0 rfl rfl rfl) fun a hf => ?_
            refine zp 12 hf hS fun a hf => ?_
            refine zp 13 hf hS fun a hf => ?_
            refine zP 14 rfl rfl rfl rfl hf hS (fun w => rq_build hf (cs := [(.int .i64 (w64 (23 - n'))), (.int .i64 1)]) rfl (fun w => by kernel_rfl)) fun a hf => ?_
            refine nn 10 rfl (bl hf H 3 ([0] : List Int) [(.int .i64 0)] (el1 (y := 0) (rfl)) fun A25 a w hf H => ?_)
            have hS := H.lk 1 0 0 [0]
            refine aS hS ?_
            refine zP 11 rfl rfl rfl rfl hf hS (fun w => rq_build hf (cs := [(.int .i64 e2.A), (.slice A25 1 1)]) rfl (fun w => by kernel_rfl)) fun a hf => ?_
            refine zP 15 rfl rfl rfl rfl hf hS (fun w => rq_build hf (cs := [(.int .i64 (w64 (500 + n'))), (.int .i64 e2.A), (.slice A25 1 1), (.int .i64 (w64 (23 - n'))), (.int .i64 1)]) rfl (fun w => by kernel_rfl)) fun a hf => ?_
            have H := H.rowOwn 0 rfl rfl
            obtain ⟨F10, H⟩ := H.freezeOwn 0 rfl
            have H := H.lend 0 rfl
            have H := H.recast (X := [(⟨F10, MP.own F10 [(.slice A25 1 1)] ([0] : List Int)⟩ : DI)]) (Y := [(⟨F10, MP.own F10 [(.int .i64 (w64 (500 + n'))), (.int .i64 e2.A), (.slice A25 1 1), (.int .i64 (w64 (23 - n'))), (.int .i64 1)] (({ Id := w64 (500 + n'), Route := ({ Start := e2.A, Fibers := [0] } : Route), Block := ({ First := w64 (23 - n'), Count := 1 } : Block) } : Light) : Light)⟩ : DI)]) (List.Perm.of_eq (by simp)) fun _ => ps1 (Light_ownmk (x := ({ Id := w64 (500 + n'), Route := ({ Start := e2.A, Fibers := [0] } : Route), Block := ({ First := w64 (23 - n'), Count := 1 } : Block) } : Light)) (H.ownAt 0 rfl)) ps0
            refine nn 16 rfl (op_bsliceO hf 80 H rfl (fun w => by kernel_rfl) (by decide) fun A26 a w hf H => ?_)
            have hS := H.lk 1 0 0 [1]
            refine aS hS ?_
            have H := H.rowSh 0 rfl
            obtain ⟨l2, hl2_, hR2⟩ := bs_ hR2
            refine nn 17 rfl (op_appR hf H Tryz.underlying51 TF.ai80 rfl (by decide) 1 0 rfl rfl rfl rfl (.inr rfl) hl2_ (by decide) fun E5 A27 c24 a w hf H => ?_)
            have hS := H.lk 1 0 0 [1]
            refine aS hS ?_
            refine zp 18 hf hS fun a hf => ?_
            refine nn 19 rfl (op_storeB hf H 0 TF.sz51 rfl rfl rfl rfl rfl rfl (nle rfl) fun w H => ?_)
            refine ⟨fun h => absurd h (by decide), ?_⟩
            refine dk ?_
            have hf := hf.pn [0, 2, 3, 6, 67, 68]
            refine blk_n (then_n (reg (pz 3 hf fun a hf => ?_)))
            refine wl_end ?_
            have H := H.lm 7 2 3 6 63
            have hf := hf.pn [0, 2, 3, 6]
            have H := H.lm 7 1 3 6 52
            exact then_n ⟨(w64 (n' + 1), l2, y8.2.code, y8.2.at_, y8.2.seed), hR2, A27, c24, E5, hx23, hf, H⟩
           ·refine wp_exit (then_x (then_x (blk_e (?_))))
            have hf := hf.pn [0, 2, 3, 6]
            have H := H.lm 7 1 3 4 13
            exact ⟨(n', m12, y8.2.code, y8.2.at_, y8.2.seed), (Option.some.inj hR2).symm, A23, c22, E4, hx23, hf, H⟩
          ·have hf := hf.lit 66 rfl hc8
           refine zU 8 hf hS fun a hf => ?_
           refine zU 9 hf hS fun a hf => ?_
           refine zp 10 hf hS fun a hf => ?_
           refine dk ?_
           refine then_n (cd_f hf rfl rfl (wp_exit (then_x (then_x (blk_e (?_))))))
           have hf := hf.pn [0, 2, 3, 6]
           have H := H.lm 7 1 3 4 13
           exact ⟨(n', m12, y8.2.code, y8.2.at_, y8.2.seed), (Option.some.inj hR2).symm, A23, c22, E4, hx23, hf, H⟩
         rintro a w ⟨⟨n2, m16, m17, m18, m19⟩, rfl, A28, c25, E6, hsm, hf, H⟩
         try dsimp only at hsm
         try dsimp only at hB1
         refine then_n (sq (reg (lN 0 hf H TF.la53 fun a hf => ?_)))
         refine sB 1 hf H TF.sz53 fun w H => ?_
         refine wl_end (then_n (wp_ret (then_r (blk_r (then_r (?_))))))
         have hcell : GoTy.rep w (fun _ => True) [(.slice A m17.length c2), (.int .i64 m18), (.int .u64 m19.n)] (({ code := m17, at_ := m18, seed := m19 } : L1CurP) : L1CurP) := (L1CurP_mk (x := ({ code := m17, at_ := m18, seed := m19 } : L1CurP)) (H.rt 0 rfl))
         have H := H.frontD 1 rfl
         have H := H.frontD 1 rfl
         obtain rfl := oi hB1
         replace hF := on_ret hF
         obtain rfl := oi hF
         refine ret_1 hf rfl (rv_cellN hf H 1 TF.la53 rfl rfl rfl) ?_
         have H := H.lk 4 1 3 []
         exact ⟨_, rfl, _, hcell, ⟨fxc hsm, hsm⟩, A2, c3, F, A3, c4, F2, A28, c25, E6, rfl, H⟩
        ·refine wp_skip ?_
         have hf := hf.pn [2, 3, 4, 5]
         have H := H.frontD 1 rfl
         have H := H.lk 15 1 3 [3,4,1,0]
         exact then_n ⟨(e.Id, y3.2.code, y3.2.at_, y3.2.seed, e.Block.First, e.Block.Count, e.Route.Start, e.Route.Fibers, y.1.Lights, y.1.Network.Nodes, y.1.Network.Fibers), (Option.some.inj hB1).symm, A7, c8, A4, c5, E, A2, c3, F, A3, c4, F2, hx8, hf, H⟩
  rintro a w ⟨⟨m20, m21, m22, m23, m24, m25, m26, m27, m28, m29, m30⟩, rfl, A29, c26, A30, c27, E7, A31, c28, F11, A32, c29, F12, hsm2, hf, H⟩
  try dsimp only at hsm2
  replace hF := on_next hF
  try dsimp only at hF
  refine blk_n (then_n (sqz (pz 1 hf fun a hf => ?_)))
  refine lB 1 hf H TF.ls51 fun a hf => ?_
  refine pz 1 hf fun a hf => ?_
  refine lN 0 hf H TF.la80 fun a hf => ?_
  obtain ⟨e3, he3, hF⟩ := bs_ hF
  refine wl0 rfl (op_iaddrR hf H Tryz.underlying51 TF.sz80 0 rfl rfl rfl he3 (by decide) fun p3 o4 cs12 a hf hA2 hr12 hk2 => ?_)
  obtain ⟨A33, c30, rfl, hl14⟩ := Light_cells hr12
  have H := H.pT hl14
  refine wl0 rfl (op_storeR (e' := ({ Id := m20, Route := ({ Start := m26, Fibers := m27 } : Route), Block := ({ First := m24, Count := m25 } : Block) } : Light)) (o := o4) (off := 0) hf H TF.sz80 0 rfl rfl rfl rfl rfl (nle rfl) rfl hA2 he3 (st_full (Light_mk (x := ({ Id := m20, Route := ({ Start := m26, Fibers := m27 } : Route), Block := ({ First := m24, Count := m25 } : Block) } : Light)) (H.get 3 rfl))) fun w H => ?_)
  replace hf : Fr a 98 [(2, (.pointer (some ⟨b2, 0, none⟩))), (3, (.pointer (some ⟨b3, 0, none⟩))), (4, (.int .i64 y2.1)), (5, (.pointer (some ⟨b4, 0, none⟩))), (92, (.pointer (some ⟨b3, 2, none⟩))), (93, (.slice A30 m28.length c27)), (94, (.int .i64 y2.1)), (95, (.agg #[(.int .i64 m20), (.int .i64 m26), (.slice A29 m27.length c26), (.int .i64 m24), (.int .i64 m25)])), (96, (.pointer (some ⟨p3, o4 + 0, none⟩)))] := hf.prune [2, 3, 4, 5, 92, 93, 94, 95, 96] rfl
  replace hf : Fr a 98 [(2, (.pointer (some ⟨b2, 0, none⟩))), (3, (.pointer (some ⟨b3, 0, none⟩))), (4, (.int .i64 y2.1)), (5, (.pointer (some ⟨b4, 0, none⟩))), (92, (.pointer (some ⟨b3, 2, none⟩))), (93, (.slice A30 (m28.set (y2.1 : Int).toNat ({ Id := m20, Route := ({ Start := m26, Fibers := m27 } : Route), Block := ({ First := m24, Count := m25 } : Block) } : Light)).length c27)), (94, (.int .i64 y2.1)), (95, (.agg #[(.int .i64 m20), (.int .i64 m26), (.slice A29 m27.length c26), (.int .i64 m24), (.int .i64 m25)])), (96, (.pointer (some ⟨p3, o4 + 0, none⟩)))] := by simpa only [List.length_set, Nat.add_zero] using hf
  replace H : Mem ⟨w0, [b0]⟩ S [⟨b4, 80, [(.int .i64 m20), (.int .i64 m26), (.slice A29 m27.length c26), (.int .i64 m24), (.int .i64 m25)]⟩, ⟨b3, 53, [(.slice A31 m29.length c28), (.slice A32 m30.length c29), (.slice A30 (m28.set (y2.1 : Int).toNat ({ Id := m20, Route := ({ Start := m26, Fibers := m27 } : Route), Block := ({ First := m24, Count := m25 } : Block) } : Light)).length c27)]⟩, ⟨b2, 53, [(.slice none 0 0), (.slice none 0 0), (.slice none 0 0)]⟩, ⟨b0, 87, [(.slice A m21.length c2), (.int .i64 m22), (.int .u64 m23.n)]⟩] [⟨.sh true, E7, A30, c27, (m28.set (y2.1 : Int).toNat ({ Id := m20, Route := ({ Start := m26, Fibers := m27 } : Route), Block := ({ First := m24, Count := m25 } : Block) } : Light) : List Light)⟩] [⟨F12, MP.own F12 [(.slice A32 m30.length c29)] (m30 : List Fiber)⟩, ⟨F11, MP.own F11 [(.slice A31 m29.length c28)] (m29 : List ByteArray)⟩] [(true, MP.val [(.slice A33 e3.Route.Fibers.length c30)] (e3.Route.Fibers : List Int)), (true, MP.val [(.slice A32 m30.length c29)] (m30 : List Fiber)), (true, MP.val [(.slice A31 m29.length c28)] (m29 : List ByteArray)), (true, MP.val [(.slice A29 m27.length c26)] (m27 : List Int)), (false, MP.val [(.slice A m21.length c2)] (m21 : List By))] w := by first | (simp only [List.length_set]; exact H) | (simp only [List.length_set] at H ⊢; exact H)
  refine wr (lN 1 hf H TF.la53 fun a hf => ?_)
  refine sB 2 hf H TF.sz53 fun w H => ?_
  refine wer ?_
  have hcell : GoTy.rep w (fun _ => True) [(.slice A m21.length c2), (.int .i64 m22), (.int .u64 m23.n)] (({ code := m21, at_ := m22, seed := m23 } : L1CurP) : L1CurP) := (L1CurP_mk (x := ({ code := m21, at_ := m22, seed := m23 } : L1CurP)) (H.rt 4 rfl))
  have H := H.frontD 1 rfl
  obtain rfl := oi hF
  refine ret_1 hf rfl (rv_cellN hf H 2 TF.la53 rfl rfl rfl) ?_
  have H := H.lk 8 1 3 []
  exact ⟨_, rfl, _, hcell, ⟨fxc hsm2, hsm2⟩, A31, c28, F11, A32, c29, F12, A30, c27, E7, rfl, H⟩
theorem spec_DrawIsValidPlan_ok {S : Nat → Prop} {v0_ : Value} {code : List By} {r : Plan} (h0 : VR w0 S v0_ code) (hF : spec_DrawIsValidPlan fu code = some r) :
    Calls Tryz.prog 44 [v0_].toArray w0 fun e w' => ∃ v, e = .returned v ∧ (∃ (A0_0 : Option Addr) (c0_0 : Nat) (F0_0 : List Nat) (A0_1 : Option Addr) (c0_1 : Nat) (F0_1 : List Nat) (A0_2 : Option Addr) (c0_2 : Nat) (E0_2 : Go.TypeId), v = (.agg #[(.slice A0_0 r.Network.Nodes.length c0_0), (.slice A0_1 r.Network.Fibers.length c0_1), (.slice A0_2 r.Lights.length c0_2)]) ∧ Mem ⟨w0, []⟩ S [] [⟨.sh true, E0_2, A0_2, c0_2, (r.Lights : List Light)⟩] [⟨F0_0, MP.own F0_0 [(.slice A0_0 r.Network.Nodes.length c0_0)] (r.Network.Nodes : List ByteArray)⟩, ⟨F0_1, MP.own F0_1 [(.slice A0_1 r.Network.Fibers.length c0_1)] (r.Network.Fibers : List Fiber)⟩] [] w') := by
 obtain ⟨A, c, rfl, hl⟩ := VR_list h0
 have H := Mem.start ⟨w0, []⟩ S
 have H := H.pA hl
 refine en Tryz.func44 fun a hf => ?_
 rw [spec_DrawIsValidPlan] at hF
 refine sq (reg (aL hf H TF.zv53 fun b' a w hf H => ?_))
 refine wr (pz 1 hf fun a hf => ?_)
 refine oq hf (rq_build hf (cs := [(.slice A code.length c), (.int .i64 0), (.int .u64 0)]) rfl (fun w => by kernel_rfl)) fun a hf => ?_
 refine wl0 rfl (op_box hf H rfl rfl (by decide) fun b2 a w hf H => ?_)
 refine pz 1 hf fun a hf => ?_
 refine wr (pz 1 hf fun a hf => ?_)
 obtain ⟨y, hy, hF⟩ := bs_ hF
 refine oc hf TF.cl78 (spec_l1Cur_anyPlan_ok (S := NB b2) (H.boxAt 0 rfl) ((L1CurP_mk (x := ({ code := code, at_ := 0, seed := (⟨0⟩ : U64) } : L1CurP)) (H.nb 0 rfl (H.get 0 rfl)))) (fun h => h rfl) hy) fun v w a hp hf => ?_
 obtain ⟨cs, hr, ⟨hx, hx2⟩, A2, c2, F, A3, c3, F2, A4, c4, E, rfl, Hc⟩ := hp
 obtain ⟨A5, c5, rfl, hl2⟩ := L1CurP_cells hr
 obtain ⟨rfl, rfl⟩ := fx_slice hx rfl rfl
 have H := H.compB 0 rfl Hc (.inl rfl)
 have H := H.pX 0 rfl hx2
 have H := H.lend 0 rfl
 have H := H.lend 1 rfl
 refine sB 1 hf H TF.sz53 fun w H => ?_
 refine wer ?_
 have H := H.frontD 1 rfl
 have H := H.frontD 1 rfl
 obtain rfl := oi hF
 refine ret_1 hf rfl (rv_cellN hf H 1 TF.la53 rfl rfl rfl) ?_
 have H := H.lk 0 1 3 []
 exact ⟨_, rfl, A2, c2, F, A3, c3, F2, A4, c4, E, rfl, H⟩
theorem spec_DrawFormatPlan_ok {S : Nat → Prop} {v0_ : Value} {code : List By} {r : Plan} (h0 : VR w0 S v0_ code) (hF : spec_DrawFormatPlan fu code = some r) :
    Calls Tryz.prog 18 [v0_].toArray w0 fun e w' => ∃ v, e = .returned v ∧ (∃ (A0_0 : Option Addr) (c0_0 : Nat) (F0_0 : List Nat) (A0_1 : Option Addr) (c0_1 : Nat) (F0_1 : List Nat) (A0_2 : Option Addr) (c0_2 : Nat) (E0_2 : Go.TypeId), v = (.agg #[(.slice A0_0 r.Network.Nodes.length c0_0), (.slice A0_1 r.Network.Fibers.length c0_1), (.slice A0_2 r.Lights.length c0_2)]) ∧ Mem ⟨w0, []⟩ S [] [⟨.sh true, E0_2, A0_2, c0_2, (r.Lights : List Light)⟩] [⟨F0_0, MP.own F0_0 [(.slice A0_0 r.Network.Nodes.length c0_0)] (r.Network.Nodes : List ByteArray)⟩, ⟨F0_1, MP.own F0_1 [(.slice A0_1 r.Network.Fibers.length c0_1)] (r.Network.Fibers : List Fiber)⟩] [] w') := by
 obtain ⟨A, c, rfl, hl⟩ := VR_list h0
 have H := Mem.start ⟨w0, []⟩ S
 have H := H.pA hl
 refine en Tryz.func18 fun a hf => ?_
 rw [spec_DrawFormatPlan] at hF
 refine sq (reg (aL hf H TF.zv53 fun b' a w hf H => ?_))
 refine wr (pz 1 hf fun a hf => ?_)
 obtain ⟨y, hy, hF⟩ := bs_ hF
 refine oc hf TF.cl44 (spec_DrawIsValidPlan_ok (S := TT) (mk_list (H.rt 0 rfl)) hy) fun v w a hp hf => ?_
 obtain ⟨A2, c2, F, A3, c3, F2, A4, c4, E, rfl, Hc⟩ := hp
 have H := H.comp Hc (.inl rfl)
 have H := H.lend 0 rfl
 have H := H.lend 1 rfl
 refine sB 0 hf H TF.sz53 fun w H => ?_
 refine wer ?_
 have H := H.frontD 1 rfl
 have H := H.frontD 1 rfl
 obtain rfl := oi hF
 refine ret_1 hf rfl (rv_cellN hf H 0 TF.la53 rfl rfl rfl) ?_
 have H := H.lk 0 1 3 []
 exact ⟨_, rfl, A2, c2, F, A3, c3, F2, A4, c4, E, rfl, H⟩
theorem impl_isLight_ok {S : Nat → Prop} {v0_ : Value} {v1_ : Value} {n' : Network} {x1 : Light} {r : Bool} (h0 : VR w0 S v0_ n') (h1 : VR w0 S v1_ x1) (hF : impl_isLight fu n' x1 = some r) :
    Calls Tryz.prog 79 [v0_, v1_].toArray w0 fun e w' => ∃ v, e = .returned v ∧ (Below w0.heap.size w0 w' ∧ VR w' (St ⟨w0, []⟩ S [] [] [] true) v r) := by
 obtain ⟨A, c, A2, c2, rfl, hl, hl2⟩ := Network_open h0
 obtain ⟨A3, c3, rfl, hl3⟩ := Light_open h1
 have H := Mem.start ⟨w0, []⟩ S
 have H := H.pA hl
 have H := H.pA hl2
 have H := H.pA hl3
 refine en Tryz.func79 fun a hf => ?_
 rw [impl_isLight] at hF
 refine bx hf H fun b' a w hf H => ?_
 refine wl0 rfl (op_box hf H rfl rfl (by decide) fun b2 a w hf H => ?_)
 refine pz 1 hf fun a hf => ?_
 refine wr (lN 1 hf H TF.la27 fun a hf => ?_)
 refine pz 1 hf fun a hf => ?_
 refine lN 0 hf H TF.la30 fun a hf => ?_
 obtain ⟨y, hy, hF⟩ := bs_ hF
 refine oc hf TF.cl71 (impl_visited_ok (S := TT) (Network_mkv (x := n') (H.rt 2 rfl) (H.rt 1 rfl)) (Route_mkv (x := x1.Route) (H.rt 0 rfl)) hy) fun v w a hp hf => ?_
 obtain ⟨hb, F, v2, v3, rfl, hp2, hp3, hN⟩ := hp
 obtain ⟨A4, c4, rfl, hl4⟩ := VO_list hp2
 obtain rfl := VR_bool hp3
 have H := H.aO1 hb hN hl4
 have H := H.lend 0 rfl
 refine pz 5 hf fun a hf => ?_
 refine wl_end (then_n (sq ?_))
 obtain ⟨c5, hGc5, hF⟩ := bs_ hF
 have fh := hf.prune [] rfl
 have Hm := H.lk 0 0 0 []
 refine midF 4 (.bool c5) fh Hm ?_ fun a w hf H => ?_
 ·refine reg (pz 2 hf fun a hf => ?_)
  refine iteB hGc5 (fun hc hGc5 => ?_) fun hc hGc5 => ?_
  ·have hf := hf.lit 15 rfl hc
   refine pz 1 hf fun a hf => ?_
   refine wlg hf rfl rfl rfl (op_q hf (rq_loadB hf H TF.ls3 0 rfl rfl rfl) rfl (by decide) fun a hf => ?_)
   obtain ⟨y2, hy2, hGc5⟩ := bs_ hGc5
   refine wlg hf rfl rfl rfl (oC hf TF.cl57 (impl_within_ok (S := TT) mk_int mk_int mk_int hy2) fun v4 w a hp4 hf => ?_)
   obtain ⟨hb2, hp4⟩ := hp4
   obtain rfl := VR_bool hp4
   have H := H.keep hb2
   refine pz 2 hf fun a hf => ?_
   refine iteB hGc5 (fun hc2 hGc5 => ?_) fun hc2 hGc5 => ?_
   ·have hf := hf.lit 20 rfl hc2
    refine pz 1 hf fun a hf => ?_
    refine wlg hf rfl rfl rfl (op_q hf (rq_loadBN hf H TF.la45 0 rfl rfl rfl rfl) rfl (by decide) fun a hf => ?_)
    obtain ⟨y3, hy3, hGc5⟩ := bs_ hGc5
    refine wlg hf rfl rfl rfl (oC hf TF.cl40 (impl_IsValidBlock_ok (S := TT) Block_mkv hy3) fun v5 w a hp5 hf => ?_)
    obtain ⟨hb3, hp5⟩ := hp5
    obtain rfl := VR_bool hp5
    have H := H.keep hb3
    refine pz 2 hf fun a hf => ?_
    obtain rfl := oi hGc5
    have hf := hf.pn [4]
    have H := H.lk 0 0 0 []
    exact wl_end ⟨hf, H⟩
   ·have hf := hf.lit 20 rfl hc2
    refine pz 5 hf fun a hf => ?_
    obtain rfl := oi hGc5
    have hf := hf.pn [4]
    have H := H.lk 0 0 0 []
    exact wl_end ⟨hf, H⟩
  ·have hf := hf.lit 15 rfl hc
   refine pz 10 hf fun a hf => ?_
   obtain rfl := oi hGc5
   have hf := hf.pn [4]
   have H := H.lk 0 0 0 []
   exact wl_end ⟨hf, H⟩
 refine then_n (wp_ret (?_))
 obtain rfl := oi hF
 refine rT hf ?_
 exact ⟨_, rfl, H.bel, mk_bool⟩
theorem impl_maskOf_ok {S : Nat → Prop} {v0_ : Value} {b' : Block} {r : Int} (h0 : VR w0 S v0_ b') (hF : impl_maskOf fu b' = some r) :
    Calls Tryz.prog 116 [v0_].toArray w0 fun e w' => ∃ v, e = .returned v ∧ (Below w0.heap.size w0 w' ∧ VR w' (St ⟨w0, []⟩ S [] [] [] true) v r) := by
 obtain rfl := Block_open h0
 have H := Mem.start ⟨w0, []⟩ S
 refine en Tryz.func116 fun a hf => ?_
 rw [impl_maskOf] at hF
 refine bx hf H fun b2 a w hf H => ?_
 refine pz 1 hf fun a hf => ?_
 refine wl_end (then_n (sq (dw [] 8 fun w hb => ?_)))
 have H := H.keep hb
 refine zp 0 hf trivial fun a hf => ?_
 refine strT H (fun w H => trivial) fun hS => ?_
 refine zS 1 [] rfl rfl rfl rfl hf hS (fun w H => rq_loadB hf H TF.ls3 0 rfl rfl rfl) fun a hf => ?_
 obtain ⟨q, hq, hF⟩ := bs_ hF
 refine zP 2 rfl rfl rfl rfl hf hS (fun w => rq_shl hf rfl rfl hq) fun a hf => ?_
 refine zp 3 hf hS fun a hf => ?_
 refine zp 4 hf hS fun a hf => ?_
 refine zS 5 [] rfl rfl rfl rfl hf hS (fun w H => rq_loadB hf H TF.ls3 0 rfl rfl rfl) fun a hf => ?_
 obtain ⟨q2, hq2, hF⟩ := bs_ hF
 refine zP 6 rfl rfl rfl rfl hf hS (fun w => rq_shl hf rfl rfl hq2) fun a hf => ?_
 refine zp 7 hf hS fun a hf => ?_
 refine dk ?_
 refine then_n (wp_ret (?_))
 obtain rfl := oi hF
 refine rT hf ?_
 exact ⟨_, rfl, H.bel, mk_int⟩
theorem slices_Sort_int_int_ok {S : Nat → Prop} {F : List Nat} {cs : List Value} {x r : List Int} (hO : GoTy.own w0 F cs x) (hn : F.Nodup) (hF : slices_Sort_int_int fu x = some r) :
    Calls Tryz.prog 149 [(bif GoTy.agg (List Int) then .agg cs.toArray else cs.headD undef)].toArray w0 fun e w' => ∃ v, e = .returned v ∧ (Chg w0 w' F ∧ v = .tuple #[] ∧ ∃ F', GoTy.own w' F' cs r ∧ Back w0 w' F F') := by
  obtain ⟨A, c, rfl, hO⟩ := own_list hO
  exact sortI_own Tryz.lay149 hO hn hF
theorem slices_Compact_int_int_ok {S : Nat → Prop} {F : List Nat} {A : Option Addr} {cap : Nat} {x r : List Int} (hO : lown w0 F [.slice A x.length cap] x) (hn : F.Nodup) (hF : slices_Compact_int_int fu x = some r) :
    Calls Tryz.prog 150 [.slice A x.length cap].toArray w0 fun e w' => ∃ v, e = .returned v ∧ (Chg w0 w' F ∧ v = .slice A r.length cap ∧ ∃ F', lown w' F' [.slice A r.length cap] r ∧ Back w0 w' F F') := by
  exact compI_own Tryz.lay150 hO hn hF
theorem impl_common_ok {S : Nat → Prop} {v0_ : Value} {v1_ : Value} {a' : List Int} {b' : List Int} {r : List Int} (h0 : VR w0 S v0_ a') (h1 : VR w0 S v1_ b') (hF : impl_common fu a' b' = some r) :
    Calls Tryz.prog 117 [v0_, v1_].toArray w0 fun e w' => ∃ v, e = .returned v ∧ (Below w0.heap.size w0 w' ∧ ∃ F0, VO w' F0 v r ∧ New w0 w' F0) := by
 obtain ⟨A, c, rfl, hl⟩ := VR_list h0
 obtain ⟨A2, c2, rfl, hl2⟩ := VR_list h1
 have H := Mem.start ⟨w0, []⟩ S
 have H := H.pA hl
 have H := H.pA hl2
 refine en Tryz.func117 fun a hf => ?_
 rw [impl_common] at hF
 refine sqz (pz 1 hf fun a hf => ?_)
 refine wr (wl0 rfl (bl hf H 3 ([] : List Int) [] el0 fun A3 a w hf H => ?_))
 refine pz 1 hf fun a hf => ?_
 refine we (sqz (pz 3 hf fun a hf => ?_))
 refine wl_end (then_n ?_)
 obtain ⟨out2, hB1, hF⟩ := bs_ hF
 have hf := hf.pn [1, 5, 9, 10, 11]
 have H := H.lk 0 1 0 [0,1]
 refine loopC (fun (s : List Int × Int) (a : Act) (w : World) => match s with | (out', i) => ∃ (A4 : Option Addr) (c3 : Nat) (E : Go.TypeId), Fr a 27 [(1, (.slice A2 b'.length c2)), (5, (.slice A4 out'.length c3)), (9, (.slice A a'.length c)), (10, (.int .i64 (a'.length : Int))), (11, (.int .i64 i))] ∧ Mem ⟨w0, []⟩ S [] [⟨.sh true, E, A4, c3, (out' : List Int)⟩] [] [(false, MP.val [(.slice A2 b'.length c2)] (b' : List Int)), (false, MP.val [(.slice A a'.length c)] (a' : List Int))] w) (fun k (s : List Int × Int) => impl_common_L1 fu a' b' k s.1 s.2 = some out2) (fun s => out2 = s) (([] : List Int), 0) fu hB1 ⟨A3, 0, 3, hf, H⟩ (fun s h => by cases h) ?_ ?_
 ·rintro fk ⟨out', i⟩ a w hR1 hI
  replace hR1 : impl_common_L1 fu a' b' (fk + 1) out' i = some out2 := hR1
  rw [impl_common_L1] at hR1
  obtain ⟨A4, c3, E, hf, H⟩ := hI
  refine sqz (pz 1 hf fun a hf => ?_)
  refine wl_end (then_n (sq (ib hR1 hf (fun hc hR1 => ?_) fun hc hR1 => ?_)))
  ·refine wp_skip (then_n (sq (wp_block (sq (reg ?_)))))
   obtain ⟨e, he, hR1⟩ := bs_ hR1
   refine wl0 rfl (op_iaddr hf H Tryz.underlying28 TF.sz3 1 rfl rfl rfl he (by decide) fun p o cs a hf hr H => ?_)
   obtain rfl := hr
   refine oq hf (rq_loadI hf H TF.ls3 0 0 rfl rfl rfl) fun a hf => ?_
   refine pz 1 hf fun a hf => ?_
   refine wr (pz 2 hf fun a hf => ?_)
   obtain ⟨y, hy, hR1⟩ := bs_ hR1
   refine oc hf TF.cl108 (slices_Contains_int_int_ok (S := TT) (mk_list (H.rt 1 rfl)) mk_int hy) fun v w a hp hf => ?_
   obtain ⟨hb, hp⟩ := hp
   obtain rfl := VR_bool hp
   have H := H.keep hb
   refine wl_end (then_n (ib hR1 hf (fun hc2 hR1 => ?_) fun hc2 hR1 => ?_))
   ·refine reg (pz 2 hf fun a hf => ?_)
    refine wl0 rfl (bl hf H 3 ([e] : List Int) [(.int .i64 e)] (el1 (y := e) (rfl)) fun A5 a w hf H => ?_)
    obtain ⟨l, hl_, hR1⟩ := bs_ hR1
    refine wl0 rfl (op_appR hf H Tryz.underlying28 TF.ai3 rfl (by decide) 1 0 rfl rfl rfl rfl (.inr rfl) hl_ (by decide) fun E2 A6 c4 a w hf H => ?_)
    refine pz 1 hf fun a hf => ?_
    refine wl_end (blk_n (then_n (reg (pz 2 hf fun a hf => ?_))))
    refine wl_end ?_
    have hf := hf.pn [1, 5, 9, 10, 11]
    have H := H.lk 0 2 0 [1,2]
    exact then_n ⟨(l, w64 (i + 1)), hR1, A6, c4, E2, hf, H⟩
   ·refine wp_skip (blk_n (then_n (reg (pz 2 hf fun a hf => ?_))))
    refine wl_end ?_
    have hf := hf.pn [1, 5, 9, 10, 11]
    have H := H.lk 0 1 0 [1,2]
    exact then_n ⟨(out', w64 (i + 1)), hR1, A4, c3, E, hf, H⟩
  ·refine wp_exit (then_x (then_x (blk_e (?_))))
   have hf := hf.pn [1, 5, 9, 10, 11]
   have H := H.lk 0 1 0 [0,1]
   exact ⟨(out', i), (Option.some.inj hR1).symm, A4, c3, E, hf, H⟩
 rintro a w ⟨⟨out3, i2⟩, rfl, A7, c5, E3, hf, H⟩
 try dsimp only at hF
 refine then_n (sqz (pz 1 hf fun a hf => ?_))
 have H := H.rowOwn 0 rfl rfl
 obtain ⟨F, H⟩ := H.freezeOwn 0 rfl
 have H := H.lend 0 rfl
 obtain ⟨y2, hy2, hF⟩ := bs_ hF
 refine oc hf TF.cl149 (slices_Sort_int_int_ok (S := TT) (F := F) (cs := [(.slice A7 out3.length c5)]) (H.ownAt 0 rfl) H.diNd.1 hy2) fun v2 w a hp2 hf => ?_
 obtain ⟨hch, hv, F2, ho, hbk⟩ := hp2
 subst hv
 have H := H.wrote rfl hch ho hbk
 have H := H.pA hl
 have H := H.pA hl2
 have H := H.lend 0 rfl
 refine wr (pz 1 hf fun a hf => ?_)
 have hlen := H.ownLen rfl
 obtain ⟨Fs, E4, H, -⟩ := H.thaw rfl
 have H := H.rowSh 0 rfl
 have hf := hf.pn [1, 5, 9, 10, 11, 23, 24, 25]
 replace hf : Fr a 27 [(1, (.slice A2 b'.length c2)), (5, (.slice A7 y2.length c5)), (9, (.slice A a'.length c)), (10, (.int .i64 (a'.length : Int))), (11, (.int .i64 i2)), (23, (.slice A7 y2.length c5)), (24, (.tuple #[])), (25, (.slice A7 y2.length c5))] := by rw [hlen]; exact hf
 have H := H.pA hl
 have H := H.pA hl2
 have H := H.rowOwn 0 rfl rfl
 obtain ⟨F3, H⟩ := H.freezeOwn 0 rfl
 have H := H.lend 0 rfl
 obtain ⟨y3, hy3, hF⟩ := bs_ hF
 refine oc hf TF.cl150 (slices_Compact_int_int_ok (S := NO F3) (H.ownAt 0 rfl) H.diNd.1 hy3) fun v3 w a hp3 hf => ?_
 obtain ⟨hch2, rfl, F4, ho2, hbk2⟩ := hp3
 have H := H.wroteC rfl hch2 ho2 hbk2
 have H := H.pA hl
 have H := H.pA hl2
 have H := H.lend 0 rfl
 refine pz 1 hf fun a hf => ?_
 refine wer ?_
 obtain rfl := oi hF
 refine rT hf ?_
 have hN := H.ends1
 exact ⟨_, rfl, H.bel, F4, (mko_list (H.ownAt 0 rfl)), by first | exact hN | simpa using hN⟩
theorem impl_collide_ok {S : Nat → Prop} {v0_ : Value} {v1_ : Value} {a' : Light} {b' : Light} {r : Bool} (h0 : VR w0 S v0_ a') (h1 : VR w0 S v1_ b') (hF : impl_collide fu a' b' = some r) :
    Calls Tryz.prog 82 [v0_, v1_].toArray w0 fun e w' => ∃ v, e = .returned v ∧ (Below w0.heap.size w0 w' ∧ VR w' (St ⟨w0, []⟩ S [] [] [] true) v r) := by
 obtain ⟨A, c, rfl, hl⟩ := Light_open h0
 obtain ⟨A2, c2, rfl, hl2⟩ := Light_open h1
 have H := Mem.start ⟨w0, []⟩ S
 have H := H.pA hl
 have H := H.pA hl2
 refine en Tryz.func82 fun a hf => ?_
 rw [impl_collide] at hF
 refine bx hf H fun b2 a w hf H => ?_
 refine wl0 rfl (op_box hf H rfl rfl (by decide) fun b3 a w hf H => ?_)
 refine pz 1 hf fun a hf => ?_
 refine wl_end (then_n (sq ?_))
 obtain ⟨c3, hGc3, hF⟩ := bs_ hF
 have fh := hf.prune [] rfl
 have Hm := H.lk 0 0 0 []
 refine midF 4 (.bool c3) fh Hm ?_ fun a w hf H => ?_
 ·refine dw [] 20 fun w hb => ?_
  have H := H.keep hb
  refine zp 0 hf trivial fun a hf => ?_
  refine strT (H.lk 2 0 0 []) (fun w H => trivial) fun hS => ?_
  refine zS 1 [] rfl rfl rfl rfl hf hS (fun w H => rq_loadBN hf H TF.la45 0 rfl rfl rfl rfl) fun a hf => ?_
  refine zp 3 hf hS fun a hf => ?_
  refine strT (H.lk 3 0 0 []) (fun w H => H.lk 2 0 0 []) fun hS => ?_
  refine zS 4 [] rfl rfl rfl rfl hf hS (fun w H => rq_loadBN hf H TF.la45 0 rfl rfl rfl rfl) fun a hf => ?_
  obtain ⟨y, hy, hGc3⟩ := bs_ hGc3
  refine nn 2 rfl (oC hf TF.cl116 (impl_maskOf_ok (S := TT) Block_mkv hy) fun v w a hp hf => ?_)
  obtain ⟨hb, hp⟩ := hp
  obtain rfl := VR_int hp
  have H := H.keep hb
  have hS := H.lk 3 0 0 []
  refine aS hS ?_
  obtain ⟨y2, hy2, hGc3⟩ := bs_ hGc3
  refine nn 5 rfl (oC hf TF.cl116 (impl_maskOf_ok (S := TT) Block_mkv hy2) fun v2 w a hp2 hf => ?_)
  obtain ⟨hb2, hp2⟩ := hp2
  obtain rfl := VR_int hp2
  have H := H.keep hb2
  have hS := H.lk 3 0 0 []
  refine aS hS ?_
  refine zp 6 hf hS fun a hf => ?_
  refine zp 7 hf hS fun a hf => ?_
  refine zp 8 hf hS fun a hf => ?_
  refine iteB hGc3 (fun hc hGc3 => ?_) fun hc hGc3 => ?_
  ·have hf := hf.lit 13 rfl hc
   refine zg 9 hf hS fun a hf => ?_
   refine zg 10 hf hS fun a hf => ?_
   refine tSg 11 [] rfl rfl rfl rfl rfl rfl hf (by kernel_rfl) (by kernel_rfl) hS (fun w H => rq_loadB hf H TF.ls28 1 rfl rfl rfl) fun a hf => ?_
   refine zg 12 hf hS fun a hf => ?_
   refine zg 13 hf hS fun a hf => ?_
   refine tSg 14 [] rfl rfl rfl rfl rfl rfl hf (by kernel_rfl) (by kernel_rfl) hS (fun w H => rq_loadB hf H TF.ls28 0 rfl rfl rfl) fun a hf => ?_
   obtain ⟨y3, hy3, hGc3⟩ := bs_ hGc3
   refine n1g 15 (by kernel_rfl) rfl rfl rfl rfl hf (oC hf TF.cl117 (impl_common_ok (S := TT) (mk_list (H.rt 1 rfl)) (mk_list (H.rt 0 rfl)) hy3) fun v3 w a hp3 hf => ?_)
   obtain ⟨hb3, F, hp4, hN⟩ := hp3
   obtain ⟨A3, c4, rfl, hl3⟩ := VO_list hp4
   have H := H.aO1 hb3 hN hl3
   have H := H.lend 0 rfl
   have hS := H.lk 3 0 0 []
   refine aS hS ?_
   refine zg 16 hf hS fun a hf => ?_
   refine zg 17 hf hS fun a hf => ?_
   refine zp 18 hf hS fun a hf => ?_
   refine zp 19 hf hS fun a hf => ?_
   refine dk ?_
   obtain rfl := oi hGc3
   have hf := hf.pn [4]
   have H := H.lk 0 0 0 []
   exact ⟨hf, H⟩
  ·have hf := hf.lit 13 rfl hc
   refine zU 9 hf hS fun a hf => ?_
   refine zU 10 hf hS fun a hf => ?_
   refine zU 11 hf hS fun a hf => ?_
   refine zU 12 hf hS fun a hf => ?_
   refine zU 13 hf hS fun a hf => ?_
   refine zU 14 hf hS fun a hf => ?_
   refine zU 15 hf hS fun a hf => ?_
   refine zU 16 hf hS fun a hf => ?_
   refine zU 17 hf hS fun a hf => ?_
   refine zp 18 hf hS fun a hf => ?_
   refine zp 19 hf hS fun a hf => ?_
   refine dk ?_
   obtain rfl := oi hGc3
   have hf := hf.pn [4]
   have H := H.lk 0 0 0 []
   exact ⟨hf, H⟩
 refine then_n (wp_ret (?_))
 obtain rfl := oi hF
 refine rT hf ?_
 exact ⟨_, rfl, H.bel, mk_bool⟩
theorem impl_IsValidPlan_c1_ok {S : Nat → Prop} {v0_ : Value} {b1 o1 : Nat} {cs1 : List Value} {own : Light} {cap : Light} {r : Bool} (h0 : VR w0 S v0_ own) (hp1 : (MP.cells ⟨b1, o1, none⟩ cs1).pred w0 S) (hr1 : GoTy.rep w0 S cs1 cap) (hF : impl_IsValidPlan_c1 fu own cap = some r) :
    Calls Tryz.prog 81 [v0_, (.pointer (some ⟨b1, o1, none⟩))].toArray w0 fun e w' => ∃ v, e = .returned v ∧ (Below w0.heap.size w0 w' ∧ VR w' (St ⟨w0, []⟩ S [] [] [] true) v r) := by
 obtain ⟨A, c, rfl, hl⟩ := Light_open h0
 obtain ⟨A2, c2, rfl, hl2⟩ := Light_cells hr1
 have H := Mem.start ⟨w0, []⟩ S
 have H := H.pA hl
 have H := H.pA hl2
 have H := H.pushArg (MP.cells ⟨b1, o1, none⟩ [(.int .i64 cap.Id), (.int .i64 cap.Route.Start), (.slice A2 cap.Route.Fibers.length c2), (.int .i64 cap.Block.First), (.int .i64 cap.Block.Count)]) hp1
 refine en Tryz.func81 fun a hf => ?_
 rw [impl_IsValidPlan_c1] at hF
 refine bx hf H fun b3 a w hf H => ?_
 refine pz 1 hf fun a hf => ?_
 refine wr (lN 0 hf H TF.la80 fun a hf => ?_)
 refine oq hf (rq_loadIN hf H TF.la80 0 0 rfl rfl rfl rfl) fun a hf => ?_
 obtain ⟨y, hy, hF⟩ := bs_ hF
 refine oc hf TF.cl82 (impl_collide_ok (S := TT) (Light_mkv (x := own) (H.rt 2 rfl)) (Light_mkv (x := cap) (H.rt 1 rfl)) hy) fun v w a hp3 hf => ?_
 obtain ⟨hb, hp3⟩ := hp3
 obtain rfl := VR_bool hp3
 have H := H.keep hb
 refine pz 1 hf fun a hf => ?_
 refine wer ?_
 obtain rfl := oi hF
 refine rT hf ?_
 exact ⟨_, rfl, H.bel, mk_bool⟩
theorem slices_IndexFunc_impl_Light_impl_Light_of_IsValidPlan_c1_ok {S : Nat → Prop} {v0_ : Value} {b1_0 o1_0 : Nat} {cs1_0 : List Value} {s' : List Light} {cap : Light} {r : Int} (h0 : VR w0 S v0_ s') (hp1_0 : (MP.cells ⟨b1_0, o1_0, none⟩ cs1_0).pred w0 S) (hr1_0 : GoTy.rep w0 S cs1_0 cap) (hF : slices_IndexFunc_impl_Light_impl_Light_of_IsValidPlan_c1 fu s' cap = some r) :
    Calls Tryz.prog 115 [v0_, (.func (.func 81) #[] #[(.pointer (some ⟨b1_0, o1_0, none⟩))])].toArray w0 fun e w' => ∃ v, e = .returned v ∧ (Below w0.heap.size w0 w' ∧ VR w' (St ⟨w0, []⟩ S [] [] [] true) v r) := by
 obtain ⟨A, c, rfl, hl⟩ := VR_list h0
 obtain ⟨A2, c2, rfl, hl2⟩ := Light_cells hr1_0
 have H := Mem.start ⟨w0, []⟩ S
 have H := H.pA hl
 have H := H.pA hl2
 have H := H.pushArg (MP.cells ⟨b1_0, o1_0, none⟩ [(.int .i64 cap.Id), (.int .i64 cap.Route.Start), (.slice A2 cap.Route.Fibers.length c2), (.int .i64 cap.Block.First), (.int .i64 cap.Block.Count)]) hp1_0
 refine en Tryz.func115 fun a hf => ?_
 rw [slices_IndexFunc_impl_Light_impl_Light_of_IsValidPlan_c1] at hF
 refine sqz (pz 1 hf fun a hf => ?_)
 refine we (sqz (pz 3 hf fun a hf => ?_))
 refine wl_end (then_n ?_)
 obtain ⟨out', hB1, hF⟩ := bs_ hF
 have hf := hf.pn [0, 1, 7, 8]
 have H := H.lm 0 0 0 3 7
 refine loopC (fun (s : Int) (a : Act) (w : World) => match s with | i => Fr a 19 [(0, (.slice A s'.length c)), (1, (.func (.func 81) #[] #[(.pointer (some ⟨b1_0, o1_0 + 0, none⟩))])), (7, (.int .i64 (s'.length : Int))), (8, (.int .i64 i))] ∧ Mem ⟨w0, []⟩ S [] [] [] [(false, MP.cells ⟨b1_0, o1_0, none⟩ [(.int .i64 cap.Id), (.int .i64 cap.Route.Start), (.slice A2 cap.Route.Fibers.length c2), (.int .i64 cap.Block.First), (.int .i64 cap.Block.Count)]), (false, MP.val [(.slice A2 cap.Route.Fibers.length c2)] (cap.Route.Fibers : List Int)), (false, MP.val [(.slice A s'.length c)] (s' : List Light))] w) (fun k (s : Int) => slices_IndexFunc_impl_Light_impl_Light_of_IsValidPlan_c1_L1 fu s' cap k s = some out') (fun s => out' = Out.next s) 0 fu hB1 ⟨hf, H⟩ (fun s h => by cases h) ?_ ?_
 ·rintro fk i a w hR1 hI
  replace hR1 : slices_IndexFunc_impl_Light_impl_Light_of_IsValidPlan_c1_L1 fu s' cap (fk + 1) i = some out' := hR1
  rw [slices_IndexFunc_impl_Light_impl_Light_of_IsValidPlan_c1_L1] at hR1
  obtain ⟨hf, H⟩ := hI
  refine sqz (pz 1 hf fun a hf => ?_)
  refine wl_end (then_n (sq (ib hR1 hf (fun hc hR1 => ?_) fun hc hR1 => ?_)))
  ·refine ws (pz 2 hf fun a hf => ?_)
   refine wr (pz 3 hf fun a hf => ?_)
   obtain ⟨e, he, hR1⟩ := bs_ hR1
   refine wl0 rfl (op_iaddr hf H Tryz.underlying51 TF.sz80 2 rfl rfl rfl he (by decide) fun p o3 cs3 a hf hr3 H => ?_)
   obtain ⟨A3, c3, rfl, hl3⟩ := Light_cells hr3
   have H := H.pF hl3
   refine oq hf (rq_loadIN hf H TF.la80 1 0 rfl rfl rfl rfl) fun a hf => ?_
   obtain ⟨y, hy, hR1⟩ := bs_ hR1
   refine wl0 rfl (op_callV hf TF.cl81 rfl rfl (by decide) (impl_IsValidPlan_c1_ok (S := TT) (Light_mkv (x := e) (H.rt 0 rfl)) (mp_true (H.get 2 rfl)) ((Light_mk (x := cap) (H.rt 3 rfl))) hy) fun v w a hp3 hf => ?_)
   obtain ⟨hb, hp3⟩ := hp3
   obtain rfl := VR_bool hp3
   have H := H.keep hb
   refine wl_end (then_n (ib hR1 hf (fun hc2 hR1 => ?_) fun hc2 hR1 => ?_))
   ·refine sqz (pz 2 hf fun a hf => ?_)
    have hf := hf.pn [4]
    refine wl_end (then_n (wp_ret (blk_r (then_r (then_r (blk_r (then_r (then_r (?_)))))))))
    obtain rfl := oi hR1
    replace hF := on_ret hF
    obtain rfl := oi hF
    refine rT hf ?_
    exact ⟨_, rfl, H.bel, mk_int⟩
   ·refine wp_skip (blk_n (then_n (reg (pz 2 hf fun a hf => ?_))))
    refine wl_end ?_
    have hf := hf.pn [0, 1, 7, 8]
    have H := H.lm 0 0 0 5 28
    exact then_n ⟨w64 (i + 1), hR1, hf, H⟩
  ·refine wp_exit (then_x (then_x (blk_e (?_))))
   have hf := hf.pn [0, 1, 7, 8]
   have H := H.lm 0 0 0 3 7
   exact ⟨i, (Option.some.inj hR1).symm, hf, H⟩
 rintro a w ⟨i2, rfl, hf, H⟩
 replace hF := on_next hF
 refine then_n (sqz (pz 1 hf fun a hf => ?_))
 refine wer ?_
 obtain rfl := oi hF
 refine rT hf ?_
 exact ⟨_, rfl, H.bel, mk_int⟩
theorem slices_ContainsFunc_impl_Light_impl_Light_of_IsValidPlan_c1_ok {S : Nat → Prop} {v0_ : Value} {b1_0 o1_0 : Nat} {cs1_0 : List Value} {s' : List Light} {cap : Light} {r : Bool} (h0 : VR w0 S v0_ s') (hp1_0 : (MP.cells ⟨b1_0, o1_0, none⟩ cs1_0).pred w0 S) (hr1_0 : GoTy.rep w0 S cs1_0 cap) (hF : slices_ContainsFunc_impl_Light_impl_Light_of_IsValidPlan_c1 fu s' cap = some r) :
    Calls Tryz.prog 80 [v0_, (.func (.func 81) #[] #[(.pointer (some ⟨b1_0, o1_0, none⟩))])].toArray w0 fun e w' => ∃ v, e = .returned v ∧ (Below w0.heap.size w0 w' ∧ VR w' (St ⟨w0, []⟩ S [] [] [] true) v r) := by
 obtain ⟨A, c, rfl, hl⟩ := VR_list h0
 obtain ⟨A2, c2, rfl, hl2⟩ := Light_cells hr1_0
 have H := Mem.start ⟨w0, []⟩ S
 have H := H.pA hl
 have H := H.pA hl2
 have H := H.pushArg (MP.cells ⟨b1_0, o1_0, none⟩ [(.int .i64 cap.Id), (.int .i64 cap.Route.Start), (.slice A2 cap.Route.Fibers.length c2), (.int .i64 cap.Block.First), (.int .i64 cap.Block.Count)]) hp1_0
 refine en Tryz.func80 fun a hf => ?_
 rw [slices_ContainsFunc_impl_Light_impl_Light_of_IsValidPlan_c1] at hF
 refine sqz (pz 1 hf fun a hf => ?_)
 refine wr (pz 2 hf fun a hf => ?_)
 obtain ⟨y, hy, hF⟩ := bs_ hF
 refine oc hf TF.cl115 (slices_IndexFunc_impl_Light_impl_Light_of_IsValidPlan_c1_ok (S := TT) (mk_list (H.rt 2 rfl)) (mp_true (H.get 0 rfl)) ((Light_mk (x := cap) (H.rt 1 rfl))) hy) fun v w a hp3 hf => ?_
 obtain ⟨hb, hp3⟩ := hp3
 obtain rfl := VR_int hp3
 have H := H.keep hb
 refine pz 2 hf fun a hf => ?_
 refine wer ?_
 obtain rfl := oi hF
 refine rT hf ?_
 exact ⟨_, rfl, H.bel, mk_bool⟩
theorem impl_IsValidPlan_ok {S : Nat → Prop} {v0_ : Value} {p : Plan} {r : Bool} (h0 : VR w0 S v0_ p) (hF : impl_IsValidPlan fu p = some r) :
    Calls Tryz.prog 45 [v0_].toArray w0 fun e w' => ∃ v, e = .returned v ∧ (Below w0.heap.size w0 w' ∧ VR w' (St ⟨w0, []⟩ S [] [] [] true) v r) := by
 obtain ⟨A, c, A2, c2, A3, c3, rfl, hl, hl2, hl3⟩ := Plan_open h0
 have H := Mem.start ⟨w0, []⟩ S
 have H := H.pA hl
 have H := H.pA hl2
 have H := H.pA hl3
 refine en Tryz.func45 fun a hf => ?_
 rw [impl_IsValidPlan] at hF
 refine bx hf H fun b' a w hf H => ?_
 refine pz 1 hf fun a hf => ?_
 refine wl_end (then_n (sq (sq ?_)))
 obtain ⟨c4, hGc4, hF⟩ := bs_ hF
 have fh := hf.prune [1] rfl
 have Hm := H.lm 1 0 0 3 7
 refine midF 14 (.bool c4) fh Hm ?_ fun a w hf H => ?_
 ·refine reg (pz 1 hf fun a hf => ?_)
  refine lN 0 hf H TF.la27 fun a hf => ?_
  obtain ⟨y, hy, hGc4⟩ := bs_ hGc4
  refine oc hf TF.cl25 (impl_IsValidNetwork_ok (S := TT) (Network_mkv (x := p.Network) (H.rt 2 rfl) (H.rt 1 rfl)) hy) fun v w a hp hf => ?_
  obtain ⟨hb, hp⟩ := hp
  obtain rfl := VR_bool hp
  have H := H.keep hb
  refine pz 2 hf fun a hf => ?_
  refine iteB hGc4 (fun hc hGc4 => ?_) fun hc hGc4 => ?_
  ·have hf := hf.lit 9 rfl hc
   refine pz 5 hf fun a hf => ?_
   obtain rfl := oi hGc4
   have hf := hf.pn [14, 1]
   have H := H.lm 1 0 0 3 7
   exact wl_end ⟨hf, H⟩
  ·have hf := hf.lit 9 rfl hc
   refine pz 1 hf fun a hf => ?_
   refine wlg hf rfl rfl rfl (op_q hf (rq_loadB hf H TF.ls51 0 rfl rfl rfl) rfl (by decide) fun a hf => ?_)
   refine pz 3 hf fun a hf => ?_
   obtain rfl := oi hGc4
   have hf := hf.pn [14, 1]
   have H := H.lm 1 0 0 3 7
   exact wl_end ⟨hf, H⟩
 refine then_n (ib hF hf (fun hc2 hF => ?_) fun hc2 hF => ?_)
 ·refine sqz (pz 1 hf fun a hf => ?_)
  refine wl_end (then_n (wp_ret (then_r (?_))))
  obtain rfl := oi hF
  refine rT hf ?_
  exact ⟨_, rfl, H.bel, mk_bool⟩
 ·refine wp_skip (then_n (sq (sqz (pz 1 hf fun a hf => ?_))))
  refine lB 0 hf H TF.ls51 fun a hf => ?_
  refine pz 2 hf fun a hf => ?_
  refine wl_end (then_n ?_)
  obtain ⟨out', hB1, hF⟩ := bs_ hF
  have hf := hf.pn [1, 16, 17, 18]
  have H := H.lm 1 0 0 3 7
  refine loopC (fun (s : Int) (a : Act) (w : World) => match s with | i => Fr a 53 [(1, (.pointer (some ⟨b', 0, none⟩))), (16, (.slice A3 p.Lights.length c3)), (17, (.int .i64 (p.Lights.length : Int))), (18, (.int .i64 i))] ∧ Mem ⟨w0, []⟩ S [⟨b', 53, [(.slice A p.Network.Nodes.length c), (.slice A2 p.Network.Fibers.length c2), (.slice A3 p.Lights.length c3)]⟩] [] [] [(false, MP.val [(.slice A3 p.Lights.length c3)] (p.Lights : List Light)), (false, MP.val [(.slice A2 p.Network.Fibers.length c2)] (p.Network.Fibers : List Fiber)), (false, MP.val [(.slice A p.Network.Nodes.length c)] (p.Network.Nodes : List ByteArray))] w) (fun k (s : Int) => impl_IsValidPlan_L1 fu p k s = some out') (fun s => out' = Out.next s) 0 fu hB1 ⟨hf, H⟩ (fun s h => by cases h) ?_ ?_
  ·rintro fk i a w hR1 hI
   replace hR1 : impl_IsValidPlan_L1 fu p (fk + 1) i = some out' := hR1
   rw [impl_IsValidPlan_L1] at hR1
   obtain ⟨hf, H⟩ := hI
   refine sqz (pz 1 hf fun a hf => ?_)
   refine wl_end (then_n (sq (ib hR1 hf (fun hc3 hR1 => ?_) fun hc3 hR1 => ?_)))
   ·refine ws (pz 1 hf fun a hf => ?_)
    obtain ⟨e, he, hR1⟩ := bs_ hR1
    refine wl0 rfl (op_iaddr hf H Tryz.underlying51 TF.sz80 0 rfl rfl rfl he (by decide) fun p2 o cs a hf hr H => ?_)
    obtain ⟨A4, c5, rfl, hl4⟩ := Light_cells hr
    have H := H.pF hl4
    refine oq hf (rq_loadIN hf H TF.la80 1 0 rfl rfl rfl rfl) fun a hf => ?_
    refine aL hf H TF.zv80 fun b2 a w hf H => ?_
    refine pz 1 hf fun a hf => ?_
    refine sB 0 hf H TF.sz80 fun w H => ?_
    refine wl_end (then_n (sq ?_))
    obtain ⟨c6, hGc6, hR1⟩ := bs_ hR1
    have fh2 := hf.prune [1, 16, 17, 18] rfl
    have Hm2 := H.lm 2 0 0 5 28
    refine midF 51 (.bool c6) fh2 Hm2 ?_ fun a w hf H => ?_
    ·refine dw [] 29 fun w hb => ?_
     have H := H.keep hb
     refine zp 0 hf trivial fun a hf => ?_
     refine strT (H.lk 2 0 0 []) (fun w H => trivial) fun hS => ?_
     refine zS 1 [] rfl rfl rfl rfl hf hS (fun w H => rq_loadBN hf H TF.la27 0 rfl rfl rfl rfl) fun a hf => ?_
     refine strT (H.lk 3 0 0 []) (fun w H => H.lk 2 0 0 []) fun hS => ?_
     refine zS 2 [] rfl rfl rfl rfl hf hS (fun w H => rq_loadBN hf H TF.la80 0 rfl rfl rfl rfl) fun a hf => ?_
     obtain ⟨y2, hy2, hGc6⟩ := bs_ hGc6
     refine nn 3 rfl (oC hf TF.cl79 (impl_isLight_ok (S := TT) (Network_mkv (x := p.Network) (H.rt 4 rfl) (H.rt 3 rfl)) (Light_mkv (x := e) (H.rt 0 rfl)) hy2) fun v2 w a hp2 hf => ?_)
     obtain ⟨hb2, hp2⟩ := hp2
     obtain rfl := VR_bool hp2
     have H := H.keep hb2
     have hS := H.lk 3 0 0 []
     refine aS hS ?_
     refine zp 4 hf hS fun a hf => ?_
     refine zp 5 hf hS fun a hf => ?_
     refine iteB hGc6 (fun hc4 hGc6 => ?_) fun hc4 hGc6 => ?_
     ·have hf := hf.lit 28 rfl hc4
      refine zU 6 hf hS fun a hf => ?_
      refine zU 7 hf hS fun a hf => ?_
      refine zU 8 hf hS fun a hf => ?_
      refine zV 9 hf hS fun a hf => ?_
      refine zV 10 hf hS fun a hf => ?_
      refine zV 11 hf hS fun a hf => ?_
      refine zV 12 hf hS fun a hf => ?_
      refine zV 13 hf hS fun a hf => ?_
      refine zV 14 hf hS fun a hf => ?_
      refine zV 15 hf hS fun a hf => ?_
      refine zV 16 hf hS fun a hf => ?_
      refine zV 17 hf hS fun a hf => ?_
      refine zV 18 hf hS fun a hf => ?_
      refine zU 19 hf hS fun a hf => ?_
      refine zp 20 hf hS fun a hf => ?_
      refine zp 21 hf hS fun a hf => ?_
      refine zU 22 hf hS fun a hf => ?_
      refine zU 23 hf hS fun a hf => ?_
      refine zU 24 hf hS fun a hf => ?_
      refine zU 25 hf hS fun a hf => ?_
      refine zU 26 hf hS fun a hf => ?_
      refine zU 27 hf hS fun a hf => ?_
      refine zp 28 hf hS fun a hf => ?_
      refine dk ?_
      obtain rfl := oi hGc6
      have hf := hf.pn [51, 1, 16, 17, 18]
      have H := H.lm 2 0 0 5 28
      exact ⟨hf, H⟩
     ·have hf := hf.lit 28 rfl hc4
      refine zg 6 hf hS fun a hf => ?_
      refine zg 7 hf hS fun a hf => ?_
      refine zg 8 hf hS fun a hf => ?_
      refine iteB hGc6 (fun hc5 hGc6 => ?_) fun hc5 hGc6 => ?_
      ·have hf := hf.lit 31 rfl hc5
       refine zg 9 hf hS fun a hf => ?_
       refine tSg 10 [] rfl rfl rfl rfl rfl rfl hf (by kernel_rfl) (by kernel_rfl) hS (fun w H => rq_loadB hf H TF.ls51 1 rfl rfl rfl) fun a hf => ?_
       refine zg 11 hf hS fun a hf => ?_
       refine zg 12 hf hS fun a hf => ?_
       obtain ⟨e2, he2, hGc6⟩ := bs_ hGc6
       obtain ⟨p3, o2, cs2, hx, hr2, H⟩ := pre_iaddr H Tryz.underlying51 TF.sz80 2 rfl he2
       refine tPg 13 rfl rfl rfl rfl rfl rfl hf (by kernel_rfl) (fun _ => hS) (fun w => rq_iaddrE hf rfl rfl rfl hx w) fun a hf => ?_
       obtain ⟨A5, c7, rfl, hl5⟩ := Light_cells hr2
       have H := H.pF hl5
       refine zg 14 hf hS fun a hf => ?_
       refine strT (H.lk 3 0 0 [1]) (fun w H => H.lk 3 0 0 []) fun hS => ?_
       refine tSg 15 [] rfl rfl rfl rfl rfl rfl hf (by kernel_rfl) (by kernel_rfl) hS (fun w H => rq_loadI hf H TF.ls3 0 0 rfl rfl rfl) fun a hf => ?_
       refine zg 16 hf hS fun a hf => ?_
       refine tSg 17 [] rfl rfl rfl rfl rfl rfl hf (by kernel_rfl) (by kernel_rfl) hS (fun w H => rq_loadB hf H TF.ls3 0 rfl rfl rfl) fun a hf => ?_
       refine zg 18 hf hS fun a hf => ?_
       refine zg 19 hf hS fun a hf => ?_
       refine zp 20 hf hS fun a hf => ?_
       refine zp 21 hf hS fun a hf => ?_
       refine iteB hGc6 (fun hc6 hGc6 => ?_) fun hc6 hGc6 => ?_
       ·have hf := hf.lit 44 rfl hc6
        refine zU 22 hf hS fun a hf => ?_
        refine zU 23 hf hS fun a hf => ?_
        refine zU 24 hf hS fun a hf => ?_
        refine zU 25 hf hS fun a hf => ?_
        refine zU 26 hf hS fun a hf => ?_
        refine zU 27 hf hS fun a hf => ?_
        refine zp 28 hf hS fun a hf => ?_
        refine dk ?_
        obtain rfl := oi hGc6
        have hf := hf.pn [51, 1, 16, 17, 18]
        have H := H.lm 2 0 0 7 112
        exact ⟨hf, H⟩
       ·have hf := hf.lit 44 rfl hc6
        refine zg 22 hf hS fun a hf => ?_
        refine tSg 23 [] rfl rfl rfl rfl rfl rfl hf (by kernel_rfl) (by kernel_rfl) hS (fun w H => rq_loadB hf H TF.ls51 1 rfl rfl rfl) fun a hf => ?_
        refine zg 24 hf hS fun a hf => ?_
        obtain ⟨l, hl_, hGc6⟩ := bs_ hGc6
        obtain ⟨A6, c8, hx2, H⟩ := pre_slice H Tryz.underlying51 TF.sz80 4 (lov := none) (hiv := some (.int .i64 i)) (.inl ⟨rfl, rfl⟩) (.inr rfl) rfl hl_
        refine tPg 25 rfl rfl rfl rfl rfl rfl hf (by kernel_rfl) (fun _ => hS) (fun w => rq_sliceE hf rfl rfl rfl hx2 w) fun a hf => ?_
        refine n1g 26 (by kernel_rfl) rfl rfl rfl rfl hf (op_q hf (rq_makeFunc hf rfl) rfl (by decide) fun a hf => ?_)
        have hS := H.lk 3 0 0 [2]
        refine aS hS ?_
        obtain ⟨y3, hy3, hGc6⟩ := bs_ hGc6
        refine n1g 27 (by kernel_rfl) rfl rfl rfl rfl hf (oC hf TF.cl80 (slices_ContainsFunc_impl_Light_impl_Light_of_IsValidPlan_c1_ok (S := TT) (mk_list (H.rt 0 rfl)) (H.boxTrue 0 rfl) ((Light_mk (x := e) (H.rt 3 rfl))) hy3) fun v3 w a hp3 hf => ?_)
        obtain ⟨hb3, hp3⟩ := hp3
        obtain rfl := VR_bool hp3
        have H := H.keep hb3
        have hS := H.lk 3 0 0 [2]
        refine aS hS ?_
        refine zp 28 hf hS fun a hf => ?_
        refine dk ?_
        obtain rfl := oi hGc6
        have hf := hf.pn [51, 1, 16, 17, 18]
        have H := H.lm 2 0 0 8 224
        exact ⟨hf, H⟩
      ·have hf := hf.lit 31 rfl hc5
       refine zU 9 hf hS fun a hf => ?_
       refine zU 10 hf hS fun a hf => ?_
       refine zU 11 hf hS fun a hf => ?_
       refine zU 12 hf hS fun a hf => ?_
       refine zU 13 hf hS fun a hf => ?_
       refine zU 14 hf hS fun a hf => ?_
       refine zU 15 hf hS fun a hf => ?_
       refine zU 16 hf hS fun a hf => ?_
       refine zU 17 hf hS fun a hf => ?_
       refine zU 18 hf hS fun a hf => ?_
       refine zg 19 hf hS fun a hf => ?_
       refine zp 20 hf hS fun a hf => ?_
       refine zp 21 hf hS fun a hf => ?_
       refine zg 22 hf hS fun a hf => ?_
       refine tSg 23 [] rfl rfl rfl rfl rfl rfl hf (by kernel_rfl) (by kernel_rfl) hS (fun w H => rq_loadB hf H TF.ls51 1 rfl rfl rfl) fun a hf => ?_
       refine zg 24 hf hS fun a hf => ?_
       obtain ⟨l2, hl2_, hGc6⟩ := bs_ hGc6
       obtain ⟨A7, c9, hx3, H⟩ := pre_slice H Tryz.underlying51 TF.sz80 2 (lov := none) (hiv := some (.int .i64 i)) (.inl ⟨rfl, rfl⟩) (.inr rfl) rfl hl2_
       refine tPg 25 rfl rfl rfl rfl rfl rfl hf (by kernel_rfl) (fun _ => hS) (fun w => rq_sliceE hf rfl rfl rfl hx3 w) fun a hf => ?_
       refine n1g 26 (by kernel_rfl) rfl rfl rfl rfl hf (op_q hf (rq_makeFunc hf rfl) rfl (by decide) fun a hf => ?_)
       have hS := H.lk 3 0 0 []
       refine aS hS ?_
       obtain ⟨y4, hy4, hGc6⟩ := bs_ hGc6
       refine n1g 27 (by kernel_rfl) rfl rfl rfl rfl hf (oC hf TF.cl80 (slices_ContainsFunc_impl_Light_impl_Light_of_IsValidPlan_c1_ok (S := TT) (mk_list (H.rt 0 rfl)) (H.boxTrue 0 rfl) ((Light_mk (x := e) (H.rt 1 rfl))) hy4) fun v4 w a hp4 hf => ?_)
       obtain ⟨hb4, hp4⟩ := hp4
       obtain rfl := VR_bool hp4
       have H := H.keep hb4
       have hS := H.lk 3 0 0 []
       refine aS hS ?_
       refine zp 28 hf hS fun a hf => ?_
       refine dk ?_
       obtain rfl := oi hGc6
       have hf := hf.pn [51, 1, 16, 17, 18]
       have H := H.lm 2 0 0 6 56
       exact ⟨hf, H⟩
    refine then_n (ib hR1 hf (fun hc7 hR1 => ?_) fun hc7 hR1 => ?_)
    ·refine sqz (pz 1 hf fun a hf => ?_)
     refine wl_end (then_n (wp_ret (blk_r (then_r (then_r (blk_r (then_r (then_r (?_)))))))))
     obtain rfl := oi hR1
     replace hF := on_ret hF
     obtain rfl := oi hF
     refine rT hf ?_
     exact ⟨_, rfl, H.bel, mk_bool⟩
    ·refine wp_skip (blk_n (then_n (reg (pz 2 hf fun a hf => ?_))))
     refine wl_end ?_
     have hf := hf.pn [1, 16, 17, 18]
     have H := H.lm 1 0 0 3 7
     exact then_n ⟨w64 (i + 1), hR1, hf, H⟩
   ·refine wp_exit (then_x (then_x (blk_e (?_))))
    have hf := hf.pn [1, 16, 17, 18]
    have H := H.lm 1 0 0 3 7
    exact ⟨i, (Option.some.inj hR1).symm, hf, H⟩
  rintro a w ⟨i2, rfl, hf, H⟩
  replace hF := on_next hF
  refine then_n (sqz (pz 1 hf fun a hf => ?_))
  refine wer ?_
  obtain rfl := oi hF
  refine rT hf ?_
  exact ⟨_, rfl, H.bel, mk_bool⟩
theorem impl_FormatPlan_ok {S : Nat → Prop} {v0_ : Value} {p : Plan} {r : ByteArray × Bool} (h0 : VR w0 S v0_ p) (hG : (GLm 0 1 2).pred w0 S) (hF : impl_FormatPlan fu p = some r) :
    Calls Tryz.prog 19 [v0_].toArray w0 fun e w' => ∃ v, e = .returned v ∧ (Below w0.heap.size w0 w' ∧ ∃ u0 u1, v = .tuple #[u0, u1] ∧ VR w' (St ⟨w0, []⟩ S [] [] [] true) u0 r.1 ∧ VR w' (St ⟨w0, []⟩ S [] [] [] true) u1 r.2) := by
 obtain ⟨A, c, A2, c2, A3, c3, rfl, hl, hl2, hl3⟩ := Plan_open h0
 have H := Mem.start ⟨w0, []⟩ S
 have H := H.pA hl
 have H := H.pA hl2
 have H := H.pA hl3
 have H := H.pushArg (GLm 0 1 2) hG
 refine en Tryz.func19 fun a hf => ?_
 rw [impl_FormatPlan] at hF
 refine bx hf H fun b' a w hf H => ?_
 refine pz 2 hf fun a hf => ?_
 refine wl_end (then_n (sq (sq (reg (lN 0 hf H TF.la53 fun a hf => ?_)))))
 obtain ⟨y, hy, hF⟩ := bs_ hF
 refine oc hf TF.cl45 (impl_IsValidPlan_ok (S := TT) (Plan_mkv (x := p) (H.rt 3 rfl) (H.rt 2 rfl) (H.rt 1 rfl)) hy) fun v w a hp hf => ?_
 obtain ⟨hb, hp⟩ := hp
 obtain rfl := VR_bool hp
 have H := H.keep hb
 refine pz 1 hf fun a hf => ?_
 refine wl_end (then_n (ib hF hf (fun hc hF => ?_) fun hc hF => ?_))
 ·refine sqz (pz 2 hf fun a hf => ?_)
  refine wl_end (then_n (wp_ret (then_r (?_))))
  obtain rfl := oi hF
  refine ret_2 hf rfl (rv_tmp hf rfl) (rv_tmp hf rfl) ?_
  exact ⟨_, rfl, H.bel, _, _, rfl, mk_str, mk_bool⟩
 ·refine wp_skip (then_n (sqz (pz 1 hf fun a hf => ?_)))
  refine lN 0 hf H TF.la27 fun a hf => ?_
  obtain ⟨y2, hy2, hF⟩ := bs_ hF
  refine oc hf TF.cl6 (impl_FormatNetwork_ok (S := TT) (Network_mkv (x := p.Network) (H.rt 3 rfl) (H.rt 2 rfl)) (mp_true (H.get 0 rfl)) hy2) fun v2 w a hp2 hf => ?_
  obtain ⟨hb2, v3, v4, rfl, hp3, hp4⟩ := hp2
  obtain rfl := VR_str hp3
  obtain rfl := VR_bool hp4
  have H := H.keep hb2
  refine pz 5 hf fun a hf => ?_
  have hf := hf.pn [1, 4]
  refine we (sqz (pz 1 hf fun a hf => ?_))
  refine lB 0 hf H TF.ls51 fun a hf => ?_
  refine pz 2 hf fun a hf => ?_
  refine wl_end (then_n ?_)
  obtain ⟨out2, hB1, hF⟩ := bs_ hF
  have hf := hf.pn [1, 4, 18, 19, 20]
  have H := H.lm 1 0 0 4 15
  refine loopC (fun (s : ByteArray × Int) (a : Act) (w : World) => match s with | (out', i) => Fr a 45 [(1, (.pointer (some ⟨b', 0, none⟩))), (4, (.string out')), (18, (.slice A3 p.Lights.length c3)), (19, (.int .i64 (p.Lights.length : Int))), (20, (.int .i64 i))] ∧ Mem ⟨w0, []⟩ S [⟨b', 53, [(.slice A p.Network.Nodes.length c), (.slice A2 p.Network.Fibers.length c2), (.slice A3 p.Lights.length c3)]⟩] [] [] [(false, GLm 0 1 2), (false, MP.val [(.slice A3 p.Lights.length c3)] (p.Lights : List Light)), (false, MP.val [(.slice A2 p.Network.Fibers.length c2)] (p.Network.Fibers : List Fiber)), (false, MP.val [(.slice A p.Network.Nodes.length c)] (p.Network.Nodes : List ByteArray))] w) (fun k (s : ByteArray × Int) => impl_FormatPlan_L1 fu p k s.1 s.2 = some out2) (fun s => out2 = s) (y2.1, 0) fu hB1 ⟨hf, H⟩ (fun s h => by cases h) ?_ ?_
  ·rintro fk ⟨out', i⟩ a w hR1 hI
   replace hR1 : impl_FormatPlan_L1 fu p (fk + 1) out' i = some out2 := hR1
   rw [impl_FormatPlan_L1] at hR1
   obtain ⟨hf, H⟩ := hI
   refine sqz (pz 1 hf fun a hf => ?_)
   refine wl_end (then_n (sq (ib hR1 hf (fun hc2 hR1 => ?_) fun hc2 hR1 => ?_)))
   ·refine wp_skip (then_n (sq (wp_block (sq (reg ?_)))))
    obtain ⟨e, he, hR1⟩ := bs_ hR1
    refine wl0 rfl (op_iaddr hf H Tryz.underlying51 TF.sz80 1 rfl rfl rfl he (by decide) fun p2 o cs a hf hr H => ?_)
    obtain ⟨A4, c4, rfl, hl4⟩ := Light_cells hr
    have H := H.pF hl4
    refine oq hf (rq_loadIN hf H TF.la80 1 0 rfl rfl rfl rfl) fun a hf => ?_
    refine aL hf H TF.zv80 fun b2 a w hf H => ?_
    refine sB 0 hf H TF.sz80 fun w H => ?_
    refine wl_end (then_n (dw [] 20 fun w hb => ?_))
    have H := H.keep hb
    refine zp 0 hf trivial fun a hf => ?_
    refine zp 1 hf trivial fun a hf => ?_
    refine strT (H.lk 1 0 0 []) (fun w H => trivial) fun hS => ?_
    refine zS 2 [] rfl rfl rfl rfl hf hS (fun w H => rq_loadB hf H TF.ls3 0 rfl rfl rfl) fun a hf => ?_
    refine zp 6 hf hS fun a hf => ?_
    refine strT (H.lk 3 0 0 []) (fun w H => H.lk 1 0 0 []) fun hS => ?_
    refine zS 7 [] rfl rfl rfl rfl hf hS (fun w H => rq_loadBN hf H TF.la27 1 rfl rfl rfl rfl) fun a hf => ?_
    refine zp 8 hf hS fun a hf => ?_
    refine zS 9 [] rfl rfl rfl rfl hf hS (fun w H => rq_loadBN hf H TF.la30 0 rfl rfl rfl rfl) fun a hf => ?_
    refine zp 13 hf hS fun a hf => ?_
    refine zS 14 [] rfl rfl rfl rfl hf hS (fun w H => rq_loadBN hf H TF.la45 0 rfl rfl rfl rfl) fun a hf => ?_
    obtain ⟨y3, hy3, hR1⟩ := bs_ hR1
    refine nn 3 rfl (oC hf TF.cl27 (strconv_Itoa_ok (S := TT) mk_int (mp_true (H.get 2 rfl)) hy3) fun v5 w a hp5 hf => ?_)
    obtain ⟨hb3, hp5⟩ := hp5
    obtain rfl := VR_str hp5
    have H := H.keep hb3
    have hS := H.lk 3 0 0 []
    refine aS hS ?_
    obtain ⟨s', hs', hR1⟩ := bs_ hR1
    refine zP 4 rfl rfl rfl rfl hf hS (fun w => rq_scat hf rfl rfl hs') fun a hf => ?_
    obtain ⟨s2, hs2, hR1⟩ := bs_ hR1
    refine zP 5 rfl rfl rfl rfl hf hS (fun w => rq_scat hf rfl rfl hs2) fun a hf => ?_
    obtain ⟨y4, hy4, hR1⟩ := bs_ hR1
    refine nn 10 rfl (oC hf TF.cl34 (impl_routeText_ok (S := TT) (Network_mkv (x := p.Network) (H.rt 5 rfl) (H.rt 4 rfl)) (Route_mkv (x := e.Route) (H.rt 0 rfl)) (mp_true (H.get 2 rfl)) hy4) fun v6 w a hp6 hf => ?_)
    obtain ⟨hb4, hp6⟩ := hp6
    obtain rfl := VR_str hp6
    have H := H.keep hb4
    have hS := H.lk 3 0 0 []
    refine aS hS ?_
    obtain ⟨s3, hs3, hR1⟩ := bs_ hR1
    refine zP 11 rfl rfl rfl rfl hf hS (fun w => rq_scat hf rfl rfl hs3) fun a hf => ?_
    obtain ⟨s4, hs4, hR1⟩ := bs_ hR1
    refine zP 12 rfl rfl rfl rfl hf hS (fun w => rq_scat hf rfl rfl hs4) fun a hf => ?_
    obtain ⟨y5, hy5, hR1⟩ := bs_ hR1
    refine nn 15 rfl (oC hf TF.cl41 (impl_blockText_ok (S := TT) Block_mkv (mp_true (H.get 2 rfl)) hy5) fun v7 w a hp7 hf => ?_)
    obtain ⟨hb5, hp7⟩ := hp7
    obtain rfl := VR_str hp7
    have H := H.keep hb5
    have hS := H.lk 3 0 0 []
    refine aS hS ?_
    obtain ⟨s5, hs5, hR1⟩ := bs_ hR1
    refine zP 16 rfl rfl rfl rfl hf hS (fun w => rq_scat hf rfl rfl hs5) fun a hf => ?_
    obtain ⟨s6, hs6, hR1⟩ := bs_ hR1
    refine zP 17 rfl rfl rfl rfl hf hS (fun w => rq_scat hf rfl rfl hs6) fun a hf => ?_
    obtain ⟨s7, hs7, hR1⟩ := bs_ hR1
    refine zP 18 rfl rfl rfl rfl hf hS (fun w => rq_scat hf rfl rfl hs7) fun a hf => ?_
    refine zp 19 hf hS fun a hf => ?_
    refine dk ?_
    have hf := hf.pn [1, 4, 18, 19, 20]
    refine blk_n (then_n (reg (pz 2 hf fun a hf => ?_)))
    refine wl_end ?_
    have hf := hf.pn [1, 4, 18, 19, 20]
    have H := H.lm 2 0 0 6 60
    exact then_n ⟨(s7, w64 (i + 1)), hR1, hf, H⟩
   ·refine wp_exit (then_x (then_x (blk_e (?_))))
    have hf := hf.pn [1, 4, 18, 19, 20]
    have H := H.lm 1 0 0 4 15
    exact ⟨(out', i), (Option.some.inj hR1).symm, hf, H⟩
  rintro a w ⟨⟨out3, i2⟩, rfl, hf, H⟩
  try dsimp only at hF
  refine then_n (sqz (pz 3 hf fun a hf => ?_))
  refine wer ?_
  obtain rfl := oi hF
  refine ret_2 hf rfl (rv_tmp hf rfl) (rv_tmp hf rfl) ?_
  exact ⟨_, rfl, H.bel, _, _, rfl, mk_str, mk_bool⟩
theorem impl_readLight_ok {S : Nat → Prop} {v0_ : Value} {v1_ : Value} {n' : Network} {line : ByteArray} {r : Light × Bool} (h0 : VR w0 S v0_ n') (h1 : VR w0 S v1_ line) (hG : (GLm 0 1 2).pred w0 S) (hF : impl_readLight fu n' line = some r) :
    Calls Tryz.prog 46 [v0_, v1_].toArray w0 fun e w' => ∃ v, e = .returned v ∧ (Below w0.heap.size w0 w' ∧ ∃ F0, ∃ u0 u1, v = .tuple #[u0, u1] ∧ VO w' F0 u0 r.1 ∧ VR w' (St ⟨w0, []⟩ S [] [] [] true) u1 r.2 ∧ New w0 w' F0) := by
 obtain ⟨A, c, A2, c2, rfl, hl, hl2⟩ := Network_open h0
 obtain rfl := VR_str h1
 have H := Mem.start ⟨w0, []⟩ S
 have H := H.pA hl
 have H := H.pA hl2
 have H := H.pushArg (GLm 0 1 2) hG
 refine en Tryz.func46 fun a hf => ?_
 rw [impl_readLight] at hF
 refine bx hf H fun b' a w hf H => ?_
 refine aL hf H TF.zv80 fun b2 a w hf H => ?_
 refine pz 1 hf fun a hf => ?_
 refine wr (pz 1 hf fun a hf => ?_)
 obtain ⟨y, hy, hF⟩ := bs_ hF
 refine oc hf TF.cl29 (strings_Split_ok (S := TT) mk_str mk_str (mp_true (H.get 0 rfl)) hy) fun v w a hp hf => ?_
 obtain ⟨hb, F, hp2, hN⟩ := hp
 obtain ⟨A3, c3, rfl, hl3⟩ := VO_list hp2
 have H := H.aO1 hb hN hl3
 have H := H.lend 0 rfl
 refine pz 1 hf fun a hf => ?_
 refine we (sqz (pz 3 hf fun a hf => ?_))
 refine wl_end (then_n (ib hF hf (fun hc hF => ?_) fun hc hF => ?_))
 ·refine sq (reg (oq hf (rq_build hf (cs := [(.int .i64 0), (.int .i64 0), (.slice none 0 0), (.int .i64 0), (.int .i64 0)]) rfl (fun w => by kernel_rfl)) fun a hf => ?_))
  refine sB 0 hf H TF.sz80 fun w H => ?_
  refine pz 1 hf fun a hf => ?_
  refine wl_end (then_n (wp_ret (then_r (?_))))
  have H := H.ownNil (Int)
  have H := H.lend 0 rfl
  obtain rfl := oi hF
  refine ret_2 hf rfl (rv_cellN hf H 0 TF.la80 rfl rfl rfl) (rv_tmp hf rfl) ?_
  have hN := H.ends1
  exact ⟨_, rfl, H.bel, [], _, _, rfl, ⟨_, Light_ownmk (x := ({ Id := 0, Route := ({ Start := 0, Fibers := [] } : Route), Block := ({ First := 0, Count := 0 } : Block) } : Light)) (H.ownAt 0 rfl), rfl⟩, mk_bool, by first | exact hN | simpa using hN⟩
 ·refine wp_skip (then_n (sqz (pz 1 hf fun a hf => ?_)))
  obtain ⟨e, he, hF⟩ := bs_ hF
  refine wl0 rfl (op_iaddr hf H Tryz.underlying24 TF.sz9 0 rfl rfl rfl he (by decide) fun p o cs a hf hr H => ?_)
  obtain rfl := hr
  refine oq hf (rq_loadI hf H TF.ls9 0 0 rfl rfl rfl) fun a hf => ?_
  obtain ⟨y2, hy2, hF⟩ := bs_ hF
  refine oc hf TF.cl36 (impl_ParseInt_ok (S := TT) mk_str (mp_true (H.get 2 rfl)) hy2) fun v2 w a hp3 hf => ?_
  obtain ⟨hb2, v3, v4, rfl, hp4, hp5⟩ := hp3
  obtain rfl := VR_int hp4
  obtain rfl := VR_bool hp5
  have H := H.keep hb2
  refine pz 5 hf fun a hf => ?_
  have hf := hf.pn [2, 4, 6, 7, 8]
  refine wl_end (then_n (sq ?_))
  obtain ⟨e2, he2, hF⟩ := bs_ hF
  obtain ⟨y3, hy3, hF⟩ := bs_ hF
  refine mid (fun a w => ∃ (b3 : Nat) (A4 : Option Addr) (c4 : Nat) (F4 : List Nat), Fr a 52 [(4, (.pointer (some ⟨b2, 0, none⟩))), (6, (.slice A3 y.length c3)), (7, (.int .i64 y2.1)), (8, (.bool y2.2)), (9, (.pointer (some ⟨b3, 0, none⟩))), (10, (.bool y3.2))] ∧ Mem ⟨w0, []⟩ S [⟨b3, 30, [(.int .i64 y3.1.Start), (.slice A4 y3.1.Fibers.length c4)]⟩, ⟨b2, 80, [(.int .i64 0), (.int .i64 0), (.slice none 0 0), (.int .i64 0), (.int .i64 0)]⟩] [] [⟨F4, MP.own F4 [(.slice A4 y3.1.Fibers.length c4)] (y3.1.Fibers : List Int)⟩, ⟨F, MP.own F [(.slice A3 y.length c3)] (y : List ByteArray)⟩] [(true, MP.val [(.slice A4 y3.1.Fibers.length c4)] (y3.1.Fibers : List Int)), (true, MP.val [(.slice A3 y.length c3)] (y : List ByteArray)), (false, GLm 0 1 2)] w) ?_ ?_
  ·refine dw [9] 11 fun w hb => ?_
   have H := H.keep hb
   refine strT (H.lk 2 0 0 []) (fun w H => trivial) fun hS => ?_
   refine zS 0 [0, 4, 5, 6, 7, 9, 10] rfl rfl rfl rfl hf hS (fun w H => rq_loadBN hf H TF.la27 0 rfl rfl rfl rfl) fun a hf => ?_
   refine zp 1 hf hS fun a hf => ?_
   obtain ⟨p2, o2, cs2, hx, hr2, H⟩ := pre_iaddr H Tryz.underlying24 TF.sz9 1 rfl he2
   refine zP 2 rfl rfl rfl rfl hf hS (fun w => rq_iaddrE hf rfl rfl rfl hx w) fun a hf => ?_
   obtain rfl := hr2
   refine strT (H.lk 2 0 0 [0]) (fun w H => H.lk 1 0 0 []) fun hS => ?_
   refine zS 3 [3, 4, 5, 6, 7, 9, 10] rfl rfl rfl rfl hf hS (fun w H => rq_loadI hf H TF.ls9 0 0 rfl rfl rfl) fun a hf => ?_
   refine on2 (i := 4) (j := 8) (bi := [true, true, true, true, true, false, false, false, false, false, false]) (bj := [true, true, true, true, false, false, false, false, true, false, false]) (by kernel_rfl) rfl rfl rfl rfl rfl rfl ?_ ?_
   ·refine (oC hf TF.cl11 (impl_ParseRoute_ok (S := TT) (Network_mkv (x := n') (H.rt 5 rfl) (H.rt 4 rfl)) mk_str (mp_true (H.get 3 rfl)) hy3) fun v5 w a hp6 hf => ?_)
    obtain ⟨hb3, F3, v6, v7, rfl, hp7, hp8, hN2⟩ := hp6
    obtain ⟨A4, c4, F4, rfl, rfl, hl4⟩ := Route_vo hp7
    obtain rfl := VR_bool hp8
    have H := H.aO1 hb3 hN2 hl4
    have H := H.lend 0 rfl
    have hS := H.lk 2 0 0 [1]
    refine aS hS ?_
    refine zp 5 hf hS fun a hf => ?_
    refine zp 6 hf hS fun a hf => ?_
    refine zp 7 hf hS fun a hf => ?_
    refine nn 8 rfl (op_alloc hf H TF.zv30 rfl (by decide) fun b3 a w hf H => ?_)
    have hS := H.lk 4 0 0 [1]
    refine aS hS ?_
    refine nn 9 rfl (op_storeB hf H 0 TF.sz30 rfl rfl rfl rfl rfl rfl (nle rfl) fun w H => ?_)
    refine ⟨fun h => absurd h (by decide), ?_⟩
    refine tp 10 rfl rfl hf (by kernel_rfl) (fun h => absurd h (by decide)) rfl fun a hf => ?_
    refine dk ?_
    have hf := hf.pn [4, 6, 7, 8, 9, 10]
    have H := H.lm 3 0 3 5 25
    exact ⟨b3, A4, c4, F4, hf, H⟩
   ·refine (op_alloc hf H TF.zv30 rfl (by decide) fun b3 a w hf H => ?_)
    have hS := H.lk 4 0 0 [0]
    refine aS hS ?_
    refine nn 4 rfl (oC hf TF.cl11 (impl_ParseRoute_ok (S := TT) (Network_mkv (x := n') (H.rt 5 rfl) (H.rt 4 rfl)) mk_str (mp_true (H.get 3 rfl)) hy3) fun v5 w a hp6 hf => ?_)
    obtain ⟨hb3, F3, v6, v7, rfl, hp7, hp8, hN2⟩ := hp6
    obtain ⟨A4, c4, F4, rfl, rfl, hl4⟩ := Route_vo hp7
    obtain rfl := VR_bool hp8
    have H := H.aO1 hb3 hN2 hl4
    have H := H.lend 0 rfl
    have hS := H.lk 4 0 0 [1]
    refine aS hS ?_
    refine zp 5 hf hS fun a hf => ?_
    refine zp 6 hf hS fun a hf => ?_
    refine zp 7 hf hS fun a hf => ?_
    refine nn 9 rfl (op_storeB hf H 0 TF.sz30 rfl rfl rfl rfl rfl rfl (nle rfl) fun w H => ?_)
    refine ⟨fun h => absurd h (by decide), ?_⟩
    refine tp 10 rfl rfl hf (by kernel_rfl) (fun h => absurd h (by decide)) rfl fun a hf => ?_
    refine dk ?_
    have hf := hf.pn [4, 6, 7, 8, 9, 10]
    have H := H.lm 3 0 3 5 25
    exact ⟨b3, A4, c4, F4, hf, H⟩
  rintro a w ⟨b3, A4, c4, F4, hf, H⟩
  refine then_n (sqz (pz 1 hf fun a hf => ?_))
  obtain ⟨e3, he3, hF⟩ := bs_ hF
  refine wl0 rfl (op_iaddr hf H Tryz.underlying24 TF.sz9 1 rfl rfl rfl he3 (by decide) fun p3 o3 cs3 a hf hr3 H => ?_)
  obtain rfl := hr3
  refine oq hf (rq_loadI hf H TF.ls9 0 0 rfl rfl rfl) fun a hf => ?_
  obtain ⟨y4, hy4, hF⟩ := bs_ hF
  refine oc hf TF.cl16 (impl_ParseBlock_ok (S := TT) mk_str (mp_true (H.get 3 rfl)) hy4) fun v8 w a hp9 hf => ?_
  obtain ⟨hb4, v9, v10, rfl, hp10, hp11⟩ := hp9
  obtain rfl := Block_open hp10
  obtain rfl := VR_bool hp11
  have H := H.keep hb4
  refine pz 3 hf fun a hf => ?_
  refine aL hf H TF.zv45 fun b4 a w hf H => ?_
  refine sB 0 hf H TF.sz45 fun w H => ?_
  refine pz 1 hf fun a hf => ?_
  refine wr (pz 1 hf fun a hf => ?_)
  refine lN 1 hf H TF.la30 fun a hf => ?_
  refine lN 0 hf H TF.la45 fun a hf => ?_
  refine oq hf (rq_build hf (cs := [(.int .i64 y2.1), (.int .i64 y3.1.Start), (.slice A4 y3.1.Fibers.length c4), (.int .i64 y4.1.First), (.int .i64 y4.1.Count)]) rfl (fun w => by kernel_rfl)) fun a hf => ?_
  refine pz 2 hf fun a hf => ?_
  refine iteB hF (fun hc2 hF => ?_) fun hc2 hF => ?_
  ·have hf := hf.lit 46 rfl hc2
   refine pz 3 hf fun a hf => ?_
   refine iteB hF (fun hc3 hF => ?_) fun hc3 hF => ?_
   ·have hf := hf.lit 49 rfl hc3
    refine pz 2 hf fun a hf => ?_
    refine sB 2 hf H TF.sz80 fun w H => ?_
    refine pz 1 hf fun a hf => ?_
    have hf := hf.pn [4, 5]
    refine wer ?_
    obtain rfl := oi hF
    refine ret_2 hf rfl (rv_cellN hf H 2 TF.la80 rfl rfl rfl) (rv_tmp hf rfl) ?_
    have hN := H.ends1
    exact ⟨_, rfl, H.bel, F4, _, _, rfl, ⟨_, Light_ownmk (x := ({ Id := y2.1, Route := y3.1, Block := y4.1 } : Light)) (H.ownAt 0 rfl), rfl⟩, mk_bool, by first | exact hN | simpa using hN⟩
   ·have hf := hf.lit 49 rfl hc3
    refine pz 2 hf fun a hf => ?_
    refine sB 2 hf H TF.sz80 fun w H => ?_
    refine pz 1 hf fun a hf => ?_
    have hf := hf.pn [4, 5]
    refine wer ?_
    obtain rfl := oi hF
    refine ret_2 hf rfl (rv_cellN hf H 2 TF.la80 rfl rfl rfl) (rv_tmp hf rfl) ?_
    have hN := H.ends1
    exact ⟨_, rfl, H.bel, F4, _, _, rfl, ⟨_, Light_ownmk (x := ({ Id := y2.1, Route := y3.1, Block := y4.1 } : Light)) (H.ownAt 0 rfl), rfl⟩, mk_bool, by first | exact hN | simpa using hN⟩
  ·have hf := hf.lit 46 rfl hc2
   refine pz 5 hf fun a hf => ?_
   refine sB 2 hf H TF.sz80 fun w H => ?_
   refine pz 1 hf fun a hf => ?_
   have hf := hf.pn [4, 5]
   refine wer ?_
   obtain rfl := oi hF
   refine ret_2 hf rfl (rv_cellN hf H 2 TF.la80 rfl rfl rfl) (rv_tmp hf rfl) ?_
   have hN := H.ends1
   exact ⟨_, rfl, H.bel, F4, _, _, rfl, ⟨_, Light_ownmk (x := ({ Id := y2.1, Route := y3.1, Block := y4.1 } : Light)) (H.ownAt 0 rfl), rfl⟩, mk_bool, by first | exact hN | simpa using hN⟩
theorem impl_ParsePlan_ok {S : Nat → Prop} {v0_ : Value} {s' : ByteArray} {r : Plan × Bool} (h0 : VR w0 S v0_ s') (hG : (GLm 0 1 2).pred w0 S) (hF : impl_ParsePlan fu s' = some r) :
    Calls Tryz.prog 20 [v0_].toArray w0 fun e w' => ∃ v, e = .returned v ∧ (Below w0.heap.size w0 w' ∧ ∃ F0, ∃ u0 u1, v = .tuple #[u0, u1] ∧ VO w' F0 u0 r.1 ∧ VR w' (St ⟨w0, []⟩ S [] [] [] true) u1 r.2 ∧ New w0 w' F0) := by
 obtain rfl := VR_str h0
 have H := Mem.start ⟨w0, []⟩ S
 have H := H.pushArg (GLm 0 1 2) hG
 refine en Tryz.func20 fun a hf => ?_
 rw [impl_ParsePlan] at hF
 refine sq (reg (aL hf H TF.zv53 fun b' a w hf H => ?_))
 refine pz 1 hf fun a hf => ?_
 refine wr (pz 1 hf fun a hf => ?_)
 obtain ⟨y, hy, hF⟩ := bs_ hF
 refine oc hf TF.cl42 (strings_Cut_ok (S := TT) mk_str mk_str (mp_true (H.get 0 rfl)) hy) fun v w a hp hf => ?_
 obtain ⟨hb, v2, v3, v4, rfl, hp2, hp3, hp4⟩ := hp
 obtain rfl := VR_str hp2
 obtain rfl := VR_str hp3
 obtain rfl := VR_bool hp4
 have H := H.keep hb
 refine pz 7 hf fun a hf => ?_
 refine we (sqz (pz 1 hf fun a hf => ?_))
 refine wl_end (then_n (ib hF hf (fun hc hF => ?_) fun hc hF => ?_))
 ·refine reg (pz 1 hf fun a hf => ?_)
  obtain ⟨s2, hs2, hF⟩ := bs_ hF
  refine oq hf (rq_scat hf rfl rfl hs2) fun a hf => ?_
  refine pz 1 hf fun a hf => ?_
  obtain ⟨s3, hs3, hF⟩ := bs_ hF
  refine oq hf (rq_scat hf rfl rfl hs3) fun a hf => ?_
  refine pz 2 hf fun a hf => ?_
  refine wr (pz 1 hf fun a hf => ?_)
  obtain ⟨y2, hy2, hF⟩ := bs_ hF
  refine oc hf TF.cl7 (impl_ParseNetwork_ok (S := TT) mk_str (mp_true (H.get 0 rfl)) hy2) fun v5 w a hp5 hf => ?_
  obtain ⟨hb2, F, v6, v7, rfl, hp6, hp7, hN⟩ := hp5
  obtain ⟨A, c, F2, A2, c2, F3, rfl, rfl, hl, hl2⟩ := Network_vo hp6
  obtain rfl := VR_bool hp7
  have H := H.aO2 hb2 hN hl hl2
  have H := H.lend 0 rfl
  have H := H.lend 1 rfl
  refine pz 3 hf fun a hf => ?_
  refine aL hf H TF.zv27 fun b2 a w hf H => ?_
  refine sB 0 hf H TF.sz27 fun w H => ?_
  refine pz 1 hf fun a hf => ?_
  have hf := hf.pn [0, 2, 5, 6, 7, 8]
  refine wl_end (then_n (sq (sq ?_)))
  obtain ⟨c3, hGc3, hF⟩ := bs_ hF
  have fh := hf.prune [0, 2, 5, 6, 7] rfl
  have Hm := H.lm 3 0 3 3 7
  refine midF 40 (.bool c3) fh Hm ?_ fun a w hf H => ?_
  ·refine reg (pz 3 hf fun a hf => ?_)
   refine iteB hGc3 (fun hc2 hGc3 => ?_) fun hc2 hGc3 => ?_
   ·have hf := hf.lit 36 rfl hc2
    refine pz 4 hf fun a hf => ?_
    obtain rfl := oi hGc3
    have hf := hf.pn [40, 0, 2, 5, 6, 7]
    have H := H.lm 3 0 3 3 7
    exact wl_end ⟨hf, H⟩
   ·have hf := hf.lit 36 rfl hc2
    refine pz 4 hf fun a hf => ?_
    obtain rfl := oi hGc3
    have hf := hf.pn [40, 0, 2, 5, 6, 7]
    have H := H.lm 3 0 3 3 7
    exact wl_end ⟨hf, H⟩
  refine then_n (ib hF hf (fun hc3 hF => ?_) fun hc3 hF => ?_)
  ·refine sq (reg (oq hf (rq_build hf (cs := [(.slice none 0 0), (.slice none 0 0), (.slice none 0 0)]) rfl (fun w => by kernel_rfl)) fun a hf => ?_))
   refine sB 1 hf H TF.sz53 fun w H => ?_
   refine pz 1 hf fun a hf => ?_
   refine wl_end (then_n (wp_ret (then_r (?_))))
   have H := H.ownNil (ByteArray)
   have H := H.lend 0 rfl
   have H := H.ownNil (Fiber)
   have H := H.lend 0 rfl
   have H := H.ownNil (Light)
   have H := H.lend 0 rfl
   have H := H.frontD 1 rfl
   have H := H.frontD 2 rfl
   obtain rfl := oi hF
   refine ret_2 hf rfl (rv_cellN hf H 1 TF.la53 rfl rfl rfl) (rv_tmp hf rfl) ?_
   have hN := H.ends3
   exact ⟨_, rfl, H.bel, ([] ++ ([] ++ [])), _, _, rfl, ⟨_, Plan_ownmk (x := ({ Network := ({ Nodes := [], Fibers := [] } : Network), Lights := [] } : Plan)) (H.ownAt 0 rfl) (H.ownAt 1 rfl) (H.ownAt 2 rfl), rfl⟩, mk_bool, by first | exact hN | simpa using hN⟩
  ·refine wp_skip (then_n (sq (reg (lN 0 hf H TF.la27 fun a hf => ?_))))
   refine oq hf (rq_build hf (cs := [(.slice A y2.1.Nodes.length c), (.slice A2 y2.1.Fibers.length c2), (.slice none 0 0)]) rfl (fun w => by kernel_rfl)) fun a hf => ?_
   refine aL hf H TF.zv53 fun b3 a w hf H => ?_
   refine sB 0 hf H TF.sz53 fun w H => ?_
   refine we (sqz (pz 1 hf fun a hf => ?_))
   refine wl_end (then_n (ib hF hf (fun hc4 hF => ?_) fun hc4 hF => ?_))
   ·refine sqz (pz 1 hf fun a hf => ?_)
    obtain ⟨y3, hy3, hF⟩ := bs_ hF
    refine oc hf TF.cl28 (impl_linesOf_ok (S := TT) mk_str (mp_true (H.get 2 rfl)) hy3) fun v8 w a hp8 hf => ?_
    obtain ⟨hb3, F4, v9, v10, rfl, hp9, hp10, hN2⟩ := hp8
    obtain ⟨A3, c4, rfl, hl3⟩ := VO_list hp9
    obtain rfl := VR_bool hp10
    have H := H.aO1 hb3 hN2 hl3
    have H := H.lend 0 rfl
    refine pz 5 hf fun a hf => ?_
    refine we (sqz (pz 2 hf fun a hf => ?_))
    have hf := hf.pn [0, 2, 7, 9, 10, 51]
    refine wl_end (then_n (ib hF hf (fun hc5 hF => ?_) fun hc5 hF => ?_))
    ·refine sq (reg (oq hf (rq_build hf (cs := [(.slice none 0 0), (.slice none 0 0), (.slice none 0 0)]) rfl (fun w => by kernel_rfl)) fun a hf => ?_))
     refine sB 2 hf H TF.sz53 fun w H => ?_
     refine pz 1 hf fun a hf => ?_
     refine wl_end (then_n (wp_ret (then_r (then_r (?_)))))
     have H := H.ownNil (ByteArray)
     have H := H.lend 0 rfl
     have H := H.ownNil (Fiber)
     have H := H.lend 0 rfl
     have H := H.ownNil (Light)
     have H := H.lend 0 rfl
     have H := H.frontD 1 rfl
     have H := H.frontD 2 rfl
     obtain rfl := oi hF
     refine ret_2 hf rfl (rv_cellN hf H 2 TF.la53 rfl rfl rfl) (rv_tmp hf rfl) ?_
     have hN := H.ends3
     exact ⟨_, rfl, H.bel, ([] ++ ([] ++ [])), _, _, rfl, ⟨_, Plan_ownmk (x := ({ Network := ({ Nodes := [], Fibers := [] } : Network), Lights := [] } : Plan)) (H.ownAt 0 rfl) (H.ownAt 1 rfl) (H.ownAt 2 rfl), rfl⟩, mk_bool, by first | exact hN | simpa using hN⟩
    ·refine wp_skip (then_n (sqz (pz 3 hf fun a hf => ?_)))
     refine wl_end (then_n ?_)
     have H := H.nilRow (Light) (.ow []) rfl rfl 80
     obtain ⟨out', hB1, hF⟩ := bs_ hF
     have hf := hf.pn [0, 2, 7, 9, 53, 54, 55]
     have H := H.lm 7 1 7 4 15
     refine loopC (fun (s : Int × List Light) (a : Act) (w : World) => match s with | (i, m) => ∃ (A4 : Option Addr) (c5 : Nat) (E : Go.TypeId) (Fs : List (List Nat)), Fr a 89 [(0, (.string s')), (2, (.pointer (some ⟨b', 0, none⟩))), (7, (.pointer (some ⟨b2, 0, none⟩))), (9, (.pointer (some ⟨b3, 0, none⟩))), (53, (.slice A3 y3.1.length c4)), (54, (.int .i64 (y3.1.length : Int))), (55, (.int .i64 i))] ∧ Mem ⟨w0, []⟩ S [⟨b3, 53, [(.slice A y2.1.Nodes.length c), (.slice A2 y2.1.Fibers.length c2), (.slice A4 m.length c5)]⟩, ⟨b2, 27, [(.slice A y2.1.Nodes.length c), (.slice A2 y2.1.Fibers.length c2)]⟩, ⟨b', 53, [(.slice none 0 0), (.slice none 0 0), (.slice none 0 0)]⟩] [⟨.ow Fs, E, A4, c5, (m : List Light)⟩] [⟨F4, MP.own F4 [(.slice A3 y3.1.length c4)] (y3.1 : List ByteArray)⟩, ⟨F2, MP.own F2 [(.slice A y2.1.Nodes.length c)] (y2.1.Nodes : List ByteArray)⟩, ⟨F3, MP.own F3 [(.slice A2 y2.1.Fibers.length c2)] (y2.1.Fibers : List Fiber)⟩] [(true, MP.val [(.slice A3 y3.1.length c4)] (y3.1 : List ByteArray)), (true, MP.val [(.slice A2 y2.1.Fibers.length c2)] (y2.1.Fibers : List Fiber)), (true, MP.val [(.slice A y2.1.Nodes.length c)] (y2.1.Nodes : List ByteArray)), (false, GLm 0 1 2)] w) (fun k (s : Int × List Light) => impl_ParsePlan_L1 fu y2 y3 k s.1 s.2 = some out') (fun s => out' = Out.next s) (0, ([] : List Light)) fu hB1 ⟨none, 0, 80, [], hf, H⟩ (fun s h => by cases h) ?_ ?_
     ·rintro fk ⟨i, m⟩ a w hR1 hI
      replace hR1 : impl_ParsePlan_L1 fu y2 y3 (fk + 1) i m = some out' := hR1
      rw [impl_ParsePlan_L1] at hR1
      obtain ⟨A4, c5, E, Fs, hf, H⟩ := hI
      refine sqz (pz 1 hf fun a hf => ?_)
      refine wl_end (then_n (sq (ib hR1 hf (fun hc6 hR1 => ?_) fun hc6 hR1 => ?_)))
      ·refine wp_skip (then_n (sq (wp_block (sq (reg ?_)))))
       obtain ⟨e, he, hR1⟩ := bs_ hR1
       refine wl0 rfl (op_iaddr hf H Tryz.underlying24 TF.sz9 0 rfl rfl rfl he (by decide) fun p o cs a hf hr H => ?_)
       obtain rfl := hr
       refine oq hf (rq_loadI hf H TF.ls9 0 0 rfl rfl rfl) fun a hf => ?_
       refine pz 1 hf fun a hf => ?_
       refine wr (lN 1 hf H TF.la27 fun a hf => ?_)
       refine pz 1 hf fun a hf => ?_
       obtain ⟨y4, hy4, hR1⟩ := bs_ hR1
       refine oc hf TF.cl46 (impl_readLight_ok (S := TT) (Network_mkv (x := y2.1) (H.rt 3 rfl) (H.rt 2 rfl)) mk_str (mp_true (H.get 4 rfl)) hy4) fun v11 w a hp11 hf => ?_
       obtain ⟨hb4, F6, v12, v13, rfl, hp12, hp13, hN3⟩ := hp11
       obtain ⟨A5, c6, F7, rfl, rfl, hl4⟩ := Light_vo hp12
       obtain rfl := VR_bool hp13
       have H := H.aO1 hb4 hN3 hl4
       have H := H.lend 0 rfl
       refine pz 3 hf fun a hf => ?_
       refine aL hf H TF.zv80 fun b4 a w hf H => ?_
       refine sB 0 hf H TF.sz80 fun w H => ?_
       refine pz 1 hf fun a hf => ?_
       refine we (sqz (pz 2 hf fun a hf => ?_))
       refine wl_end (then_n (ib hR1 hf (fun hc7 hR1 => ?_) fun hc7 hR1 => ?_))
       ·refine sq (reg (oq hf (rq_build hf (cs := [(.slice none 0 0), (.slice none 0 0), (.slice none 0 0)]) rfl (fun w => by kernel_rfl)) fun a hf => ?_))
        refine sB 3 hf H TF.sz53 fun w H => ?_
        refine pz 1 hf fun a hf => ?_
        have hf := hf.pn [2, 3]
        refine wl_end (then_n (wp_ret (then_r (blk_r (then_r (then_r (blk_r (then_r (then_r (?_))))))))))
        have H := H.ownNil (ByteArray)
        have H := H.lend 0 rfl
        have H := H.ownNil (Fiber)
        have H := H.lend 0 rfl
        have H := H.ownNil (Light)
        have H := H.lend 0 rfl
        have H := H.frontD 1 rfl
        have H := H.frontD 2 rfl
        obtain rfl := oi hR1
        replace hF := on_ret hF
        obtain rfl := oi hF
        refine ret_2 hf rfl (rv_cellN hf H 3 TF.la53 rfl rfl rfl) (rv_tmp hf rfl) ?_
        have hN := H.ends3
        exact ⟨_, rfl, H.bel, ([] ++ ([] ++ [])), _, _, rfl, ⟨_, Plan_ownmk (x := ({ Network := ({ Nodes := [], Fibers := [] } : Network), Lights := [] } : Plan)) (H.ownAt 0 rfl) (H.ownAt 1 rfl) (H.ownAt 2 rfl), rfl⟩, mk_bool, by first | exact hN | simpa using hN⟩
       ·refine wp_skip (then_n (reg (pz 1 hf fun a hf => ?_)))
        refine lB 1 hf H TF.ls51 fun a hf => ?_
        refine lN 0 hf H TF.la80 fun a hf => ?_
        have H := H.recast (X := [(⟨F7, MP.own F7 [(.slice A5 y4.1.Route.Fibers.length c6)] (y4.1.Route.Fibers : List Int)⟩ : DI)]) (Y := [(⟨F7, MP.own F7 [(.int .i64 y4.1.Id), (.int .i64 y4.1.Route.Start), (.slice A5 y4.1.Route.Fibers.length c6), (.int .i64 y4.1.Block.First), (.int .i64 y4.1.Block.Count)] (y4.1 : Light)⟩ : DI)]) (List.Perm.of_eq (by simp)) fun _ => ps1 (Light_ownmk (x := y4.1) (H.ownAt 0 rfl)) ps0
        refine wl0 rfl (op_bsliceO hf 80 H rfl (fun w => by kernel_rfl) (by decide) fun A6 a w hf H => ?_)
        obtain ⟨al, hal, hR1⟩ := bs_ hR1
        have H := H.frontR 1 rfl
        refine wl0 rfl (op_appO hf H Tryz.underlying51 TF.ai80 rfl (by decide) rfl rfl hal (by decide) fun E2 A7 c7 a w hf H => ?_)
        refine pz 1 hf fun a hf => ?_
        refine sB 1 hf H TF.sz51 fun w H => ?_
        have hf := hf.pn [0, 2, 7, 9, 53, 54, 55]
        refine wl_end (blk_n (then_n (reg (pz 2 hf fun a hf => ?_))))
        refine wl_end ?_
        have hf := hf.pn [0, 2, 7, 9, 53, 54, 55]
        have H := H.lm 14 1 7 6 60
        exact then_n ⟨(w64 (i + 1), al), hR1, A7, c7, E2, Fs ++ [F7], hf, H⟩
      ·refine wp_exit (then_x (then_x (blk_e (?_))))
       have hf := hf.pn [0, 2, 7, 9, 53, 54, 55]
       have H := H.lm 7 1 7 4 15
       exact ⟨(i, m), (Option.some.inj hR1).symm, A4, c5, E, Fs, hf, H⟩
     rintro a w ⟨⟨i2, m2⟩, rfl, A8, c8, E3, Fs2, hf, H⟩
     replace hF := on_next hF
     try dsimp only at hF
     refine then_n (sq (sq (reg (lN 0 hf H TF.la53 fun a hf => ?_))))
     obtain ⟨y5, hy5, hF⟩ := bs_ hF
     refine oc hf TF.cl19 (impl_FormatPlan_ok (S := TT) (Plan_mkv (x := ({ Network := y2.1, Lights := m2 } : Plan)) (H.rt 2 rfl) (H.rt 1 rfl) (H.rowTrue 0 rfl)) (mp_true (H.get 3 rfl)) hy5) fun v14 w a hp14 hf => ?_
     obtain ⟨hb5, v15, v16, rfl, hp15, hp16⟩ := hp14
     obtain rfl := VR_str hp15
     obtain rfl := VR_bool hp16
     have H := H.keep hb5
     refine pz 5 hf fun a hf => ?_
     refine wl_end (then_n (sq ?_))
     obtain ⟨c9, hGc9, hF⟩ := bs_ hF
     have fh2 := hf.prune [2, 9] rfl
     have Hm2 := H.lm 5 1 6 4 14
     refine midF 86 (.bool c9) fh2 Hm2 ?_ fun a w hf H => ?_
     ·refine reg (pz 3 hf fun a hf => ?_)
      refine iteB hGc9 (fun hc8 hGc9 => ?_) fun hc8 hGc9 => ?_
      ·have hf := hf.lit 82 rfl hc8
       refine pz 4 hf fun a hf => ?_
       obtain rfl := oi hGc9
       have hf := hf.pn [86, 2, 9]
       have H := H.lm 5 1 6 4 14
       exact wl_end ⟨hf, H⟩
      ·have hf := hf.lit 82 rfl hc8
       refine pz 4 hf fun a hf => ?_
       obtain rfl := oi hGc9
       have hf := hf.pn [86, 2, 9]
       have H := H.lm 5 1 6 4 14
       exact wl_end ⟨hf, H⟩
     refine then_n (ib hF hf (fun hc9 hF => ?_) fun hc9 hF => ?_)
     ·refine sq (reg (oq hf (rq_build hf (cs := [(.slice none 0 0), (.slice none 0 0), (.slice none 0 0)]) rfl (fun w => by kernel_rfl)) fun a hf => ?_))
      refine sB 1 hf H TF.sz53 fun w H => ?_
      refine pz 1 hf fun a hf => ?_
      refine wl_end (then_n (wp_ret (then_r (?_))))
      have H := H.ownNil (ByteArray)
      have H := H.lend 0 rfl
      have H := H.ownNil (Fiber)
      have H := H.lend 0 rfl
      have H := H.ownNil (Light)
      have H := H.lend 0 rfl
      have H := H.frontD 1 rfl
      have H := H.frontD 2 rfl
      obtain rfl := oi hF
      refine ret_2 hf rfl (rv_cellN hf H 1 TF.la53 rfl rfl rfl) (rv_tmp hf rfl) ?_
      have hN := H.ends3
      exact ⟨_, rfl, H.bel, ([] ++ ([] ++ [])), _, _, rfl, ⟨_, Plan_ownmk (x := ({ Network := ({ Nodes := [], Fibers := [] } : Network), Lights := [] } : Plan)) (H.ownAt 0 rfl) (H.ownAt 1 rfl) (H.ownAt 2 rfl), rfl⟩, mk_bool, by first | exact hN | simpa using hN⟩
     ·refine wp_skip (then_n (sq (reg (lN 0 hf H TF.la53 fun a hf => ?_))))
      refine sB 1 hf H TF.sz53 fun w H => ?_
      refine pz 1 hf fun a hf => ?_
      refine wer ?_
      obtain ⟨F8, H⟩ := H.freezeOwn 0 rfl
      have H := H.lend 0 rfl
      have H := H.frontD 2 rfl
      have H := H.frontD 2 rfl
      obtain rfl := oi hF
      refine ret_2 hf rfl (rv_cellN hf H 1 TF.la53 rfl rfl rfl) (rv_tmp hf rfl) ?_
      have hN := H.ends3
      exact ⟨_, rfl, H.bel, (F2 ++ (F3 ++ F8)), _, _, rfl, ⟨_, Plan_ownmk (x := ({ Network := y2.1, Lights := m2 } : Plan)) (H.ownAt 0 rfl) (H.ownAt 1 rfl) (H.ownAt 2 rfl), rfl⟩, mk_bool, by first | exact hN | simpa using hN⟩
   ·refine wp_skip (then_n (sq (sq (reg (lN 0 hf H TF.la53 fun a hf => ?_)))))
    have H := H.pushNil (Light) true
    obtain ⟨y6, hy6, hF⟩ := bs_ hF
    refine oc hf TF.cl19 (impl_FormatPlan_ok (S := TT) (Plan_mkv (x := ({ Network := y2.1, Lights := [] } : Plan)) (H.rt 2 rfl) (H.rt 1 rfl) (H.rt 0 rfl)) (mp_true (H.get 3 rfl)) hy6) fun v17 w a hp17 hf => ?_
    obtain ⟨hb6, v18, v19, rfl, hp18, hp19⟩ := hp17
    obtain rfl := VR_str hp18
    obtain rfl := VR_bool hp19
    have H := H.keep hb6
    refine pz 5 hf fun a hf => ?_
    refine wl_end (then_n (sq ?_))
    obtain ⟨c10, hGc10, hF⟩ := bs_ hF
    have fh3 := hf.prune [2, 9] rfl
    have Hm3 := H.lm 5 0 3 4 14
    refine midF 86 (.bool c10) fh3 Hm3 ?_ fun a w hf H => ?_
    ·refine reg (pz 3 hf fun a hf => ?_)
     refine iteB hGc10 (fun hc10 hGc10 => ?_) fun hc10 hGc10 => ?_
     ·have hf := hf.lit 82 rfl hc10
      refine pz 4 hf fun a hf => ?_
      obtain rfl := oi hGc10
      have hf := hf.pn [86, 2, 9]
      have H := H.lm 5 0 3 4 14
      exact wl_end ⟨hf, H⟩
     ·have hf := hf.lit 82 rfl hc10
      refine pz 4 hf fun a hf => ?_
      obtain rfl := oi hGc10
      have hf := hf.pn [86, 2, 9]
      have H := H.lm 5 0 3 4 14
      exact wl_end ⟨hf, H⟩
    refine then_n (ib hF hf (fun hc11 hF => ?_) fun hc11 hF => ?_)
    ·refine sq (reg (oq hf (rq_build hf (cs := [(.slice none 0 0), (.slice none 0 0), (.slice none 0 0)]) rfl (fun w => by kernel_rfl)) fun a hf => ?_))
     refine sB 1 hf H TF.sz53 fun w H => ?_
     refine pz 1 hf fun a hf => ?_
     refine wl_end (then_n (wp_ret (then_r (?_))))
     have H := H.ownNil (ByteArray)
     have H := H.lend 0 rfl
     have H := H.ownNil (Fiber)
     have H := H.lend 0 rfl
     have H := H.ownNil (Light)
     have H := H.lend 0 rfl
     have H := H.frontD 1 rfl
     have H := H.frontD 2 rfl
     obtain rfl := oi hF
     refine ret_2 hf rfl (rv_cellN hf H 1 TF.la53 rfl rfl rfl) (rv_tmp hf rfl) ?_
     have hN := H.ends3
     exact ⟨_, rfl, H.bel, ([] ++ ([] ++ [])), _, _, rfl, ⟨_, Plan_ownmk (x := ({ Network := ({ Nodes := [], Fibers := [] } : Network), Lights := [] } : Plan)) (H.ownAt 0 rfl) (H.ownAt 1 rfl) (H.ownAt 2 rfl), rfl⟩, mk_bool, by first | exact hN | simpa using hN⟩
    ·refine wp_skip (then_n (sq (reg (lN 0 hf H TF.la53 fun a hf => ?_))))
     refine sB 1 hf H TF.sz53 fun w H => ?_
     refine pz 1 hf fun a hf => ?_
     refine wer ?_
     have H := H.ownNil (Light)
     have H := H.lend 0 rfl
     have H := H.frontD 2 rfl
     have H := H.frontD 2 rfl
     obtain rfl := oi hF
     refine ret_2 hf rfl (rv_cellN hf H 1 TF.la53 rfl rfl rfl) (rv_tmp hf rfl) ?_
     have hN := H.ends3
     exact ⟨_, rfl, H.bel, (F2 ++ (F3 ++ [])), _, _, rfl, ⟨_, Plan_ownmk (x := ({ Network := y2.1, Lights := [] } : Plan)) (H.ownAt 0 rfl) (H.ownAt 1 rfl) (H.ownAt 2 rfl), rfl⟩, mk_bool, by first | exact hN | simpa using hN⟩
 ·refine wp_skip (then_n (sqz (pz 1 hf fun a hf => ?_)))
  obtain ⟨y7, hy7, hF⟩ := bs_ hF
  refine oc hf TF.cl7 (impl_ParseNetwork_ok (S := TT) mk_str (mp_true (H.get 0 rfl)) hy7) fun v20 w a hp20 hf => ?_
  obtain ⟨hb7, F9, v21, v22, rfl, hp21, hp22, hN4⟩ := hp20
  obtain ⟨A9, c11, F10, A10, c12, F11, rfl, rfl, hl5, hl6⟩ := Network_vo hp21
  obtain rfl := VR_bool hp22
  have H := H.aO2 hb7 hN4 hl5 hl6
  have H := H.lend 0 rfl
  have H := H.lend 1 rfl
  refine pz 3 hf fun a hf => ?_
  refine aL hf H TF.zv27 fun b5 a w hf H => ?_
  refine sB 0 hf H TF.sz27 fun w H => ?_
  refine pz 1 hf fun a hf => ?_
  have hf := hf.pn [0, 2, 5, 6, 7, 8]
  refine wl_end (then_n (sq (sq ?_)))
  obtain ⟨c13, hGc13, hF⟩ := bs_ hF
  have fh4 := hf.prune [0, 2, 5, 6, 7] rfl
  have Hm4 := H.lm 3 0 3 3 7
  refine midF 40 (.bool c13) fh4 Hm4 ?_ fun a w hf H => ?_
  ·refine reg (pz 3 hf fun a hf => ?_)
   refine iteB hGc13 (fun hc12 hGc13 => ?_) fun hc12 hGc13 => ?_
   ·have hf := hf.lit 36 rfl hc12
    refine pz 4 hf fun a hf => ?_
    obtain rfl := oi hGc13
    have hf := hf.pn [40, 0, 2, 5, 6, 7]
    have H := H.lm 3 0 3 3 7
    exact wl_end ⟨hf, H⟩
   ·have hf := hf.lit 36 rfl hc12
    refine pz 4 hf fun a hf => ?_
    obtain rfl := oi hGc13
    have hf := hf.pn [40, 0, 2, 5, 6, 7]
    have H := H.lm 3 0 3 3 7
    exact wl_end ⟨hf, H⟩
  refine then_n (ib hF hf (fun hc13 hF => ?_) fun hc13 hF => ?_)
  ·refine sq (reg (oq hf (rq_build hf (cs := [(.slice none 0 0), (.slice none 0 0), (.slice none 0 0)]) rfl (fun w => by kernel_rfl)) fun a hf => ?_))
   refine sB 1 hf H TF.sz53 fun w H => ?_
   refine pz 1 hf fun a hf => ?_
   refine wl_end (then_n (wp_ret (then_r (?_))))
   have H := H.ownNil (ByteArray)
   have H := H.lend 0 rfl
   have H := H.ownNil (Fiber)
   have H := H.lend 0 rfl
   have H := H.ownNil (Light)
   have H := H.lend 0 rfl
   have H := H.frontD 1 rfl
   have H := H.frontD 2 rfl
   obtain rfl := oi hF
   refine ret_2 hf rfl (rv_cellN hf H 1 TF.la53 rfl rfl rfl) (rv_tmp hf rfl) ?_
   have hN := H.ends3
   exact ⟨_, rfl, H.bel, ([] ++ ([] ++ [])), _, _, rfl, ⟨_, Plan_ownmk (x := ({ Network := ({ Nodes := [], Fibers := [] } : Network), Lights := [] } : Plan)) (H.ownAt 0 rfl) (H.ownAt 1 rfl) (H.ownAt 2 rfl), rfl⟩, mk_bool, by first | exact hN | simpa using hN⟩
  ·refine wp_skip (then_n (sq (reg (lN 0 hf H TF.la27 fun a hf => ?_))))
   refine oq hf (rq_build hf (cs := [(.slice A9 y7.1.Nodes.length c11), (.slice A10 y7.1.Fibers.length c12), (.slice none 0 0)]) rfl (fun w => by kernel_rfl)) fun a hf => ?_
   refine aL hf H TF.zv53 fun b6 a w hf H => ?_
   refine sB 0 hf H TF.sz53 fun w H => ?_
   refine we (sqz (pz 1 hf fun a hf => ?_))
   refine wl_end (then_n (ib hF hf (fun hc14 hF => ?_) fun hc14 hF => ?_))
   ·refine sqz (pz 1 hf fun a hf => ?_)
    obtain ⟨y8, hy8, hF⟩ := bs_ hF
    refine oc hf TF.cl28 (impl_linesOf_ok (S := TT) mk_str (mp_true (H.get 2 rfl)) hy8) fun v23 w a hp23 hf => ?_
    obtain ⟨hb8, F12, v24, v25, rfl, hp24, hp25, hN5⟩ := hp23
    obtain ⟨A11, c14, rfl, hl7⟩ := VO_list hp24
    obtain rfl := VR_bool hp25
    have H := H.aO1 hb8 hN5 hl7
    have H := H.lend 0 rfl
    refine pz 5 hf fun a hf => ?_
    refine we (sqz (pz 2 hf fun a hf => ?_))
    have hf := hf.pn [0, 2, 7, 9, 10, 51]
    refine wl_end (then_n (ib hF hf (fun hc15 hF => ?_) fun hc15 hF => ?_))
    ·refine sq (reg (oq hf (rq_build hf (cs := [(.slice none 0 0), (.slice none 0 0), (.slice none 0 0)]) rfl (fun w => by kernel_rfl)) fun a hf => ?_))
     refine sB 2 hf H TF.sz53 fun w H => ?_
     refine pz 1 hf fun a hf => ?_
     refine wl_end (then_n (wp_ret (then_r (then_r (?_)))))
     have H := H.ownNil (ByteArray)
     have H := H.lend 0 rfl
     have H := H.ownNil (Fiber)
     have H := H.lend 0 rfl
     have H := H.ownNil (Light)
     have H := H.lend 0 rfl
     have H := H.frontD 1 rfl
     have H := H.frontD 2 rfl
     obtain rfl := oi hF
     refine ret_2 hf rfl (rv_cellN hf H 2 TF.la53 rfl rfl rfl) (rv_tmp hf rfl) ?_
     have hN := H.ends3
     exact ⟨_, rfl, H.bel, ([] ++ ([] ++ [])), _, _, rfl, ⟨_, Plan_ownmk (x := ({ Network := ({ Nodes := [], Fibers := [] } : Network), Lights := [] } : Plan)) (H.ownAt 0 rfl) (H.ownAt 1 rfl) (H.ownAt 2 rfl), rfl⟩, mk_bool, by first | exact hN | simpa using hN⟩
    ·refine wp_skip (then_n (sqz (pz 3 hf fun a hf => ?_)))
     refine wl_end (then_n ?_)
     have H := H.nilRow (Light) (.ow []) rfl rfl 80
     obtain ⟨out2, hB1, hF⟩ := bs_ hF
     have hf := hf.pn [0, 2, 7, 9, 53, 54, 55]
     have H := H.lm 7 1 7 4 15
     refine loopC (fun (s : Int × List Light) (a : Act) (w : World) => match s with | (i3, m3) => ∃ (A12 : Option Addr) (c15 : Nat) (E4 : Go.TypeId) (Fs3 : List (List Nat)), Fr a 89 [(0, (.string s')), (2, (.pointer (some ⟨b', 0, none⟩))), (7, (.pointer (some ⟨b5, 0, none⟩))), (9, (.pointer (some ⟨b6, 0, none⟩))), (53, (.slice A11 y8.1.length c14)), (54, (.int .i64 (y8.1.length : Int))), (55, (.int .i64 i3))] ∧ Mem ⟨w0, []⟩ S [⟨b6, 53, [(.slice A9 y7.1.Nodes.length c11), (.slice A10 y7.1.Fibers.length c12), (.slice A12 m3.length c15)]⟩, ⟨b5, 27, [(.slice A9 y7.1.Nodes.length c11), (.slice A10 y7.1.Fibers.length c12)]⟩, ⟨b', 53, [(.slice none 0 0), (.slice none 0 0), (.slice none 0 0)]⟩] [⟨.ow Fs3, E4, A12, c15, (m3 : List Light)⟩] [⟨F12, MP.own F12 [(.slice A11 y8.1.length c14)] (y8.1 : List ByteArray)⟩, ⟨F10, MP.own F10 [(.slice A9 y7.1.Nodes.length c11)] (y7.1.Nodes : List ByteArray)⟩, ⟨F11, MP.own F11 [(.slice A10 y7.1.Fibers.length c12)] (y7.1.Fibers : List Fiber)⟩] [(true, MP.val [(.slice A11 y8.1.length c14)] (y8.1 : List ByteArray)), (true, MP.val [(.slice A10 y7.1.Fibers.length c12)] (y7.1.Fibers : List Fiber)), (true, MP.val [(.slice A9 y7.1.Nodes.length c11)] (y7.1.Nodes : List ByteArray)), (false, GLm 0 1 2)] w) (fun k (s : Int × List Light) => impl_ParsePlan_L2 fu y7 y8 k s.1 s.2 = some out2) (fun s => out2 = Out.next s) (0, ([] : List Light)) fu hB1 ⟨none, 0, 80, [], hf, H⟩ (fun s h => by cases h) ?_ ?_
     ·rintro fk ⟨i3, m3⟩ a w hR1 hI
      replace hR1 : impl_ParsePlan_L2 fu y7 y8 (fk + 1) i3 m3 = some out2 := hR1
      rw [impl_ParsePlan_L2] at hR1
      obtain ⟨A12, c15, E4, Fs3, hf, H⟩ := hI
      refine sqz (pz 1 hf fun a hf => ?_)
      refine wl_end (then_n (sq (ib hR1 hf (fun hc16 hR1 => ?_) fun hc16 hR1 => ?_)))
      ·refine wp_skip (then_n (sq (wp_block (sq (reg ?_)))))
       obtain ⟨e2, he2, hR1⟩ := bs_ hR1
       refine wl0 rfl (op_iaddr hf H Tryz.underlying24 TF.sz9 0 rfl rfl rfl he2 (by decide) fun p2 o2 cs2 a hf hr2 H => ?_)
       obtain rfl := hr2
       refine oq hf (rq_loadI hf H TF.ls9 0 0 rfl rfl rfl) fun a hf => ?_
       refine pz 1 hf fun a hf => ?_
       refine wr (lN 1 hf H TF.la27 fun a hf => ?_)
       refine pz 1 hf fun a hf => ?_
       obtain ⟨y9, hy9, hR1⟩ := bs_ hR1
       refine oc hf TF.cl46 (impl_readLight_ok (S := TT) (Network_mkv (x := y7.1) (H.rt 3 rfl) (H.rt 2 rfl)) mk_str (mp_true (H.get 4 rfl)) hy9) fun v26 w a hp26 hf => ?_
       obtain ⟨hb9, F14, v27, v28, rfl, hp27, hp28, hN6⟩ := hp26
       obtain ⟨A13, c16, F15, rfl, rfl, hl8⟩ := Light_vo hp27
       obtain rfl := VR_bool hp28
       have H := H.aO1 hb9 hN6 hl8
       have H := H.lend 0 rfl
       refine pz 3 hf fun a hf => ?_
       refine aL hf H TF.zv80 fun b7 a w hf H => ?_
       refine sB 0 hf H TF.sz80 fun w H => ?_
       refine pz 1 hf fun a hf => ?_
       refine we (sqz (pz 2 hf fun a hf => ?_))
       refine wl_end (then_n (ib hR1 hf (fun hc17 hR1 => ?_) fun hc17 hR1 => ?_))
       ·refine sq (reg (oq hf (rq_build hf (cs := [(.slice none 0 0), (.slice none 0 0), (.slice none 0 0)]) rfl (fun w => by kernel_rfl)) fun a hf => ?_))
        refine sB 3 hf H TF.sz53 fun w H => ?_
        refine pz 1 hf fun a hf => ?_
        have hf := hf.pn [2, 3]
        refine wl_end (then_n (wp_ret (then_r (blk_r (then_r (then_r (blk_r (then_r (then_r (?_))))))))))
        have H := H.ownNil (ByteArray)
        have H := H.lend 0 rfl
        have H := H.ownNil (Fiber)
        have H := H.lend 0 rfl
        have H := H.ownNil (Light)
        have H := H.lend 0 rfl
        have H := H.frontD 1 rfl
        have H := H.frontD 2 rfl
        obtain rfl := oi hR1
        replace hF := on_ret hF
        obtain rfl := oi hF
        refine ret_2 hf rfl (rv_cellN hf H 3 TF.la53 rfl rfl rfl) (rv_tmp hf rfl) ?_
        have hN := H.ends3
        exact ⟨_, rfl, H.bel, ([] ++ ([] ++ [])), _, _, rfl, ⟨_, Plan_ownmk (x := ({ Network := ({ Nodes := [], Fibers := [] } : Network), Lights := [] } : Plan)) (H.ownAt 0 rfl) (H.ownAt 1 rfl) (H.ownAt 2 rfl), rfl⟩, mk_bool, by first | exact hN | simpa using hN⟩
       ·refine wp_skip (then_n (reg (pz 1 hf fun a hf => ?_)))
        refine lB 1 hf H TF.ls51 fun a hf => ?_
        refine lN 0 hf H TF.la80 fun a hf => ?_
        have H := H.recast (X := [(⟨F15, MP.own F15 [(.slice A13 y9.1.Route.Fibers.length c16)] (y9.1.Route.Fibers : List Int)⟩ : DI)]) (Y := [(⟨F15, MP.own F15 [(.int .i64 y9.1.Id), (.int .i64 y9.1.Route.Start), (.slice A13 y9.1.Route.Fibers.length c16), (.int .i64 y9.1.Block.First), (.int .i64 y9.1.Block.Count)] (y9.1 : Light)⟩ : DI)]) (List.Perm.of_eq (by simp)) fun _ => ps1 (Light_ownmk (x := y9.1) (H.ownAt 0 rfl)) ps0
        refine wl0 rfl (op_bsliceO hf 80 H rfl (fun w => by kernel_rfl) (by decide) fun A14 a w hf H => ?_)
        obtain ⟨al2, hal2, hR1⟩ := bs_ hR1
        have H := H.frontR 1 rfl
        refine wl0 rfl (op_appO hf H Tryz.underlying51 TF.ai80 rfl (by decide) rfl rfl hal2 (by decide) fun E5 A15 c17 a w hf H => ?_)
        refine pz 1 hf fun a hf => ?_
        refine sB 1 hf H TF.sz51 fun w H => ?_
        have hf := hf.pn [0, 2, 7, 9, 53, 54, 55]
        refine wl_end (blk_n (then_n (reg (pz 2 hf fun a hf => ?_))))
        refine wl_end ?_
        have hf := hf.pn [0, 2, 7, 9, 53, 54, 55]
        have H := H.lm 14 1 7 6 60
        exact then_n ⟨(w64 (i3 + 1), al2), hR1, A15, c17, E5, Fs3 ++ [F15], hf, H⟩
      ·refine wp_exit (then_x (then_x (blk_e (?_))))
       have hf := hf.pn [0, 2, 7, 9, 53, 54, 55]
       have H := H.lm 7 1 7 4 15
       exact ⟨(i3, m3), (Option.some.inj hR1).symm, A12, c15, E4, Fs3, hf, H⟩
     rintro a w ⟨⟨i4, m4⟩, rfl, A16, c18, E6, Fs4, hf, H⟩
     replace hF := on_next hF
     try dsimp only at hF
     refine then_n (sq (sq (reg (lN 0 hf H TF.la53 fun a hf => ?_))))
     obtain ⟨y10, hy10, hF⟩ := bs_ hF
     refine oc hf TF.cl19 (impl_FormatPlan_ok (S := TT) (Plan_mkv (x := ({ Network := y7.1, Lights := m4 } : Plan)) (H.rt 2 rfl) (H.rt 1 rfl) (H.rowTrue 0 rfl)) (mp_true (H.get 3 rfl)) hy10) fun v29 w a hp29 hf => ?_
     obtain ⟨hb10, v30, v31, rfl, hp30, hp31⟩ := hp29
     obtain rfl := VR_str hp30
     obtain rfl := VR_bool hp31
     have H := H.keep hb10
     refine pz 5 hf fun a hf => ?_
     refine wl_end (then_n (sq ?_))
     obtain ⟨c19, hGc19, hF⟩ := bs_ hF
     have fh5 := hf.prune [2, 9] rfl
     have Hm5 := H.lm 5 1 6 4 14
     refine midF 86 (.bool c19) fh5 Hm5 ?_ fun a w hf H => ?_
     ·refine reg (pz 3 hf fun a hf => ?_)
      refine iteB hGc19 (fun hc18 hGc19 => ?_) fun hc18 hGc19 => ?_
      ·have hf := hf.lit 82 rfl hc18
       refine pz 4 hf fun a hf => ?_
       obtain rfl := oi hGc19
       have hf := hf.pn [86, 2, 9]
       have H := H.lm 5 1 6 4 14
       exact wl_end ⟨hf, H⟩
      ·have hf := hf.lit 82 rfl hc18
       refine pz 4 hf fun a hf => ?_
       obtain rfl := oi hGc19
       have hf := hf.pn [86, 2, 9]
       have H := H.lm 5 1 6 4 14
       exact wl_end ⟨hf, H⟩
     refine then_n (ib hF hf (fun hc19 hF => ?_) fun hc19 hF => ?_)
     ·refine sq (reg (oq hf (rq_build hf (cs := [(.slice none 0 0), (.slice none 0 0), (.slice none 0 0)]) rfl (fun w => by kernel_rfl)) fun a hf => ?_))
      refine sB 1 hf H TF.sz53 fun w H => ?_
      refine pz 1 hf fun a hf => ?_
      refine wl_end (then_n (wp_ret (then_r (?_))))
      have H := H.ownNil (ByteArray)
      have H := H.lend 0 rfl
      have H := H.ownNil (Fiber)
      have H := H.lend 0 rfl
      have H := H.ownNil (Light)
      have H := H.lend 0 rfl
      have H := H.frontD 1 rfl
      have H := H.frontD 2 rfl
      obtain rfl := oi hF
      refine ret_2 hf rfl (rv_cellN hf H 1 TF.la53 rfl rfl rfl) (rv_tmp hf rfl) ?_
      have hN := H.ends3
      exact ⟨_, rfl, H.bel, ([] ++ ([] ++ [])), _, _, rfl, ⟨_, Plan_ownmk (x := ({ Network := ({ Nodes := [], Fibers := [] } : Network), Lights := [] } : Plan)) (H.ownAt 0 rfl) (H.ownAt 1 rfl) (H.ownAt 2 rfl), rfl⟩, mk_bool, by first | exact hN | simpa using hN⟩
     ·refine wp_skip (then_n (sq (reg (lN 0 hf H TF.la53 fun a hf => ?_))))
      refine sB 1 hf H TF.sz53 fun w H => ?_
      refine pz 1 hf fun a hf => ?_
      refine wer ?_
      obtain ⟨F16, H⟩ := H.freezeOwn 0 rfl
      have H := H.lend 0 rfl
      have H := H.frontD 2 rfl
      have H := H.frontD 2 rfl
      obtain rfl := oi hF
      refine ret_2 hf rfl (rv_cellN hf H 1 TF.la53 rfl rfl rfl) (rv_tmp hf rfl) ?_
      have hN := H.ends3
      exact ⟨_, rfl, H.bel, (F10 ++ (F11 ++ F16)), _, _, rfl, ⟨_, Plan_ownmk (x := ({ Network := y7.1, Lights := m4 } : Plan)) (H.ownAt 0 rfl) (H.ownAt 1 rfl) (H.ownAt 2 rfl), rfl⟩, mk_bool, by first | exact hN | simpa using hN⟩
   ·refine wp_skip (then_n (sq (sq (reg (lN 0 hf H TF.la53 fun a hf => ?_)))))
    have H := H.pushNil (Light) true
    obtain ⟨y11, hy11, hF⟩ := bs_ hF
    refine oc hf TF.cl19 (impl_FormatPlan_ok (S := TT) (Plan_mkv (x := ({ Network := y7.1, Lights := [] } : Plan)) (H.rt 2 rfl) (H.rt 1 rfl) (H.rt 0 rfl)) (mp_true (H.get 3 rfl)) hy11) fun v32 w a hp32 hf => ?_
    obtain ⟨hb11, v33, v34, rfl, hp33, hp34⟩ := hp32
    obtain rfl := VR_str hp33
    obtain rfl := VR_bool hp34
    have H := H.keep hb11
    refine pz 5 hf fun a hf => ?_
    refine wl_end (then_n (sq ?_))
    obtain ⟨c20, hGc20, hF⟩ := bs_ hF
    have fh6 := hf.prune [2, 9] rfl
    have Hm6 := H.lm 5 0 3 4 14
    refine midF 86 (.bool c20) fh6 Hm6 ?_ fun a w hf H => ?_
    ·refine reg (pz 3 hf fun a hf => ?_)
     refine iteB hGc20 (fun hc20 hGc20 => ?_) fun hc20 hGc20 => ?_
     ·have hf := hf.lit 82 rfl hc20
      refine pz 4 hf fun a hf => ?_
      obtain rfl := oi hGc20
      have hf := hf.pn [86, 2, 9]
      have H := H.lm 5 0 3 4 14
      exact wl_end ⟨hf, H⟩
     ·have hf := hf.lit 82 rfl hc20
      refine pz 4 hf fun a hf => ?_
      obtain rfl := oi hGc20
      have hf := hf.pn [86, 2, 9]
      have H := H.lm 5 0 3 4 14
      exact wl_end ⟨hf, H⟩
    refine then_n (ib hF hf (fun hc21 hF => ?_) fun hc21 hF => ?_)
    ·refine sq (reg (oq hf (rq_build hf (cs := [(.slice none 0 0), (.slice none 0 0), (.slice none 0 0)]) rfl (fun w => by kernel_rfl)) fun a hf => ?_))
     refine sB 1 hf H TF.sz53 fun w H => ?_
     refine pz 1 hf fun a hf => ?_
     refine wl_end (then_n (wp_ret (then_r (?_))))
     have H := H.ownNil (ByteArray)
     have H := H.lend 0 rfl
     have H := H.ownNil (Fiber)
     have H := H.lend 0 rfl
     have H := H.ownNil (Light)
     have H := H.lend 0 rfl
     have H := H.frontD 1 rfl
     have H := H.frontD 2 rfl
     obtain rfl := oi hF
     refine ret_2 hf rfl (rv_cellN hf H 1 TF.la53 rfl rfl rfl) (rv_tmp hf rfl) ?_
     have hN := H.ends3
     exact ⟨_, rfl, H.bel, ([] ++ ([] ++ [])), _, _, rfl, ⟨_, Plan_ownmk (x := ({ Network := ({ Nodes := [], Fibers := [] } : Network), Lights := [] } : Plan)) (H.ownAt 0 rfl) (H.ownAt 1 rfl) (H.ownAt 2 rfl), rfl⟩, mk_bool, by first | exact hN | simpa using hN⟩
    ·refine wp_skip (then_n (sq (reg (lN 0 hf H TF.la53 fun a hf => ?_))))
     refine sB 1 hf H TF.sz53 fun w H => ?_
     refine pz 1 hf fun a hf => ?_
     refine wer ?_
     have H := H.ownNil (Light)
     have H := H.lend 0 rfl
     have H := H.frontD 2 rfl
     have H := H.frontD 2 rfl
     obtain rfl := oi hF
     refine ret_2 hf rfl (rv_cellN hf H 1 TF.la53 rfl rfl rfl) (rv_tmp hf rfl) ?_
     have hN := H.ends3
     exact ⟨_, rfl, H.bel, (F10 ++ (F11 ++ [])), _, _, rfl, ⟨_, Plan_ownmk (x := ({ Network := y7.1, Lights := [] } : Plan)) (H.ownAt 0 rfl) (H.ownAt 1 rfl) (H.ownAt 2 rfl), rfl⟩, mk_bool, by first | exact hN | simpa using hN⟩
theorem spec_l9Light_ok {S : Nat → Prop} {v0_ : Value} {v1_ : Value} {n' : Network} {x1 : Light} {r : Bool} (h0 : VR w0 S v0_ n') (h1 : VR w0 S v1_ x1) (hF : spec_l9Light fu n' x1 = some r) :
    Calls Tryz.prog 83 [v0_, v1_].toArray w0 fun e w' => ∃ v, e = .returned v ∧ (Below w0.heap.size w0 w' ∧ VR w' (St ⟨w0, []⟩ S [] [] [] true) v r) := by
 obtain ⟨A, c, A2, c2, rfl, hl, hl2⟩ := Network_open h0
 obtain ⟨A3, c3, rfl, hl3⟩ := Light_open h1
 have H := Mem.start ⟨w0, []⟩ S
 have H := H.pA hl
 have H := H.pA hl2
 have H := H.pA hl3
 refine en Tryz.func83 fun a hf => ?_
 rw [spec_l9Light] at hF
 refine bx hf H fun b' a w hf H => ?_
 refine wl0 rfl (op_box hf H rfl rfl (by decide) fun b2 a w hf H => ?_)
 refine pz 1 hf fun a hf => ?_
 refine wl_end (then_n (sq ?_))
 obtain ⟨c4, hGc4, hF⟩ := bs_ hF
 have fh := hf.prune [] rfl
 have Hm := H.lk 0 0 0 []
 refine midF 4 (.bool c4) fh Hm ?_ fun a w hf H => ?_
 ·refine reg (pz 1 hf fun a hf => ?_)
  refine lB 0 hf H TF.ls3 fun a hf => ?_
  obtain ⟨y, hy, hGc4⟩ := bs_ hGc4
  refine oc hf TF.cl65 (spec_l1In_ok (S := TT) mk_int mk_int mk_int hy) fun v w a hp hf => ?_
  obtain ⟨hb, hp⟩ := hp
  obtain rfl := VR_bool hp
  have H := H.keep hb
  refine pz 1 hf fun a hf => ?_
  refine iteB hGc4 (fun hc hGc4 => ?_) fun hc hGc4 => ?_
  ·have hf := hf.lit 8 rfl hc
   refine wlg hf rfl rfl rfl (op_q hf (rq_loadBN hf H TF.la27 1 rfl rfl rfl rfl) rfl (by decide) fun a hf => ?_)
   refine pz 1 hf fun a hf => ?_
   refine wlg hf rfl rfl rfl (op_q hf (rq_loadBN hf H TF.la30 0 rfl rfl rfl rfl) rfl (by decide) fun a hf => ?_)
   obtain ⟨y2, hy2, hGc4⟩ := bs_ hGc4
   refine wlg hf rfl rfl rfl (oC hf TF.cl37 (spec_l4Good_ok (S := TT) (Network_mkv (x := n') (H.rt 2 rfl) (H.rt 1 rfl)) (Route_mkv (x := x1.Route) (H.rt 0 rfl)) hy2) fun v2 w a hp2 hf => ?_)
   obtain ⟨hb2, hp2⟩ := hp2
   obtain rfl := VR_bool hp2
   have H := H.keep hb2
   refine pz 2 hf fun a hf => ?_
   refine iteB hGc4 (fun hc2 hGc4 => ?_) fun hc2 hGc4 => ?_
   ·have hf := hf.lit 14 rfl hc2
    refine pz 1 hf fun a hf => ?_
    refine wlg hf rfl rfl rfl (op_q hf (rq_loadBN hf H TF.la45 0 rfl rfl rfl rfl) rfl (by decide) fun a hf => ?_)
    obtain ⟨y3, hy3, hGc4⟩ := bs_ hGc4
    refine wlg hf rfl rfl rfl (oC hf TF.cl43 (spec_l8Good_ok (S := TT) Block_mkv hy3) fun v3 w a hp3 hf => ?_)
    obtain ⟨hb3, hp3⟩ := hp3
    obtain rfl := VR_bool hp3
    have H := H.keep hb3
    refine pz 2 hf fun a hf => ?_
    obtain rfl := oi hGc4
    have hf := hf.pn [4]
    have H := H.lk 0 0 0 []
    exact wl_end ⟨hf, H⟩
   ·have hf := hf.lit 14 rfl hc2
    refine pz 5 hf fun a hf => ?_
    obtain rfl := oi hGc4
    have hf := hf.pn [4]
    have H := H.lk 0 0 0 []
    exact wl_end ⟨hf, H⟩
  ·have hf := hf.lit 8 rfl hc
   refine pz 11 hf fun a hf => ?_
   obtain rfl := oi hGc4
   have hf := hf.pn [4]
   have H := H.lk 0 0 0 []
   exact wl_end ⟨hf, H⟩
 refine then_n (wp_ret (?_))
 obtain rfl := oi hF
 refine rT hf ?_
 exact ⟨_, rfl, H.bel, mk_bool⟩
theorem spec_l4Uses_ok {S : Nat → Prop} {v0_ : Value} {v1_ : Value} {r' : Route} {group : List Int} {r : Bool} (h0 : VR w0 S v0_ r') (h1 : VR w0 S v1_ group) (hF : spec_l4Uses fu r' group = some r) :
    Calls Tryz.prog 118 [v0_, v1_].toArray w0 fun e w' => ∃ v, e = .returned v ∧ (Below w0.heap.size w0 w' ∧ VR w' (St ⟨w0, []⟩ S [] [] [] true) v r) := by
 obtain ⟨A, c, rfl, hl⟩ := Route_open h0
 obtain ⟨A2, c2, rfl, hl2⟩ := VR_list h1
 have H := Mem.start ⟨w0, []⟩ S
 have H := H.pA hl
 have H := H.pA hl2
 refine en Tryz.func118 fun a hf => ?_
 rw [spec_l4Uses] at hF
 refine bx hf H fun b' a w hf H => ?_
 refine pz 1 hf fun a hf => ?_
 refine we (sqz (pz 1 hf fun a hf => ?_))
 refine wl_end (then_n ?_)
 obtain ⟨out', hB1, hF⟩ := bs_ hF
 have hf := hf.pn [1, 2, 5]
 have H := H.lk 1 0 0 [0,1]
 refine loopC (fun (s : Int) (a : Act) (w : World) => match s with | i => Fr a 20 [(1, (.slice A2 group.length c2)), (2, (.pointer (some ⟨b', 0, none⟩))), (5, (.int .i64 i))] ∧ Mem ⟨w0, []⟩ S [⟨b', 30, [(.int .i64 r'.Start), (.slice A r'.Fibers.length c)]⟩] [] [] [(false, MP.val [(.slice A2 group.length c2)] (group : List Int)), (false, MP.val [(.slice A r'.Fibers.length c)] (r'.Fibers : List Int))] w) (fun k (s : Int) => spec_l4Uses_L1 fu r' group k s = some out') (fun s => out' = Out.next s) 0 fu hB1 ⟨hf, H⟩ (fun s h => by cases h) ?_ ?_
 ·rintro fk i a w hR1 hI
  replace hR1 : spec_l4Uses_L1 fu r' group (fk + 1) i = some out' := hR1
  rw [spec_l4Uses_L1] at hR1
  obtain ⟨hf, H⟩ := hI
  refine sq (sqz (pz 2 hf fun a hf => ?_))
  refine lB 0 hf H TF.ls28 fun a hf => ?_
  refine pz 2 hf fun a hf => ?_
  refine wl_end (then_n (ib hR1 hf (fun hc hR1 => ?_) fun hc hR1 => ?_))
  ·refine ws (pz 2 hf fun a hf => ?_)
   refine lB 0 hf H TF.ls28 fun a hf => ?_
   refine pz 1 hf fun a hf => ?_
   obtain ⟨e, he, hR1⟩ := bs_ hR1
   refine wl0 rfl (op_iaddr hf H Tryz.underlying28 TF.sz3 1 rfl rfl rfl he (by decide) fun p o cs a hf hr H => ?_)
   obtain rfl := hr
   refine oq hf (rq_loadI hf H TF.ls3 0 0 rfl rfl rfl) fun a hf => ?_
   obtain ⟨y, hy, hR1⟩ := bs_ hR1
   refine oc hf TF.cl112 (spec_l1Has_ok (S := TT) (mk_list (H.rt 1 rfl)) mk_int hy) fun v w a hp hf => ?_
   obtain ⟨hb, hp⟩ := hp
   obtain rfl := VR_bool hp
   have H := H.keep hb
   refine wl_end (then_n (ib hR1 hf (fun hc2 hR1 => ?_) fun hc2 hR1 => ?_))
   ·refine sqz (pz 1 hf fun a hf => ?_)
    have hf := hf.pn [4]
    refine wl_end (then_n (wp_ret (blk_r (then_r (then_r (blk_r (then_r (then_r (?_)))))))))
    obtain rfl := oi hR1
    replace hF := on_ret hF
    obtain rfl := oi hF
    refine rT hf ?_
    exact ⟨_, rfl, H.bel, mk_bool⟩
   ·refine wp_skip (blk_n (then_n (reg (pz 3 hf fun a hf => ?_))))
    have hf := hf.pn [1, 2, 5]
    refine wl_end ?_
    have hf := hf.pn [1, 2, 5]
    have H := H.lk 1 0 0 [1,2]
    exact then_n ⟨w64 (i + 1), hR1, hf, H⟩
  ·refine wp_exit (then_x (then_x (blk_e (?_))))
   have hf := hf.pn [1, 2, 5]
   have H := H.lk 1 0 0 [0,1]
   exact ⟨i, (Option.some.inj hR1).symm, hf, H⟩
 rintro a w ⟨i2, rfl, hf, H⟩
 replace hF := on_next hF
 refine then_n (sqz (pz 1 hf fun a hf => ?_))
 refine wer ?_
 obtain rfl := oi hF
 refine rT hf ?_
 exact ⟨_, rfl, H.bel, mk_bool⟩
theorem spec_l9Collide_ok {S : Nat → Prop} {v0_ : Value} {v1_ : Value} {x1 : Light} {y : Light} {r : Bool} (h0 : VR w0 S v0_ x1) (h1 : VR w0 S v1_ y) (hF : spec_l9Collide fu x1 y = some r) :
    Calls Tryz.prog 84 [v0_, v1_].toArray w0 fun e w' => ∃ v, e = .returned v ∧ (Below w0.heap.size w0 w' ∧ VR w' (St ⟨w0, []⟩ S [] [] [] true) v r) := by
 obtain ⟨A, c, rfl, hl⟩ := Light_open h0
 obtain ⟨A2, c2, rfl, hl2⟩ := Light_open h1
 have H := Mem.start ⟨w0, []⟩ S
 have H := H.pA hl
 have H := H.pA hl2
 refine en Tryz.func84 fun a hf => ?_
 rw [spec_l9Collide] at hF
 refine bx hf H fun b' a w hf H => ?_
 refine wl0 rfl (op_box hf H rfl rfl (by decide) fun b2 a w hf H => ?_)
 refine pz 1 hf fun a hf => ?_
 refine wl_end (then_n (sq ?_))
 obtain ⟨c3, hGc3, hF⟩ := bs_ hF
 have fh := hf.prune [] rfl
 have Hm := H.lk 0 0 0 []
 refine midF 4 (.bool c3) fh Hm ?_ fun a w hf H => ?_
 ·refine dw [] 17 fun w hb => ?_
  have H := H.keep hb
  refine zp 0 hf trivial fun a hf => ?_
  refine strT (H.lk 2 0 0 []) (fun w H => trivial) fun hS => ?_
  refine zS 1 [] rfl rfl rfl rfl hf hS (fun w H => rq_loadBN hf H TF.la30 0 rfl rfl rfl rfl) fun a hf => ?_
  refine zp 2 hf hS fun a hf => ?_
  refine zp 3 hf hS fun a hf => ?_
  refine strT (H.lk 3 0 0 []) (fun w H => H.lk 2 0 0 []) fun hS => ?_
  refine zS 4 [] rfl rfl rfl rfl hf hS (fun w H => rq_loadB hf H TF.ls28 0 rfl rfl rfl) fun a hf => ?_
  obtain ⟨y2, hy2, hGc3⟩ := bs_ hGc3
  refine nn 5 rfl (oC hf TF.cl118 (spec_l4Uses_ok (S := TT) (Route_mkv (x := x1.Route) (H.rt 1 rfl)) (mk_list (H.rt 0 rfl)) hy2) fun v w a hp hf => ?_)
  obtain ⟨hb, hp⟩ := hp
  obtain rfl := VR_bool hp
  have H := H.keep hb
  have hS := H.lk 3 0 0 []
  refine aS hS ?_
  refine zp 6 hf hS fun a hf => ?_
  refine iteB hGc3 (fun hc hGc3 => ?_) fun hc hGc3 => ?_
  ·have hf := hf.lit 11 rfl hc
   refine zg 7 hf hS fun a hf => ?_
   refine tSg 8 [] rfl rfl rfl rfl rfl rfl hf (by kernel_rfl) (by kernel_rfl) hS (fun w H => rq_loadBN hf H TF.la45 1 rfl rfl rfl rfl) fun a hf => ?_
   refine zg 10 hf hS fun a hf => ?_
   refine tSg 11 [] rfl rfl rfl rfl rfl rfl hf (by kernel_rfl) (by kernel_rfl) hS (fun w H => rq_loadBN hf H TF.la45 0 rfl rfl rfl rfl) fun a hf => ?_
   obtain ⟨y3, hy3, hGc3⟩ := bs_ hGc3
   refine n1g 9 (by kernel_rfl) rfl rfl rfl rfl hf (oC hf TF.cl119 (spec_l8Bits_ok (S := TT) Block_mkv hy3) fun v2 w a hp2 hf => ?_)
   obtain ⟨hb2, hp2⟩ := hp2
   obtain rfl := VR_int hp2
   have H := H.keep hb2
   have hS := H.lk 3 0 0 []
   refine aS hS ?_
   obtain ⟨y4, hy4, hGc3⟩ := bs_ hGc3
   refine n1g 12 (by kernel_rfl) rfl rfl rfl rfl hf (oC hf TF.cl119 (spec_l8Bits_ok (S := TT) Block_mkv hy4) fun v3 w a hp3 hf => ?_)
   obtain ⟨hb3, hp3⟩ := hp3
   obtain rfl := VR_int hp3
   have H := H.keep hb3
   have hS := H.lk 3 0 0 []
   refine aS hS ?_
   refine zg 13 hf hS fun a hf => ?_
   refine zg 14 hf hS fun a hf => ?_
   refine zp 15 hf hS fun a hf => ?_
   refine zp 16 hf hS fun a hf => ?_
   refine dk ?_
   obtain rfl := oi hGc3
   have hf := hf.pn [4]
   have H := H.lk 0 0 0 []
   exact ⟨hf, H⟩
  ·have hf := hf.lit 11 rfl hc
   refine zU 7 hf hS fun a hf => ?_
   refine zU 8 hf hS fun a hf => ?_
   refine zU 9 hf hS fun a hf => ?_
   refine zU 10 hf hS fun a hf => ?_
   refine zU 11 hf hS fun a hf => ?_
   refine zU 12 hf hS fun a hf => ?_
   refine zU 13 hf hS fun a hf => ?_
   refine zU 14 hf hS fun a hf => ?_
   refine zp 15 hf hS fun a hf => ?_
   refine zp 16 hf hS fun a hf => ?_
   refine dk ?_
   obtain rfl := oi hGc3
   have hf := hf.pn [4]
   have H := H.lk 0 0 0 []
   exact ⟨hf, H⟩
 refine then_n (wp_ret (?_))
 obtain rfl := oi hF
 refine rT hf ?_
 exact ⟨_, rfl, H.bel, mk_bool⟩
end AT
