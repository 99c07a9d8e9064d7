/- The Go functions do what is told of them, by program (gen.py). -/
import Derived.Test.YtiedecncmihbeaaGreatWFnExactApplyActions1
set_option linter.unusedVariables false
set_option linter.unusedSimpArgs false
set_option maxRecDepth 100000
set_option maxHeartbeats 1000000
namespace AT
open Go Go.RowKit Go.Proofs
variable {fu : Nat} {w0 : World}

theorem laws_FnExactApplyActions_ok {S : Nat → Prop} {v0_ : Value} {v1_ : Value} {aP : Plan} {aList : List Action} {r : Bool} (h0 : VR w0 S v0_ aP) (h1 : VR w0 S v1_ aList) (hF : laws_FnExactApplyActions fu aP aList = some r) :
    Calls Tryz.prog 5 [v0_, v1_].toArray w0 fun e w' => ∃ v, e = .returned v ∧ (Below w0.heap.size w0 w' ∧ VR w' (St ⟨w0, []⟩ S [] [] [] true) v r) := by
 obtain ⟨A, c, A2, c2, A3, c3, rfl, hl, hl2, hl3⟩ := Plan_open h0
 obtain ⟨A4, c4, rfl, hl4⟩ := VR_list h1
 have H := Mem.start ⟨w0, []⟩ S
 have H := H.pushArg (MP.val [(.slice A aP.Network.Nodes.length c)] aP.Network.Nodes) hl
 have H := H.pushArg (MP.val [(.slice A2 aP.Network.Fibers.length c2)] aP.Network.Fibers) hl2
 have H := H.pushArg (MP.val [(.slice A3 aP.Lights.length c3)] aP.Lights) hl3
 have H := H.pushArg (MP.val [(.slice A4 aList.length c4)] aList) hl4
 refine en Tryz.func5 fun a hf => ?_
 rw [laws_FnExactApplyActions] at hF
 refine sq (reg (wl0 rfl (op_box hf H rfl rfl (by decide) fun b' a w hf H => ?_)))
 refine pz 1 hf fun a hf => ?_
 refine wr (pz 1 hf fun a hf => ?_)
 refine wr (oq hf (rq_loadBN hf H TF.la28 0 rfl rfl rfl rfl) fun a hf => ?_)
 refine pz 1 hf fun a hf => ?_
 obtain ⟨y, hy, hF⟩ := bind_some hF
 refine oc hf TF.cl11 (laws_szPlan_ok (S := TT) (Plan_mkv (x := aP) (H.rt 3 rfl) (H.rt 2 rfl) (H.rt 1 rfl)) mk_int hy) fun v w a hp hf => ?_
 obtain ⟨hb, hp⟩ := hp
 obtain rfl := VR_int hp
 have H := H.keep hb
 refine pz 1 hf fun a hf => ?_
 refine wl_end (then_n (sq (sqz (pz 2 hf fun a hf => ?_))))
 refine wl_end (then_n (ib hF hf (fun hc hF => ?_) fun hc hF => ?_))
 ·refine sqz (pz 1 hf fun a hf => ?_)
  refine wl_end (then_n (wp_ret (then_r (?_))))
  obtain rfl := Option.some.inj hF
  refine ret_1 hf rfl (rv_tmp hf rfl) ?_
  exact ⟨_, rfl, H.bel, mk_bool⟩
 ·refine wp_skip (then_n (sqz (pz 2 hf fun a hf => ?_)))
  obtain ⟨y2, hy2, hF⟩ := bind_some hF
  refine oc hf TF.cl25 (laws_szActionS_ok (S := TT) (mk_list (H.rt 0 rfl)) mk_int hy2) fun v2 w a hp2 hf => ?_
  obtain ⟨hb2, hp2⟩ := hp2
  obtain rfl := VR_int hp2
  have H := H.keep hb2
  refine pz 1 hf fun a hf => ?_
  refine wl_end (then_n (sq (sqz (pz 2 hf fun a hf => ?_))))
  refine wl_end (then_n (ib hF hf (fun hc2 hF => ?_) fun hc2 hF => ?_))
  ·refine sqz (pz 1 hf fun a hf => ?_)
   have hf := hf.pn [4]
   refine wl_end (then_n (wp_ret (then_r (?_))))
   obtain rfl := Option.some.inj hF
   refine ret_1 hf rfl (rv_tmp hf rfl) ?_
   exact ⟨_, rfl, H.bel, mk_bool⟩
  ·refine wp_skip (then_n (sq (reg (oq hf (rq_loadBN hf H TF.la28 0 rfl rfl rfl rfl) fun a hf => ?_))))
   obtain ⟨y3, hy3, hF⟩ := bind_some hF
   refine oc hf TF.cl14 (laws_toPlan_ok (S := TT) (Plan_mkv (x := aP) (H.rt 3 rfl) (H.rt 2 rfl) (H.rt 1 rfl)) hy3) fun v3 w a hp3 hf => ?_
   obtain ⟨hb3, F, hp4, hN⟩ := hp3
   obtain ⟨A5, c5, F2, A6, c6, F3, A7, c7, F4, rfl, rfl, hl5, hl6, hl7⟩ := Plan_vo hp4
   have H := H.addOwn hb3 (X := [(⟨F2, MP.own F2 [(.slice A5 y3.Network.Nodes.length c5)] (y3.Network.Nodes : List ByteArray)⟩ : DI), (⟨F3, MP.own F3 [(.slice A6 y3.Network.Fibers.length c6)] (y3.Network.Fibers : List Fiber)⟩ : DI), (⟨F4, MP.own F4 [(.slice A7 y3.Lights.length c7)] (y3.Lights : List Light)⟩ : DI)]) (by simpa using hN.1) (ps1 hl5 (ps1 hl6 (ps1 hl7 ps0))) (by simpa using hN.2)
   have H := H.lend 0 rfl
   have H := H.lend 1 rfl
   have H := H.lend 2 rfl
   refine pz 1 hf fun a hf => ?_
   obtain ⟨y4, hy4, hF⟩ := bind_some hF
   refine oc hf TF.cl27 (laws_toActionS_ok (S := TT) (mk_list (H.rt 3 rfl)) hy4) fun v4 w a hp5 hf => ?_
   obtain ⟨hb4, F5, hp6, hN2⟩ := hp5
   obtain ⟨A8, c8, rfl, hl8⟩ := VO_list hp6
   have H := H.addOwn hb4 (X := [(⟨F5, MP.own F5 [(.slice A8 y4.length c8)] (y4 : List Action)⟩ : DI)]) (by simpa using hN2.1) (ps1 hl8 ps0) (by simpa using hN2.2)
   have H := H.lend 0 rfl
   obtain ⟨y5, hy5, hF⟩ := bind_some hF
   refine oc hf TF.cl26 (spec_ApplyActions_ok (S := TT) (Plan_mkv (x := y3) (H.rt 3 rfl) (H.rt 2 rfl) (H.rt 1 rfl)) (mk_list (H.rt 0 rfl)) hy5) fun v5 w a hp7 hf => ?_
   obtain ⟨hb5, v6, v7, v8, rfl, hp8, hp9, hp10⟩ := hp7
   obtain ⟨A9, c9, A10, c10, A11, c11, rfl, hl9, hl10, hl11⟩ := Plan_open hp8
   obtain rfl := VR_int hp9
   obtain rfl := VR_bool hp10
   obtain ⟨F7, H⟩ := H.addRo hb5 (p := MP.and (MP.val [(.slice A9 y5.1.Network.Nodes.length c9)] (y5.1.Network.Nodes : List ByteArray)) (MP.and (MP.val [(.slice A10 y5.1.Network.Fibers.length c10)] (y5.1.Network.Fibers : List Fiber)) (MP.val [(.slice A11 y5.1.Lights.length c11)] (y5.1.Lights : List Light)))) ⟨hl9, ⟨hl10, hl11⟩⟩
   have H := H.lendQ 0 (q := MP.val [(.slice A9 y5.1.Network.Nodes.length c9)] (y5.1.Network.Nodes : List ByteArray)) rfl fun _ _ h => h.1
   have H := H.lendQ 0 (q := MP.val [(.slice A10 y5.1.Network.Fibers.length c10)] (y5.1.Network.Fibers : List Fiber)) rfl fun _ _ h => h.2.1
   have H := H.lendQ 0 (q := MP.val [(.slice A11 y5.1.Lights.length c11)] (y5.1.Lights : List Light)) rfl fun _ _ h => h.2.2
   refine pz 4 hf fun a hf => ?_
   refine wl0 rfl (op_alloc hf H TF.zv45 rfl (by decide) fun b2 a w hf H => ?_)
   refine wl0 rfl (op_storeB hf H 0 TF.sz45 rfl rfl rfl rfl rfl rfl (nle rfl) fun w H => ?_)
   refine pz 2 hf fun a hf => ?_
   have hf := hf.pn [1, 2, 6, 7, 8]
   refine wr (oq hf (rq_loadBN hf H TF.la28 1 rfl rfl rfl rfl) fun a hf => ?_)
   obtain ⟨y6, hy6, hF⟩ := bind_some hF
   refine oc hf TF.cl14 (laws_toPlan_ok (S := TT) (Plan_mkv (x := aP) (H.rt 10 rfl) (H.rt 9 rfl) (H.rt 8 rfl)) hy6) fun v9 w a hp11 hf => ?_
   obtain ⟨hb6, F8, hp12, hN3⟩ := hp11
   obtain ⟨A12, c12, F9, A13, c13, F10, A14, c14, F11, rfl, rfl, hl12, hl13, hl14⟩ := Plan_vo hp12
   have H := H.addOwn hb6 (X := [(⟨F9, MP.own F9 [(.slice A12 y6.Network.Nodes.length c12)] (y6.Network.Nodes : List ByteArray)⟩ : DI), (⟨F10, MP.own F10 [(.slice A13 y6.Network.Fibers.length c13)] (y6.Network.Fibers : List Fiber)⟩ : DI), (⟨F11, MP.own F11 [(.slice A14 y6.Lights.length c14)] (y6.Lights : List Light)⟩ : DI)]) (by simpa using hN3.1) (ps1 hl12 (ps1 hl13 (ps1 hl14 ps0))) (by simpa using hN3.2)
   have H := H.lend 0 rfl
   have H := H.lend 1 rfl
   have H := H.lend 2 rfl
   refine wl0 rfl (op_alloc hf H TF.zv45 rfl (by decide) fun b3 a w hf H => ?_)
   refine wl0 rfl (op_storeB hf H 0 TF.sz45 rfl rfl rfl rfl rfl rfl (nle rfl) fun w H => ?_)
   refine wr (pz 1 hf fun a hf => ?_)
   obtain ⟨y7, hy7, hF⟩ := bind_some hF
   refine oc hf TF.cl27 (laws_toActionS_ok (S := TT) (mk_list (H.rt 10 rfl)) hy7) fun v10 w a hp13 hf => ?_
   obtain ⟨hb7, F12, hp14, hN4⟩ := hp13
   obtain ⟨A15, c15, rfl, hl15⟩ := VO_list hp14
   have H := H.addOwn hb7 (X := [(⟨F12, MP.own F12 [(.slice A15 y7.length c15)] (y7 : List Action)⟩ : DI)]) (by simpa using hN4.1) (ps1 hl15 ps0) (by simpa using hN4.2)
   have H := H.lend 0 rfl
   refine pz 1 hf fun a hf => ?_
   refine wr (oq hf (rq_loadBN hf H TF.la45 0 rfl rfl rfl rfl) fun a hf => ?_)
   refine pz 1 hf fun a hf => ?_
   obtain ⟨y8, hy8, hF⟩ := bind_some hF
   refine oc hf TF.cl28 (impl_ApplyActions_ok (S := TT) (Plan_mkv (x := y6) (H.rt 3 rfl) (H.rt 2 rfl) (H.rt 1 rfl)) (mk_list (H.rt 0 rfl)) hy8) fun v11 w a hp15 hf => ?_
   obtain ⟨hb8, F14, v12, v13, v14, rfl, hp16, hp17, hp18, hN5⟩ := hp15
   obtain ⟨A16, c16, F15, A17, c17, F16, A18, c18, F17, rfl, rfl, hl16, hl17, hl18⟩ := Plan_vo hp16
   obtain rfl := VR_int hp17
   obtain rfl := VR_bool hp18
   have H := H.addOwn hb8 (X := [(⟨F15, MP.own F15 [(.slice A16 y8.1.Network.Nodes.length c16)] (y8.1.Network.Nodes : List ByteArray)⟩ : DI), (⟨F16, MP.own F16 [(.slice A17 y8.1.Network.Fibers.length c17)] (y8.1.Network.Fibers : List Fiber)⟩ : DI), (⟨F17, MP.own F17 [(.slice A18 y8.1.Lights.length c18)] (y8.1.Lights : List Light)⟩ : DI)]) (by simpa using hN5.1) (ps1 hl16 (ps1 hl17 (ps1 hl18 ps0))) (by simpa using hN5.2)
   have H := H.lend 0 rfl
   have H := H.lend 1 rfl
   have H := H.lend 2 rfl
   refine pz 4 hf fun a hf => ?_
   refine wl0 rfl (op_alloc hf H TF.zv45 rfl (by decide) fun b4 a w hf H => ?_)
   refine wl0 rfl (op_storeB hf H 0 TF.sz45 rfl rfl rfl rfl rfl rfl (nle rfl) fun w H => ?_)
   refine pz 2 hf fun a hf => ?_
   refine wl_end (then_n (sq (sq ?_)))
   obtain ⟨c19, hGc19, hF⟩ := bind_some hF
   have fh := hf.prune [1, 2, 6, 7, 8, 9, 10, 11, 12, 13] rfl
   have Hm := H.lt_ [true, true, true, true] [] [true, true, true, true, true, true, true, true, false, false, false, false] [0, 1, 2, 3, 4, 5, 6, 7, 8, 9, 14, 15, 16, 17]
   refine midF 63 (.bool c19) fh Hm ?_ fun a w hf H => ?_
   ·refine reg (oq hf (rq_loadBN hf H TF.la45 0 rfl rfl rfl rfl) fun a hf => ?_)
    refine oq hf (rq_loadBN hf H TF.la45 2 rfl rfl rfl rfl) fun a hf => ?_
    obtain ⟨y9, hy9, hGc19⟩ := bind_some hGc19
    refine oc hf TF.cl17 (laws_eqPlan_ok (S := TT) (Plan_mkv (x := y8.1) (H.rt 2 rfl) (H.rt 1 rfl) (H.rt 0 rfl)) (Plan_mkv (x := y5.1) (H.rt 9 rfl) (H.rt 8 rfl) (H.rt 7 rfl)) hy9) fun v15 w a hp19 hf => ?_
    obtain ⟨hb9, hp19⟩ := hp19
    obtain rfl := VR_bool hp19
    have H := H.keep hb9
    refine pz 2 hf fun a hf => ?_
    refine iteB hGc19 (fun hc3 hGc19 => ?_) fun hc3 hGc19 => ?_
    ·have hf := hf.lit 54 rfl hc3
     refine pz 9 hf fun a hf => ?_
     obtain rfl := Option.some.inj hGc19
     have hf := hf.pn [63, 1, 2, 6, 7, 8, 9, 10, 11, 12, 13]
     have H := H.lt_ [true, true, true, true] [] [true, true, true, true, true, true, true, true, false, false, false, false] [0, 1, 2, 3, 4, 5, 6, 7, 8, 9, 14, 15, 16, 17]
     exact wl_end ⟨hf, H⟩
    ·have hf := hf.lit 54 rfl hc3
     refine pz 5 hf fun a hf => ?_
     refine iteB hGc19 (fun hc4 hGc19 => ?_) fun hc4 hGc19 => ?_
     ·have hf := hf.lit 59 rfl hc4
      refine pz 4 hf fun a hf => ?_
      obtain rfl := Option.some.inj hGc19
      have hf := hf.pn [63, 1, 2, 6, 7, 8, 9, 10, 11, 12, 13]
      have H := H.lt_ [true, true, true, true] [] [true, true, true, true, true, true, true, true, false, false, false, false] [0, 1, 2, 3, 4, 5, 6, 7, 8, 9, 14, 15, 16, 17]
      exact wl_end ⟨hf, H⟩
     ·have hf := hf.lit 59 rfl hc4
      refine pz 4 hf fun a hf => ?_
      obtain rfl := Option.some.inj hGc19
      have hf := hf.pn [63, 1, 2, 6, 7, 8, 9, 10, 11, 12, 13]
      have H := H.lt_ [true, true, true, true] [] [true, true, true, true, true, true, true, true, false, false, false, false] [0, 1, 2, 3, 4, 5, 6, 7, 8, 9, 14, 15, 16, 17]
      exact wl_end ⟨hf, H⟩
   refine then_n (ib hF hf (fun hc5 hF => ?_) fun hc5 hF => ?_)
   ·refine sqz (pz 1 hf fun a hf => ?_)
    refine wl_end (then_n (wp_ret (then_r (?_))))
    obtain rfl := Option.some.inj hF
    refine ret_1 hf rfl (rv_tmp hf rfl) ?_
    exact ⟨_, rfl, H.bel, mk_bool⟩
   ·refine wp_skip (then_n (sq (sq (drawn [] (bs := [false, false, false, false, false]) (fuel := 5) (Checked.mixed Tryz.checked) rfl rfl fun w hb => ?_))))
    have H := H.keep hb
    refine strT (H.let [false, true, false, false] [] [false, false, false, false, false, false, false, false] [] rfl rfl rfl rfl) (fun w H => trivial) fun hS => ?_
    refine tS 0 [] rfl rfl rfl rfl hf (by kernel_rfl) (by kernel_rfl) hS (fun w H => rq_loadBN hf H TF.la45 0 rfl rfl rfl rfl) fun a hf => ?_
    refine strT (H.let [false, true, false, true] [] [false, false, false, false, false, false, false, false] [] rfl rfl rfl rfl) (fun w H => H.let [true, false] [] [] [] rfl rfl rfl rfl) fun hS => ?_
    refine tS 1 [] rfl rfl rfl rfl hf (by kernel_rfl) (by kernel_rfl) hS (fun w H => rq_loadBN hf H TF.la28 1 rfl rfl rfl rfl) fun a hf => ?_
    obtain ⟨y10, hy10, hF⟩ := bind_some hF
    refine n1 2 (by kernel_rfl) rfl rfl (op_call hf TF.cl14 rfl (by decide) (laws_toPlan_ok (S := TT) (Plan_mkv (x := aP) (H.rt 13 rfl) (H.rt 12 rfl) (H.rt 11 rfl)) hy10) fun v16 w a hp20 hf => ?_)
    obtain ⟨hb10, F18, hp21, hN6⟩ := hp20
    obtain ⟨A19, c20, F19, A20, c21, F20, A21, c22, F21, rfl, rfl, hl19, hl20, hl21⟩ := Plan_vo hp21
    have H := H.addOwn hb10 (X := [(⟨F19, MP.own F19 [(.slice A19 y10.Network.Nodes.length c20)] (y10.Network.Nodes : List ByteArray)⟩ : DI), (⟨F20, MP.own F20 [(.slice A20 y10.Network.Fibers.length c21)] (y10.Network.Fibers : List Fiber)⟩ : DI), (⟨F21, MP.own F21 [(.slice A21 y10.Lights.length c22)] (y10.Lights : List Light)⟩ : DI)]) (by simpa using hN6.1) (ps1 hl19 (ps1 hl20 (ps1 hl21 ps0))) (by simpa using hN6.2)
    have H := H.lend 0 rfl
    have H := H.lend 1 rfl
    have H := H.lend 2 rfl
    have hS := H.lt_ [false, true, false, true] [] [false, false, false, false, false, false, false, false, false, false, false] []
    refine ⟨fun _ => hS, ?_⟩
    obtain ⟨y11, hy11, hF⟩ := bind_some hF
    refine n1 3 (by kernel_rfl) rfl rfl (op_call hf TF.cl17 rfl (by decide) (laws_eqPlan_ok (S := TT) (Plan_mkv (x := y6) (H.rt 9 rfl) (H.rt 8 rfl) (H.rt 7 rfl)) (Plan_mkv (x := y10) (H.rt 2 rfl) (H.rt 1 rfl) (H.rt 0 rfl)) hy11) fun v17 w a hp22 hf => ?_)
    obtain ⟨hb11, hp22⟩ := hp22
    obtain rfl := VR_bool hp22
    have H := H.keep hb11
    have hS := H.lt_ [false, true, false, true] [] [false, false, false, false, false, false, false, false, false, false, false] []
    refine ⟨fun _ => hS, ?_⟩
    refine zp 4 hf hS fun a hf => ?_
    refine dn (by kernel_rfl) ?_
    refine then_n (ib hF hf (fun hc6 hF => ?_) fun hc6 hF => ?_)
    ·refine sqz (pz 1 hf fun a hf => ?_)
     have hf := hf.pn [4]
     refine wl_end (then_n (wp_ret (then_r (?_))))
     obtain rfl := Option.some.inj hF
     refine ret_1 hf rfl (rv_tmp hf rfl) ?_
     exact ⟨_, rfl, H.bel, mk_bool⟩
    ·refine wp_skip (then_n (sq (sqz (pz 2 hf fun a hf => ?_))))
     obtain ⟨y12, hy12, hF⟩ := bind_some hF
     refine oc hf TF.cl27 (laws_toActionS_ok (S := TT) (mk_list (H.rt 13 rfl)) hy12) fun v18 w a hp23 hf => ?_
     obtain ⟨hb12, F22, hp24, hN7⟩ := hp23
     obtain ⟨A22, c23, rfl, hl22⟩ := VO_list hp24
     have H := H.addOwn hb12 (X := [(⟨F22, MP.own F22 [(.slice A22 y12.length c23)] (y12 : List Action)⟩ : DI)]) (by simpa using hN7.1) (ps1 hl22 ps0) (by simpa using hN7.2)
     have H := H.lend 0 rfl
     obtain ⟨y13, hy13, hF⟩ := bind_some hF
     refine oc hf TF.cl29 (laws_eqActionS_ok (S := TT) (mk_list (H.rt 7 rfl)) (mk_list (H.rt 0 rfl)) hy13) fun v19 w a hp25 hf => ?_
     obtain ⟨hb13, hp25⟩ := hp25
     obtain rfl := VR_bool hp25
     have H := H.keep hb13
     refine pz 1 hf fun a hf => ?_
     refine wl_end (then_n (ib hF hf (fun hc7 hF => ?_) fun hc7 hF => ?_))
     ·refine sqz (pz 1 hf fun a hf => ?_)
      have hf := hf.pn [4]
      refine wl_end (then_n (wp_ret (then_r (?_))))
      obtain rfl := Option.some.inj hF
      refine ret_1 hf rfl (rv_tmp hf rfl) ?_
      exact ⟨_, rfl, H.bel, mk_bool⟩
     ·refine wp_skip (then_n (sqz (pz 1 hf fun a hf => ?_)))
      refine wr (oq hf (rq_loadBN hf H TF.la45 1 rfl rfl rfl rfl) fun a hf => ?_)
      refine pz 1 hf fun a hf => ?_
      have H := H.frontD 10 rfl
      have H := H.frontD 10 rfl
      have H := H.frontD 10 rfl
      have H := H.recast (X := [(⟨F9, MP.own F9 [(.slice A12 y6.Network.Nodes.length c12)] (y6.Network.Nodes : List ByteArray)⟩ : DI), (⟨F10, MP.own F10 [(.slice A13 y6.Network.Fibers.length c13)] (y6.Network.Fibers : List Fiber)⟩ : DI), (⟨F11, MP.own F11 [(.slice A14 y6.Lights.length c14)] (y6.Lights : List Light)⟩ : DI)]) (Y := [(⟨(F9 ++ (F10 ++ F11)), MP.own (F9 ++ (F10 ++ F11)) [(.slice A12 y6.Network.Nodes.length c12), (.slice A13 y6.Network.Fibers.length c13), (.slice A14 y6.Lights.length c14)] (y6 : Plan)⟩ : DI)]) (List.Perm.of_eq (by simp)) fun _ => ps1 (Plan_ownmk (x := y6) (H.ownAt 0 rfl) (H.ownAt 1 rfl) (H.ownAt 2 rfl)) ps0
      obtain ⟨y14, hy14, hF⟩ := bind_some hF
      refine oc hf TF.cl19 (laws_markPlan_ok (S := TT) (F := (F9 ++ (F10 ++ F11))) (cs := [(.slice A12 y6.Network.Nodes.length c12), (.slice A13 y6.Network.Fibers.length c13), (.slice A14 y6.Lights.length c14)]) (H.ownAt 0 rfl) H.diNd.1 mk_int hy14) fun v20 w a hp26 hf => ?_
      obtain ⟨hch, hv, F24, ho, hbk⟩ := hp26
      obtain rfl := VR_int hv
      have H := H.wrote rfl hch ho hbk
      obtain ⟨F25, F26, F27, hFe, hl23, hl24, hl25⟩ := Plan_ownc (H.ownAt 0 rfl)
      have H := H.recast (X := [(⟨F24, MP.own F24 [(.slice A12 y6.Network.Nodes.length c12), (.slice A13 y6.Network.Fibers.length c13), (.slice A14 y6.Lights.length c14)] (y14.2 : Plan)⟩ : DI)]) (Y := [(⟨F25, MP.own F25 [(.slice A12 y6.Network.Nodes.length c12)] (y14.2.Network.Nodes : List ByteArray)⟩ : DI), (⟨F26, MP.own F26 [(.slice A13 y6.Network.Fibers.length c13)] (y14.2.Network.Fibers : List Fiber)⟩ : DI), (⟨F27, MP.own F27 [(.slice A14 y6.Lights.length c14)] (y14.2.Lights : List Light)⟩ : DI)]) (List.Perm.of_eq (by simp [hFe])) fun _ => (ps1 hl23 (ps1 hl24 (ps1 hl25 ps0)))
      have H := H.arg (p := MP.val [(.slice A aP.Network.Nodes.length c)] aP.Network.Nodes) hl
      have H := H.arg (p := MP.val [(.slice A2 aP.Network.Fibers.length c2)] aP.Network.Fibers) hl2
      have H := H.arg (p := MP.val [(.slice A3 aP.Lights.length c3)] aP.Lights) hl3
      have H := H.arg (p := MP.val [(.slice A4 aList.length c4)] aList) hl4
      have H := H.lend 0 rfl
      have H := H.lend 1 rfl
      have H := H.lend 2 rfl
      have H := H.lend 3 rfl
      have H := H.lend 4 rfl
      have H := H.lend 5 rfl
      have H := H.lend 6 rfl
      have H := H.lend 7 rfl
      have H := H.lend 8 rfl
      have H := H.lend 9 rfl
      have H := H.lend 10 rfl
      have H := H.lendQ 11 (q := MP.val [(.slice A9 y5.1.Network.Nodes.length c9)] (y5.1.Network.Nodes : List ByteArray)) rfl fun _ _ h => h.1
      have H := H.lendQ 11 (q := MP.val [(.slice A10 y5.1.Network.Fibers.length c10)] (y5.1.Network.Fibers : List Fiber)) rfl fun _ _ h => h.2.1
      have H := H.lendQ 11 (q := MP.val [(.slice A11 y5.1.Lights.length c11)] (y5.1.Lights : List Light)) rfl fun _ _ h => h.2.2
      refine pz 1 hf fun a hf => ?_
      have hf := hf.pn [1, 2, 6, 7, 8, 10, 11, 12, 13, 14]
      refine wr (pz 2 hf fun a hf => ?_)
      have H := H.frontD 10 rfl
      obtain ⟨y15, hy15, hF⟩ := bind_some hF
      refine oc hf TF.cl30 (laws_markActionS_ok (S := TT) (F := F12) (cs := [(.slice A15 y7.length c15)]) (H.ownAt 0 rfl) H.diNd.1 mk_int hy15) fun v21 w a hp27 hf => ?_
      obtain ⟨hch2, hv2, F28, ho2, hbk2⟩ := hp27
      obtain rfl := VR_int hv2
      have H := H.wrote rfl hch2 ho2 hbk2
      have H := H.arg (p := MP.val [(.slice A aP.Network.Nodes.length c)] aP.Network.Nodes) hl
      have H := H.arg (p := MP.val [(.slice A2 aP.Network.Fibers.length c2)] aP.Network.Fibers) hl2
      have H := H.arg (p := MP.val [(.slice A3 aP.Lights.length c3)] aP.Lights) hl3
      have H := H.arg (p := MP.val [(.slice A4 aList.length c4)] aList) hl4
      have H := H.lend 0 rfl
      have H := H.lend 1 rfl
      have H := H.lend 2 rfl
      have H := H.lend 3 rfl
      have H := H.lend 4 rfl
      have H := H.lend 5 rfl
      have H := H.lend 6 rfl
      have H := H.lend 7 rfl
      have H := H.lend 8 rfl
      have H := H.lend 9 rfl
      have H := H.lend 10 rfl
      have H := H.lendQ 11 (q := MP.val [(.slice A9 y5.1.Network.Nodes.length c9)] (y5.1.Network.Nodes : List ByteArray)) rfl fun _ _ h => h.1
      have H := H.lendQ 11 (q := MP.val [(.slice A10 y5.1.Network.Fibers.length c10)] (y5.1.Network.Fibers : List Fiber)) rfl fun _ _ h => h.2.1
      have H := H.lendQ 11 (q := MP.val [(.slice A11 y5.1.Lights.length c11)] (y5.1.Lights : List Light)) rfl fun _ _ h => h.2.2
      refine pz 1 hf fun a hf => ?_
      refine wl_end (then_n (sq (sq ?_)))
      obtain ⟨c24, hGc24, hF⟩ := bind_some hF
      have fh2 := hf.prune [1, 2, 6, 7, 8, 11] rfl
      have Hm2 := H.lt_ [true, false, true, true] [] [false, false, false, false, false, false, false, false, true, true, true, true] [0, 1, 2, 3, 4, 5, 14, 15, 16, 17]
      refine midF 97 (.bool c24) fh2 Hm2 ?_ fun a w hf H => ?_
      ·refine reg (pz 3 hf fun a hf => ?_)
       refine iteB hGc24 (fun hc8 hGc24 => ?_) fun hc8 hGc24 => ?_
       ·have hf := hf.lit 82 rfl hc8
        refine pz 15 hf fun a hf => ?_
        obtain rfl := Option.some.inj hGc24
        have hf := hf.pn [97, 1, 2, 6, 7, 8, 11]
        have H := H.lt_ [true, false, true, true] [] [false, false, false, false, false, false, false, false, true, true, true, true] [0, 1, 2, 3, 4, 5, 14, 15, 16, 17]
        exact wl_end ⟨hf, H⟩
       ·have hf := hf.lit 82 rfl hc8
        refine wlg hf rfl rfl rfl (op_q hf (rq_loadBN hf H TF.la45 0 rfl rfl rfl rfl) rfl (by decide) fun a hf => ?_)
        refine wlg hf rfl rfl rfl (op_q hf (rq_loadBN hf H TF.la45 2 rfl rfl rfl rfl) rfl (by decide) fun a hf => ?_)
        obtain ⟨y16, hy16, hGc24⟩ := bind_some hGc24
        refine wlg hf rfl rfl rfl (op_call hf TF.cl17 rfl (by decide) (laws_eqPlan_ok (S := TT) (Plan_mkv (x := y8.1) (H.rt 5 rfl) (H.rt 4 rfl) (H.rt 3 rfl)) (Plan_mkv (x := y5.1) (H.rt 2 rfl) (H.rt 1 rfl) (H.rt 0 rfl)) hy16) fun v22 w a hp28 hf => ?_)
        obtain ⟨hb14, hp28⟩ := hp28
        obtain rfl := VR_bool hp28
        have H := H.keep hb14
        refine pz 3 hf fun a hf => ?_
        refine iteB hGc24 (fun hc9 hGc24 => ?_) fun hc9 hGc24 => ?_
        ·have hf := hf.lit 88 rfl hc9
         refine pz 9 hf fun a hf => ?_
         obtain rfl := Option.some.inj hGc24
         have hf := hf.pn [97, 1, 2, 6, 7, 8, 11]
         have H := H.lt_ [true, false, true, true] [] [false, false, false, false, false, false, false, false, true, true, true, true] [0, 1, 2, 3, 4, 5, 14, 15, 16, 17]
         exact wl_end ⟨hf, H⟩
        ·have hf := hf.lit 88 rfl hc9
         refine pz 5 hf fun a hf => ?_
         refine iteB hGc24 (fun hc10 hGc24 => ?_) fun hc10 hGc24 => ?_
         ·have hf := hf.lit 93 rfl hc10
          refine pz 4 hf fun a hf => ?_
          obtain rfl := Option.some.inj hGc24
          have hf := hf.pn [97, 1, 2, 6, 7, 8, 11]
          have H := H.lt_ [true, false, true, true] [] [false, false, false, false, false, false, false, false, true, true, true, true] [0, 1, 2, 3, 4, 5, 14, 15, 16, 17]
          exact wl_end ⟨hf, H⟩
         ·have hf := hf.lit 93 rfl hc10
          refine pz 4 hf fun a hf => ?_
          obtain rfl := Option.some.inj hGc24
          have hf := hf.pn [97, 1, 2, 6, 7, 8, 11]
          have H := H.lt_ [true, false, true, true] [] [false, false, false, false, false, false, false, false, true, true, true, true] [0, 1, 2, 3, 4, 5, 14, 15, 16, 17]
          exact wl_end ⟨hf, H⟩
      refine then_n (ib hF hf (fun hc11 hF => ?_) fun hc11 hF => ?_)
      ·refine sqz (pz 1 hf fun a hf => ?_)
       refine wl_end (then_n (wp_ret (then_r (?_))))
       obtain rfl := Option.some.inj hF
       refine ret_1 hf rfl (rv_tmp hf rfl) ?_
       exact ⟨_, rfl, H.bel, mk_bool⟩
      ·refine wp_skip (then_n (sqz (pz 1 hf fun a hf => ?_)))
       refine wr (oq hf (rq_loadBN hf H TF.la45 0 rfl rfl rfl rfl) fun a hf => ?_)
       refine pz 1 hf fun a hf => ?_
       have H := H.frontD 2 rfl
       have H := H.frontD 2 rfl
       have H := H.frontD 2 rfl
       have H := H.recast (X := [(⟨F15, MP.own F15 [(.slice A16 y8.1.Network.Nodes.length c16)] (y8.1.Network.Nodes : List ByteArray)⟩ : DI), (⟨F16, MP.own F16 [(.slice A17 y8.1.Network.Fibers.length c17)] (y8.1.Network.Fibers : List Fiber)⟩ : DI), (⟨F17, MP.own F17 [(.slice A18 y8.1.Lights.length c18)] (y8.1.Lights : List Light)⟩ : DI)]) (Y := [(⟨(F15 ++ (F16 ++ F17)), MP.own (F15 ++ (F16 ++ F17)) [(.slice A16 y8.1.Network.Nodes.length c16), (.slice A17 y8.1.Network.Fibers.length c17), (.slice A18 y8.1.Lights.length c18)] (y8.1 : Plan)⟩ : DI)]) (List.Perm.of_eq (by simp)) fun _ => ps1 (Plan_ownmk (x := y8.1) (H.ownAt 0 rfl) (H.ownAt 1 rfl) (H.ownAt 2 rfl)) ps0
       obtain ⟨y17, hy17, hF⟩ := bind_some hF
       refine oc hf TF.cl19 (laws_markPlan_ok (S := TT) (F := (F15 ++ (F16 ++ F17))) (cs := [(.slice A16 y8.1.Network.Nodes.length c16), (.slice A17 y8.1.Network.Fibers.length c17), (.slice A18 y8.1.Lights.length c18)]) (H.ownAt 0 rfl) H.diNd.1 mk_int hy17) fun v23 w a hp29 hf => ?_
       obtain ⟨hch3, hv3, F29, ho3, hbk3⟩ := hp29
       obtain rfl := VR_int hv3
       have H := H.wrote rfl hch3 ho3 hbk3
       obtain ⟨F30, F31, F32, hFe2, hl26, hl27, hl28⟩ := Plan_ownc (H.ownAt 0 rfl)
       have H := H.recast (X := [(⟨F29, MP.own F29 [(.slice A16 y8.1.Network.Nodes.length c16), (.slice A17 y8.1.Network.Fibers.length c17), (.slice A18 y8.1.Lights.length c18)] (y17.2 : Plan)⟩ : DI)]) (Y := [(⟨F30, MP.own F30 [(.slice A16 y8.1.Network.Nodes.length c16)] (y17.2.Network.Nodes : List ByteArray)⟩ : DI), (⟨F31, MP.own F31 [(.slice A17 y8.1.Network.Fibers.length c17)] (y17.2.Network.Fibers : List Fiber)⟩ : DI), (⟨F32, MP.own F32 [(.slice A18 y8.1.Lights.length c18)] (y17.2.Lights : List Light)⟩ : DI)]) (List.Perm.of_eq (by simp [hFe2])) fun _ => (ps1 hl26 (ps1 hl27 (ps1 hl28 ps0)))
       have H := H.arg (p := MP.val [(.slice A aP.Network.Nodes.length c)] aP.Network.Nodes) hl
       have H := H.arg (p := MP.val [(.slice A2 aP.Network.Fibers.length c2)] aP.Network.Fibers) hl2
       have H := H.arg (p := MP.val [(.slice A3 aP.Lights.length c3)] aP.Lights) hl3
       have H := H.arg (p := MP.val [(.slice A4 aList.length c4)] aList) hl4
       have H := H.lend 0 rfl
       have H := H.lend 1 rfl
       have H := H.lend 2 rfl
       have H := H.lendQ 3 (q := MP.val [(.slice A9 y5.1.Network.Nodes.length c9)] (y5.1.Network.Nodes : List ByteArray)) rfl fun _ _ h => h.1
       have H := H.lendQ 3 (q := MP.val [(.slice A10 y5.1.Network.Fibers.length c10)] (y5.1.Network.Fibers : List Fiber)) rfl fun _ _ h => h.2.1
       have H := H.lendQ 3 (q := MP.val [(.slice A11 y5.1.Lights.length c11)] (y5.1.Lights : List Light)) rfl fun _ _ h => h.2.2
       refine pz 1 hf fun a hf => ?_
       refine wr (pz 1 hf fun a hf => ?_)
       refine wr (oq hf (rq_loadBN hf H TF.la45 0 rfl rfl rfl rfl) fun a hf => ?_)
       refine pz 1 hf fun a hf => ?_
       obtain ⟨y18, hy18, hF⟩ := bind_some hF
       refine oc hf TF.cl21 (laws_heldPlan_ok (S := TT) (Plan_mkv (x := y17.2) (H.rt 5 rfl) (H.rt 4 rfl) (H.rt 3 rfl)) mk_int hy18) fun v24 w a hp30 hf => ?_
       obtain ⟨hb15, hp30⟩ := hp30
       obtain rfl := VR_int hp30
       have H := H.keep hb15
       refine pz 1 hf fun a hf => ?_
       refine wl_end (then_n (sq (sqz (pz 2 hf fun a hf => ?_))))
       refine wl_end (then_n (ib hF hf (fun hc12 hF => ?_) fun hc12 hF => ?_))
       ·refine sqz (pz 1 hf fun a hf => ?_)
        have hf := hf.pn [4]
        refine wl_end (then_n (wp_ret (then_r (?_))))
        obtain rfl := Option.some.inj hF
        refine ret_1 hf rfl (rv_tmp hf rfl) ?_
        exact ⟨_, rfl, H.bel, mk_bool⟩
       ·refine wp_skip (then_n (sq (sqz (pz 3 hf fun a hf => ?_))))
        refine wl_end (then_n (ib hF hf (fun hc13 hF => ?_) fun hc13 hF => ?_))
        ·refine sqz (pz 1 hf fun a hf => ?_)
         have hf := hf.pn [4]
         refine wl_end (then_n (wp_ret (then_r (?_))))
         obtain rfl := Option.some.inj hF
         refine ret_1 hf rfl (rv_tmp hf rfl) ?_
         exact ⟨_, rfl, H.bel, mk_bool⟩
        ·refine wp_skip (then_n (sq (reg (oq hf (rq_loadBN hf H TF.la28 2 rfl rfl rfl rfl) fun a hf => ?_))))
         obtain ⟨y19, hy19, hF⟩ := bind_some hF
         refine oc hf TF.cl14 (laws_toPlan_ok (S := TT) (Plan_mkv (x := aP) (H.rt 9 rfl) (H.rt 8 rfl) (H.rt 7 rfl)) hy19) fun v25 w a hp31 hf => ?_
         obtain ⟨hb16, F33, hp32, hN8⟩ := hp31
         obtain ⟨A23, c25, F34, A24, c26, F35, A25, c27, F36, rfl, rfl, hl29, hl30, hl31⟩ := Plan_vo hp32
         have H := H.addOwn hb16 (X := [(⟨F34, MP.own F34 [(.slice A23 y19.Network.Nodes.length c25)] (y19.Network.Nodes : List ByteArray)⟩ : DI), (⟨F35, MP.own F35 [(.slice A24 y19.Network.Fibers.length c26)] (y19.Network.Fibers : List Fiber)⟩ : DI), (⟨F36, MP.own F36 [(.slice A25 y19.Lights.length c27)] (y19.Lights : List Light)⟩ : DI)]) (by simpa using hN8.1) (ps1 hl29 (ps1 hl30 (ps1 hl31 ps0))) (by simpa using hN8.2)
         have H := H.lend 0 rfl
         have H := H.lend 1 rfl
         have H := H.lend 2 rfl
         refine pz 1 hf fun a hf => ?_
         obtain ⟨y20, hy20, hF⟩ := bind_some hF
         refine oc hf TF.cl27 (laws_toActionS_ok (S := TT) (mk_list (H.rt 9 rfl)) hy20) fun v26 w a hp33 hf => ?_
         obtain ⟨hb17, F37, hp34, hN9⟩ := hp33
         obtain ⟨A26, c28, rfl, hl32⟩ := VO_list hp34
         have H := H.addOwn hb17 (X := [(⟨F37, MP.own F37 [(.slice A26 y20.length c28)] (y20 : List Action)⟩ : DI)]) (by simpa using hN9.1) (ps1 hl32 ps0) (by simpa using hN9.2)
         have H := H.lend 0 rfl
         obtain ⟨y21, hy21, hF⟩ := bind_some hF
         refine oc hf TF.cl28 (impl_ApplyActions_ok (S := TT) (Plan_mkv (x := y19) (H.rt 3 rfl) (H.rt 2 rfl) (H.rt 1 rfl)) (mk_list (H.rt 0 rfl)) hy21) fun v27 w a hp35 hf => ?_
         obtain ⟨hb18, F39, v28, v29, v30, rfl, hp36, hp37, hp38, hN10⟩ := hp35
         obtain ⟨A27, c29, F40, A28, c30, F41, A29, c31, F42, rfl, rfl, hl33, hl34, hl35⟩ := Plan_vo hp36
         obtain rfl := VR_int hp37
         obtain rfl := VR_bool hp38
         have H := H.addOwn hb18 (X := [(⟨F40, MP.own F40 [(.slice A27 y21.1.Network.Nodes.length c29)] (y21.1.Network.Nodes : List ByteArray)⟩ : DI), (⟨F41, MP.own F41 [(.slice A28 y21.1.Network.Fibers.length c30)] (y21.1.Network.Fibers : List Fiber)⟩ : DI), (⟨F42, MP.own F42 [(.slice A29 y21.1.Lights.length c31)] (y21.1.Lights : List Light)⟩ : DI)]) (by simpa using hN10.1) (ps1 hl33 (ps1 hl34 (ps1 hl35 ps0))) (by simpa using hN10.2)
         have H := H.lend 0 rfl
         have H := H.lend 1 rfl
         have H := H.lend 2 rfl
         refine pz 4 hf fun a hf => ?_
         refine wl0 rfl (op_alloc hf H TF.zv45 rfl (by decide) fun b5 a w hf H => ?_)
         refine wl0 rfl (op_storeB hf H 0 TF.sz45 rfl rfl rfl rfl rfl rfl (nle rfl) fun w H => ?_)
         refine pz 2 hf fun a hf => ?_
         have hf := hf.pn [6, 7, 8, 11, 15, 17, 18, 19]
         refine wl_end (then_n (sq (sq ?_)))
         obtain ⟨c32, hGc32, hF⟩ := bind_some hF
         have fh3 := hf.prune [11, 15] rfl
         have Hm3 := H.lt_ [false, true, false, false] [] [false, false, false, false, false, false, false, true, true, true, false] [10, 11, 12]
         refine midF 131 (.bool c32) fh3 Hm3 ?_ fun a w hf H => ?_
         ·refine reg (oq hf (rq_loadBN hf H TF.la45 0 rfl rfl rfl rfl) fun a hf => ?_)
          refine oq hf (rq_loadBN hf H TF.la45 2 rfl rfl rfl rfl) fun a hf => ?_
          obtain ⟨y22, hy22, hGc32⟩ := bind_some hGc32
          refine oc hf TF.cl17 (laws_eqPlan_ok (S := TT) (Plan_mkv (x := y21.1) (H.rt 2 rfl) (H.rt 1 rfl) (H.rt 0 rfl)) (Plan_mkv (x := y5.1) (H.rt 9 rfl) (H.rt 8 rfl) (H.rt 7 rfl)) hy22) fun v31 w a hp39 hf => ?_
          obtain ⟨hb19, hp39⟩ := hp39
          obtain rfl := VR_bool hp39
          have H := H.keep hb19
          refine pz 2 hf fun a hf => ?_
          refine iteB hGc32 (fun hc14 hGc32 => ?_) fun hc14 hGc32 => ?_
          ·have hf := hf.lit 122 rfl hc14
           refine pz 9 hf fun a hf => ?_
           obtain rfl := Option.some.inj hGc32
           have hf := hf.pn [131, 11, 15]
           have H := H.lt_ [false, true, false, false] [] [false, false, false, false, false, false, false, true, true, true, false] [10, 11, 12]
           exact wl_end ⟨hf, H⟩
          ·have hf := hf.lit 122 rfl hc14
           refine pz 5 hf fun a hf => ?_
           refine iteB hGc32 (fun hc15 hGc32 => ?_) fun hc15 hGc32 => ?_
           ·have hf := hf.lit 127 rfl hc15
            refine pz 4 hf fun a hf => ?_
            obtain rfl := Option.some.inj hGc32
            have hf := hf.pn [131, 11, 15]
            have H := H.lt_ [false, true, false, false] [] [false, false, false, false, false, false, false, true, true, true, false] [10, 11, 12]
            exact wl_end ⟨hf, H⟩
           ·have hf := hf.lit 127 rfl hc15
            refine pz 4 hf fun a hf => ?_
            obtain rfl := Option.some.inj hGc32
            have hf := hf.pn [131, 11, 15]
            have H := H.lt_ [false, true, false, false] [] [false, false, false, false, false, false, false, true, true, true, false] [10, 11, 12]
            exact wl_end ⟨hf, H⟩
         refine then_n (ib hF hf (fun hc16 hF => ?_) fun hc16 hF => ?_)
         ·refine sqz (pz 1 hf fun a hf => ?_)
          refine wl_end (then_n (wp_ret (then_r (?_))))
          obtain rfl := Option.some.inj hF
          refine ret_1 hf rfl (rv_tmp hf rfl) ?_
          exact ⟨_, rfl, H.bel, mk_bool⟩
         ·refine wp_skip (then_n (sqz (pz 1 hf fun a hf => ?_)))
          refine wr (oq hf (rq_loadBN hf H TF.la45 0 rfl rfl rfl rfl) fun a hf => ?_)
          refine pz 1 hf fun a hf => ?_
          obtain ⟨y23, hy23, hF⟩ := bind_some hF
          refine oc hf TF.cl21 (laws_heldPlan_ok (S := TT) (Plan_mkv (x := y17.2) (H.rt 2 rfl) (H.rt 1 rfl) (H.rt 0 rfl)) mk_int hy23) fun v32 w a hp40 hf => ?_
          obtain ⟨hb20, hp40⟩ := hp40
          obtain rfl := VR_int hp40
          have H := H.keep hb20
          refine pz 1 hf fun a hf => ?_
          refine wl_end (then_n (sq (sqz (pz 2 hf fun a hf => ?_))))
          refine wl_end (then_n (ib hF hf (fun hc17 hF => ?_) fun hc17 hF => ?_))
          ·refine sqz (pz 1 hf fun a hf => ?_)
           refine wl_end (then_n (wp_ret (then_r (?_))))
           obtain rfl := Option.some.inj hF
           refine ret_1 hf rfl (rv_tmp hf rfl) ?_
           exact ⟨_, rfl, H.bel, mk_bool⟩
          ·refine wp_skip (then_n (sq (sqz (pz 3 hf fun a hf => ?_))))
           refine wl_end (then_n (ib hF hf (fun hc18 hF => ?_) fun hc18 hF => ?_))
           ·refine sqz (pz 1 hf fun a hf => ?_)
            refine wl_end (then_n (wp_ret (then_r (?_))))
            obtain rfl := Option.some.inj hF
            refine ret_1 hf rfl (rv_tmp hf rfl) ?_
            exact ⟨_, rfl, H.bel, mk_bool⟩
           ·refine wp_skip (then_n (sqz (pz 1 hf fun a hf => ?_)))
            refine wl_end (then_n (wp_ret (?_)))
            obtain rfl := Option.some.inj hF
            refine ret_1 hf rfl (rv_tmp hf rfl) ?_
            exact ⟨_, rfl, H.bel, mk_bool⟩
end AT

