/- The Go functions do what is told of them, by program (gen.py). -/
import Derived.Test.YtiedecncmihbeaaGreatWFnExactRunChange2
set_option linter.unusedVariables false
set_option linter.unusedSimpArgs false
set_option maxRecDepth 100000
set_option maxHeartbeats 1000000
namespace AT
open Go Go.RowKit Go.Proofs
variable {fu : Nat} {w0 : World}
theorem spec_RunChange_ok {S : Nat → Prop} {v0_ : Value} {v1_ : Value} {c : Change} {steps : Int} {r : Change × Int × Bool} (h0 : VR w0 S v0_ c) (h1 : VR w0 S v1_ steps) (hF : spec_RunChange fu c steps = some r) :
    Calls Tryz.prog 38 [v0_, v1_].toArray w0 fun e w' => ∃ v, e = .returned v ∧ (Below w0.heap.size w0 w' ∧ ∃ u0 u1 u2, v = .tuple #[u0, u1, u2] ∧ VR w' (St ⟨w0, []⟩ S [] [] [] true) u0 r.1 ∧ VR w' (St ⟨w0, []⟩ S [] [] [] true) u1 r.2.1 ∧ VR w' (St ⟨w0, []⟩ S [] [] [] true) u2 r.2.2) := by
 obtain ⟨A, c2, A2, c3, A3, c4, A4, c5, A5, c6, rfl, hl, hl2, hl3, hl4, hl5⟩ := Change_open h0
 obtain rfl := VR_int h1
 have H := Mem.start ⟨w0, []⟩ S
 have H := H.pA hl
 have H := H.pA hl2
 have H := H.pA hl3
 have H := H.pA hl4
 have H := H.pA hl5
 refine en Tryz.func38 fun a hf => ?_
 rw [spec_RunChange] at hF
 refine bx hf H fun b' a w hf H => ?_
 refine aL hf H TF.zv76 fun b2 a w hf H => ?_
 refine pz 2 hf fun a hf => ?_
 refine wl_end (then_n (sq (sq ?_)))
 obtain ⟨c7, hGc7, hF⟩ := bs_ hF
 have fh := hf.prune [1, 2, 4] rfl
 have Hm := H.lt_ [true, true] [] [] [0, 1, 2, 3, 4]
 refine midF 15 (.bool c7) fh Hm ?_ fun a w hf H => ?_
 ·refine reg (lN 1 hf H TF.la76 fun a hf => ?_)
  obtain ⟨y, hy, hGc7⟩ := bs_ hGc7
  refine oc hf TF.cl85 (spec_l20Good_ok (S := TT) (Change_mkv (x := c) (H.rt 4 rfl) (H.rt 3 rfl) (H.rt 2 rfl) (H.rt 1 rfl) (H.rt 0 rfl)) hy) fun v w a hp hf => ?_
  obtain ⟨hb, hp⟩ := hp
  obtain rfl := VR_bool hp
  have H := H.keep hb
  refine pz 2 hf fun a hf => ?_
  refine iteB hGc7 (fun hc hGc7 => ?_) fun hc hGc7 => ?_
  ·have hf := hf.lit 11 rfl hc
   refine pz 4 hf fun a hf => ?_
   obtain rfl := oi hGc7
   have hf := hf.pn [15, 1, 2, 4]
   have H := H.lt_ [true, true] [] [] [0, 1, 2, 3, 4]
   exact wl_end ⟨hf, H⟩
  ·have hf := hf.lit 11 rfl hc
   refine pz 1 hf fun a hf => ?_
   obtain ⟨y2, hy2, hGc7⟩ := bs_ hGc7
   refine wlg hf rfl rfl rfl (oC hf TF.cl91 (spec_l1In_ok (S := TT) mk_int mk_int mk_int hy2) fun v2 w a hp2 hf => ?_)
   obtain ⟨hb2, hp2⟩ := hp2
   obtain rfl := VR_bool hp2
   have H := H.keep hb2
   refine pz 2 hf fun a hf => ?_
   obtain rfl := oi hGc7
   have hf := hf.pn [15, 1, 2, 4]
   have H := H.lt_ [true, true] [] [] [0, 1, 2, 3, 4]
   exact wl_end ⟨hf, H⟩
 refine then_n (ib hF hf (fun hc2 hF => ?_) fun hc2 hF => ?_)
 ·refine sq (reg (oq hf (rq_build hf (cs := [(.slice none 0 0), (.slice none 0 0), (.slice none 0 0), (.slice none 0 0), (.slice none 0 0), (.bool false)]) rfl (fun w => by kernel_rfl)) fun a hf => ?_))
  refine sB 0 hf H TF.sz76 fun w H => ?_
  refine pz 2 hf fun a hf => ?_
  refine wl_end (then_n (wp_ret (then_r (?_))))
  have H := H.pushNil (ByteArray) true
  have H := H.pushNil (Fiber) true
  have H := H.pushNil (Light) true
  have H := H.pushNil (Action) true
  have H := H.pushNil (Action) true
  obtain rfl := oi hF
  refine ret_3 hf rfl (rv_cellN hf H 0 TF.la76 rfl rfl rfl) (rv_tmp hf rfl) (rv_tmp hf rfl) ?_
  exact ⟨_, rfl, H.bel, _, _, _, rfl, (Change_mkv (x := ({ Plan := ({ Network := ({ Nodes := [], Fibers := [] } : Network), Lights := [] } : Plan), Actions := [], Undo := [], Back := false } : Change)) (rep_end (α := List ByteArray) (H.get 4 rfl)) (rep_end (α := List Fiber) (H.get 3 rfl)) (rep_end (α := List Light) (H.get 2 rfl)) (rep_end (α := List Action) (H.get 1 rfl)) (rep_end (α := List Action) (H.get 0 rfl))), mk_int, mk_bool⟩
 ·refine wp_skip (then_n (sq ?_))
  obtain ⟨y3, hy3, hF⟩ := bs_ hF
  obtain ⟨y4, hy4, hF⟩ := bs_ hF
  obtain ⟨y5, hy5, hF⟩ := bs_ hF
  refine mid (fun a w => ∃ (b3 : Nat) (A6 : Option Addr) (c8 : Nat) (F2 : List Nat) (A7 : Option Addr) (c9 : Nat) (F3 : List Nat) (A8 : Option Addr) (c10 : Nat) (F4 : List Nat) (A9 : Option Addr) (c11 : Nat) (F5 : List Nat) (A10 : Option Addr) (c12 : Nat) (F7 : List Nat), Fr a 43 [(1, (.int .i64 steps)), (4, (.pointer (some ⟨b2, 0, none⟩))), (7, (.pointer (some ⟨b3, 0, none⟩)))] ∧ Mem ⟨w0, []⟩ S [⟨b3, 76, [(.slice A6 y3.Network.Nodes.length c8), (.slice A7 y3.Network.Fibers.length c9), (.slice A8 y3.Lights.length c10), (.slice A9 y4.length c11), (.slice A10 y5.length c12), (.bool c.Back)]⟩, ⟨b2, 76, [(.slice none 0 0), (.slice none 0 0), (.slice none 0 0), (.slice none 0 0), (.slice none 0 0), (.bool false)]⟩] [] [⟨F7, MP.own F7 [(.slice A10 y5.length c12)] (y5 : List Action)⟩, ⟨F5, MP.own F5 [(.slice A9 y4.length c11)] (y4 : List Action)⟩, ⟨F2, MP.own F2 [(.slice A6 y3.Network.Nodes.length c8)] (y3.Network.Nodes : List ByteArray)⟩, ⟨F3, MP.own F3 [(.slice A7 y3.Network.Fibers.length c9)] (y3.Network.Fibers : List Fiber)⟩, ⟨F4, MP.own F4 [(.slice A8 y3.Lights.length c10)] (y3.Lights : List Light)⟩] [(true, MP.val [(.slice A10 y5.length c12)] (y5 : List Action)), (true, MP.val [(.slice A9 y4.length c11)] (y4 : List Action)), (true, MP.val [(.slice A8 y3.Lights.length c10)] (y3.Lights : List Light)), (true, MP.val [(.slice A7 y3.Network.Fibers.length c9)] (y3.Network.Fibers : List Fiber)), (true, MP.val [(.slice A6 y3.Network.Nodes.length c8)] (y3.Network.Nodes : List ByteArray))] w) ?_ ?_
  ·refine dw [13] 14 fun w hb => ?_
   have H := H.keep hb
   refine zp 0 hf trivial fun a hf => ?_
   refine strT (H.lt_ [false, true] [] [] []) (fun w H => trivial) fun hS => ?_
   refine zS 1 [1, 2, 5, 8, 11, 13] rfl rfl rfl rfl hf hS (fun w H => rq_loadBN hf H TF.la45 0 rfl rfl rfl rfl) fun a hf => ?_
   refine zp 3 hf hS fun a hf => ?_
   refine zS 4 [4, 5, 8, 11, 13] rfl rfl rfl rfl hf hS (fun w H => rq_loadB hf H TF.ls67 0 rfl rfl rfl) fun a hf => ?_
   refine zp 6 hf hS fun a hf => ?_
   refine zS 7 [7, 8, 11, 13] rfl rfl rfl rfl hf hS (fun w H => rq_loadB hf H TF.ls67 0 rfl rfl rfl) fun a hf => ?_
   refine zp 9 hf hS fun a hf => ?_
   refine zS 10 [10, 11, 13] rfl rfl rfl rfl hf hS (fun w H => rq_loadB hf H TF.ls4 0 rfl rfl rfl) fun a hf => ?_
   refine on2 (i := 2) (j := 12) (bi := [true, true, true, true, true, false, true, true, false, true, true, false, false, false]) (bj := [true, true, false, true, true, false, true, true, false, true, true, false, true, false]) (by kernel_rfl) rfl rfl rfl rfl rfl rfl ?_ ?_
   ·refine (oC hf TF.cl81 (spec_l9Own_ok (S := TT) (Plan_mkv (x := c.Plan) (H.rt 4 rfl) (H.rt 3 rfl) (H.rt 2 rfl)) hy3) fun v3 w a hp3 hf => ?_)
    obtain ⟨hb3, F, hp4, hN⟩ := hp3
    obtain ⟨A6, c8, F2, A7, c9, F3, A8, c10, F4, rfl, rfl, hl6, hl7, hl8⟩ := Plan_vo hp4
    have H := H.aO3 hb3 hN hl6 hl7 hl8
    have H := H.lend 0 rfl
    have H := H.lend 1 rfl
    have H := H.lend 2 rfl
    have hS := H.lt_ [false, true] [] [false, false, false] []
    refine aS hS ?_
    refine on2 (i := 5) (j := 12) (bi := [true, true, true, true, true, true, true, true, false, true, true, false, false, false]) (bj := [true, true, true, true, true, false, true, true, false, true, true, false, true, false]) (by kernel_rfl) rfl rfl rfl rfl rfl rfl ?_ ?_
    ·refine (oC hf TF.cl92 (spec_l20Copies_ok (S := TT) (mk_list (H.rt 4 rfl)) hy4) fun v4 w a hp5 hf => ?_)
     obtain ⟨hb4, F5, hp6, hN2⟩ := hp5
     obtain ⟨A9, c11, rfl, hl9⟩ := VO_list hp6
     have H := H.aO1 hb4 hN2 hl9
     have H := H.lend 0 rfl
     have hS := H.lt_ [false, true] [] [false, false, false, false] []
     refine aS hS ?_
     refine on2 (i := 8) (j := 12) (bi := [true, true, true, true, true, true, true, true, true, true, true, false, false, false]) (bj := [true, true, true, true, true, true, true, true, false, true, true, false, true, false]) (by kernel_rfl) rfl rfl rfl rfl rfl rfl ?_ ?_
     ·refine (oC hf TF.cl92 (spec_l20Copies_ok (S := TT) (mk_list (H.rt 4 rfl)) hy5) fun v5 w a hp7 hf => ?_)
      obtain ⟨hb5, F7, hp8, hN3⟩ := hp7
      obtain ⟨A10, c12, rfl, hl10⟩ := VO_list hp8
      have H := H.aO1 hb5 hN3 hl10
      have H := H.lend 0 rfl
      have hS := H.lt_ [false, true] [] [false, false, false, false, false] []
      refine aS hS ?_
      refine zP 11 rfl rfl rfl rfl hf hS (fun w => rq_build hf (cs := [(.slice A6 y3.Network.Nodes.length c8), (.slice A7 y3.Network.Fibers.length c9), (.slice A8 y3.Lights.length c10), (.slice A9 y4.length c11), (.slice A10 y5.length c12), (.bool c.Back)]) rfl (fun w => by kernel_rfl)) fun a hf => ?_
      refine nn 12 rfl (op_alloc hf H TF.zv76 rfl (by decide) fun b3 a w hf H => ?_)
      have hS := H.lt_ [false, false, true] [] [false, false, false, false, false] []
      refine aS hS ?_
      refine nn 13 rfl (op_storeB hf H 0 TF.sz76 rfl rfl rfl rfl rfl rfl (nle rfl) fun w H => ?_)
      refine ⟨fun h => absurd h (by decide), ?_⟩
      refine dk ?_
      have hf := hf.pn [1, 4, 7]
      have H := H.lt_ [true, true, false] [] [true, true, true, true, true] [0, 1, 2, 3, 4]
      exact ⟨b3, A6, c8, F2, A7, c9, F3, A8, c10, F4, A9, c11, F5, A10, c12, F7, hf, H⟩
     ·refine (op_alloc hf H TF.zv76 rfl (by decide) fun b3 a w hf H => ?_)
      have hS := H.lt_ [false, false, true] [] [false, false, false, false] []
      refine aS hS ?_
      refine nn 8 rfl (oC hf TF.cl92 (spec_l20Copies_ok (S := TT) (mk_list (H.rt 4 rfl)) hy5) fun v5 w a hp7 hf => ?_)
      obtain ⟨hb5, F7, hp8, hN3⟩ := hp7
      obtain ⟨A10, c12, rfl, hl10⟩ := VO_list hp8
      have H := H.aO1 hb5 hN3 hl10
      have H := H.lend 0 rfl
      have hS := H.lt_ [false, false, true] [] [false, false, false, false, false] []
      refine aS hS ?_
      refine zP 11 rfl rfl rfl rfl hf hS (fun w => rq_build hf (cs := [(.slice A6 y3.Network.Nodes.length c8), (.slice A7 y3.Network.Fibers.length c9), (.slice A8 y3.Lights.length c10), (.slice A9 y4.length c11), (.slice A10 y5.length c12), (.bool c.Back)]) rfl (fun w => by kernel_rfl)) fun a hf => ?_
      refine nn 13 rfl (op_storeB hf H 0 TF.sz76 rfl rfl rfl rfl rfl rfl (nle rfl) fun w H => ?_)
      refine ⟨fun h => absurd h (by decide), ?_⟩
      refine dk ?_
      have hf := hf.pn [1, 4, 7]
      have H := H.lt_ [true, true, false] [] [true, true, true, true, true] [0, 1, 2, 3, 4]
      exact ⟨b3, A6, c8, F2, A7, c9, F3, A8, c10, F4, A9, c11, F5, A10, c12, F7, hf, H⟩
    ·refine (op_alloc hf H TF.zv76 rfl (by decide) fun b3 a w hf H => ?_)
     have hS := H.lt_ [false, false, true] [] [false, false, false] []
     refine aS hS ?_
     refine nn 5 rfl (oC hf TF.cl92 (spec_l20Copies_ok (S := TT) (mk_list (H.rt 4 rfl)) hy4) fun v4 w a hp5 hf => ?_)
     obtain ⟨hb4, F5, hp6, hN2⟩ := hp5
     obtain ⟨A9, c11, rfl, hl9⟩ := VO_list hp6
     have H := H.aO1 hb4 hN2 hl9
     have H := H.lend 0 rfl
     have hS := H.lt_ [false, false, true] [] [false, false, false, false] []
     refine aS hS ?_
     refine nn 8 rfl (oC hf TF.cl92 (spec_l20Copies_ok (S := TT) (mk_list (H.rt 4 rfl)) hy5) fun v5 w a hp7 hf => ?_)
     obtain ⟨hb5, F7, hp8, hN3⟩ := hp7
     obtain ⟨A10, c12, rfl, hl10⟩ := VO_list hp8
     have H := H.aO1 hb5 hN3 hl10
     have H := H.lend 0 rfl
     have hS := H.lt_ [false, false, true] [] [false, false, false, false, false] []
     refine aS hS ?_
     refine zP 11 rfl rfl rfl rfl hf hS (fun w => rq_build hf (cs := [(.slice A6 y3.Network.Nodes.length c8), (.slice A7 y3.Network.Fibers.length c9), (.slice A8 y3.Lights.length c10), (.slice A9 y4.length c11), (.slice A10 y5.length c12), (.bool c.Back)]) rfl (fun w => by kernel_rfl)) fun a hf => ?_
     refine nn 13 rfl (op_storeB hf H 0 TF.sz76 rfl rfl rfl rfl rfl rfl (nle rfl) fun w H => ?_)
     refine ⟨fun h => absurd h (by decide), ?_⟩
     refine dk ?_
     have hf := hf.pn [1, 4, 7]
     have H := H.lt_ [true, true, false] [] [true, true, true, true, true] [0, 1, 2, 3, 4]
     exact ⟨b3, A6, c8, F2, A7, c9, F3, A8, c10, F4, A9, c11, F5, A10, c12, F7, hf, H⟩
   ·refine (op_alloc hf H TF.zv76 rfl (by decide) fun b3 a w hf H => ?_)
    have hS := H.lt_ [false, false, true] [] [] []
    refine aS hS ?_
    refine nn 2 rfl (oC hf TF.cl81 (spec_l9Own_ok (S := TT) (Plan_mkv (x := c.Plan) (H.rt 4 rfl) (H.rt 3 rfl) (H.rt 2 rfl)) hy3) fun v3 w a hp3 hf => ?_)
    obtain ⟨hb3, F, hp4, hN⟩ := hp3
    obtain ⟨A6, c8, F2, A7, c9, F3, A8, c10, F4, rfl, rfl, hl6, hl7, hl8⟩ := Plan_vo hp4
    have H := H.aO3 hb3 hN hl6 hl7 hl8
    have H := H.lend 0 rfl
    have H := H.lend 1 rfl
    have H := H.lend 2 rfl
    have hS := H.lt_ [false, false, true] [] [false, false, false] []
    refine aS hS ?_
    refine nn 5 rfl (oC hf TF.cl92 (spec_l20Copies_ok (S := TT) (mk_list (H.rt 4 rfl)) hy4) fun v4 w a hp5 hf => ?_)
    obtain ⟨hb4, F5, hp6, hN2⟩ := hp5
    obtain ⟨A9, c11, rfl, hl9⟩ := VO_list hp6
    have H := H.aO1 hb4 hN2 hl9
    have H := H.lend 0 rfl
    have hS := H.lt_ [false, false, true] [] [false, false, false, false] []
    refine aS hS ?_
    refine nn 8 rfl (oC hf TF.cl92 (spec_l20Copies_ok (S := TT) (mk_list (H.rt 4 rfl)) hy5) fun v5 w a hp7 hf => ?_)
    obtain ⟨hb5, F7, hp8, hN3⟩ := hp7
    obtain ⟨A10, c12, rfl, hl10⟩ := VO_list hp8
    have H := H.aO1 hb5 hN3 hl10
    have H := H.lend 0 rfl
    have hS := H.lt_ [false, false, true] [] [false, false, false, false, false] []
    refine aS hS ?_
    refine zP 11 rfl rfl rfl rfl hf hS (fun w => rq_build hf (cs := [(.slice A6 y3.Network.Nodes.length c8), (.slice A7 y3.Network.Fibers.length c9), (.slice A8 y3.Lights.length c10), (.slice A9 y4.length c11), (.slice A10 y5.length c12), (.bool c.Back)]) rfl (fun w => by kernel_rfl)) fun a hf => ?_
    refine nn 13 rfl (op_storeB hf H 0 TF.sz76 rfl rfl rfl rfl rfl rfl (nle rfl) fun w H => ?_)
    refine ⟨fun h => absurd h (by decide), ?_⟩
    refine dk ?_
    have hf := hf.pn [1, 4, 7]
    have H := H.lt_ [true, true, false] [] [true, true, true, true, true] [0, 1, 2, 3, 4]
    exact ⟨b3, A6, c8, F2, A7, c9, F3, A8, c10, F4, A9, c11, F5, A10, c12, F7, hf, H⟩
  rintro a w ⟨b3, A6, c8, F2, A7, c9, F3, A8, c10, F4, A9, c11, F5, A10, c12, F7, hf, H⟩
  refine then_n (sq ?_)
  obtain ⟨out', hB1, hF⟩ := bs_ hF
  have hf := hf.pn [1, 4, 7]
  have H := H.lt_ [true, true] [] [false, false, false, false, false] [0, 1, 2, 3, 4]
  refine loopC (fun (s : Int × List ByteArray × List Fiber × List Light × List Action × List Action × Bool) (a : Act) (w : World) => match s with | (steps2, m, m2, m3, m4, m5, m6) => ∃ (A11 : Option Addr) (c13 : Nat) (A12 : Option Addr) (c14 : Nat) (A13 : Option Addr) (c15 : Nat) (A14 : Option Addr) (c16 : Nat) (A15 : Option Addr) (c17 : Nat), Fr a 43 [(1, (.int .i64 steps2)), (4, (.pointer (some ⟨b2, 0, none⟩))), (7, (.pointer (some ⟨b3, 0, none⟩)))] ∧ Mem ⟨w0, []⟩ S [⟨b3, 76, [(.slice A11 m.length c13), (.slice A12 m2.length c14), (.slice A13 m3.length c15), (.slice A14 m4.length c16), (.slice A15 m5.length c17), (.bool m6)]⟩, ⟨b2, 76, [(.slice none 0 0), (.slice none 0 0), (.slice none 0 0), (.slice none 0 0), (.slice none 0 0), (.bool false)]⟩] [] [] [(true, MP.val [(.slice A15 m5.length c17)] (m5 : List Action)), (true, MP.val [(.slice A14 m4.length c16)] (m4 : List Action)), (true, MP.val [(.slice A13 m3.length c15)] (m3 : List Light)), (true, MP.val [(.slice A12 m2.length c14)] (m2 : List Fiber)), (true, MP.val [(.slice A11 m.length c13)] (m : List ByteArray))] w) (fun k (s : Int × List ByteArray × List Fiber × List Light × List Action × List Action × Bool) => spec_RunChange_L1 fu k s.1 s.2.1 s.2.2.1 s.2.2.2.1 s.2.2.2.2.1 s.2.2.2.2.2.1 s.2.2.2.2.2.2 = some out') (fun s => out' = s) (steps, y3.Network.Nodes, y3.Network.Fibers, y3.Lights, y4, y5, c.Back) fu hB1 ⟨A6, c8, A7, c9, A8, c10, A9, c11, A10, c12, hf, H⟩ (fun s h => by cases h) ?_ ?_
  ·rintro fk ⟨steps2, m, m2, m3, m4, m5, m6⟩ a w hR1 hI
   replace hR1 : spec_RunChange_L1 fu (fk + 1) steps2 m m2 m3 m4 m5 m6 = some out' := hR1
   rw [spec_RunChange_L1] at hR1
   obtain ⟨A11, c13, A12, c14, A13, c15, A14, c16, A15, c17, hf, H⟩ := hI
   refine sq (sq ?_)
   obtain ⟨c18, hGc18, hR1⟩ := bs_ hR1
   have fh2 := hf.prune [1, 4, 7] rfl
   have Hm2 := H.lt_ [true, true] [] [] [0, 1, 2, 3, 4]
   refine midF 35 (.bool c18) fh2 Hm2 ?_ fun a w hf H => ?_
   ·refine reg (pz 3 hf fun a hf => ?_)
    refine iteB hGc18 (fun hc3 hGc18 => ?_) fun hc3 hGc18 => ?_
    ·have hf := hf.lit 31 rfl hc3
     refine wlg hf rfl rfl rfl (op_q hf (rq_loadBN hf H TF.la76 0 rfl rfl rfl rfl) rfl (by decide) fun a hf => ?_)
     obtain ⟨y6, hy6, hGc18⟩ := bs_ hGc18
     refine wlg hf rfl rfl rfl (oC hf TF.cl87 (spec_l20State_ok (S := TT) (Change_mkv (x := ({ Plan := ({ Network := ({ Nodes := m, Fibers := m2 } : Network), Lights := m3 } : Plan), Actions := m4, Undo := m5, Back := m6 } : Change)) (H.rt 4 rfl) (H.rt 3 rfl) (H.rt 2 rfl) (H.rt 1 rfl) (H.rt 0 rfl)) hy6) fun v6 w a hp9 hf => ?_)
     obtain ⟨hb6, hp9⟩ := hp9
     obtain rfl := VR_int hp9
     have H := H.keep hb6
     refine pz 2 hf fun a hf => ?_
     obtain rfl := oi hGc18
     have hf := hf.pn [35, 1, 4, 7]
     have H := H.lt_ [true, true] [] [] [0, 1, 2, 3, 4]
     exact wl_end ⟨hf, H⟩
    ·have hf := hf.lit 31 rfl hc3
     refine pz 4 hf fun a hf => ?_
     obtain rfl := oi hGc18
     have hf := hf.pn [35, 1, 4, 7]
     have H := H.lt_ [true, true] [] [] [0, 1, 2, 3, 4]
     exact wl_end ⟨hf, H⟩
   refine then_n (ib hR1 hf (fun hc4 hR1 => ?_) fun hc4 hR1 => ?_)
   ·refine wp_skip (then_n (sq (wp_block (reg (lN 0 hf H TF.la76 fun a hf => ?_)))))
    obtain ⟨y7, hy7, hR1⟩ := bs_ hR1
    refine oc hf TF.cl86 (spec_l20Step_ok (S := TT) (Change_mkv (x := ({ Plan := ({ Network := ({ Nodes := m, Fibers := m2 } : Network), Lights := m3 } : Plan), Actions := m4, Undo := m5, Back := m6 } : Change)) (H.rt 4 rfl) (H.rt 3 rfl) (H.rt 2 rfl) (H.rt 1 rfl) (H.rt 0 rfl)) hy7) fun v7 w a hp10 hf => ?_
    obtain ⟨hb7, hp10⟩ := hp10
    obtain ⟨A16, c19, A17, c20, A18, c21, A19, c22, A20, c23, rfl, hl11, hl12, hl13, hl14, hl15⟩ := Change_open hp10
    replace hl11 := H.rF hl11
    replace hl12 := H.rF hl12
    replace hl13 := H.rF hl13
    replace hl14 := H.rF hl14
    replace hl15 := H.rF hl15
    have H := H.keep hb7
    have H := H.pT hl11
    have H := H.pT hl12
    have H := H.pT hl13
    have H := H.pT hl14
    have H := H.pT hl15
    refine sB 0 hf H TF.sz76 fun w H => ?_
    refine wl_end (blk_n (then_n (reg (pz 3 hf fun a hf => ?_))))
    refine wl_end ?_
    have hf := hf.pn [1, 4, 7]
    have H := H.lt_ [true, true] [] [] [0, 1, 2, 3, 4]
    exact then_n ⟨(w64 (steps2 - 1), y7.Plan.Network.Nodes, y7.Plan.Network.Fibers, y7.Plan.Lights, y7.Actions, y7.Undo, y7.Back), hR1, A16, c19, A17, c20, A18, c21, A19, c22, A20, c23, hf, H⟩
   ·refine wp_exit (then_x (then_x (blk_e (?_))))
    have hf := hf.pn [1, 4, 7]
    have H := H.lt_ [true, true] [] [] [0, 1, 2, 3, 4]
    exact ⟨(steps2, m, m2, m3, m4, m5, m6), (Option.some.inj hR1).symm, A11, c13, A12, c14, A13, c15, A14, c16, A15, c17, hf, H⟩
  rintro a w ⟨⟨steps3, m7, m8, m9, m10, m11, m12⟩, rfl, A21, c24, A22, c25, A23, c26, A24, c27, A25, c28, hf, H⟩
  try dsimp only at hF
  refine then_n (sq (dw [3] 6 fun w hb => ?_))
  have H := H.keep hb
  refine strT (H.lt_ [true, false] [] [] []) (fun w H => trivial) fun hS => ?_
  refine zS 0 [0, 3, 4, 5] rfl rfl rfl rfl hf hS (fun w H => rq_loadBN hf H TF.la76 0 rfl rfl rfl rfl) fun a hf => ?_
  refine zS 1 [1, 2, 3, 4, 5] rfl rfl rfl rfl hf hS (fun w H => rq_loadBN hf H TF.la76 0 rfl rfl rfl rfl) fun a hf => ?_
  obtain ⟨y8, hy8, hF⟩ := bs_ hF
  refine nn 2 rfl (oC hf TF.cl87 (spec_l20State_ok (S := TT) (Change_mkv (x := ({ Plan := ({ Network := ({ Nodes := m7, Fibers := m8 } : Network), Lights := m9 } : Plan), Actions := m10, Undo := m11, Back := m12 } : Change)) (H.rt 4 rfl) (H.rt 3 rfl) (H.rt 2 rfl) (H.rt 1 rfl) (H.rt 0 rfl)) hy8) fun v8 w a hp11 hf => ?_)
  obtain ⟨hb8, hp11⟩ := hp11
  obtain rfl := VR_int hp11
  have H := H.keep hb8
  have hS := H.lt_ [true, false] [] [] []
  refine aS hS ?_
  refine nn 3 rfl (op_storeB hf H 1 TF.sz76 rfl rfl rfl rfl rfl rfl (nle rfl) fun w H => ?_)
  refine ⟨fun h => absurd h (by decide), ?_⟩
  refine tp 4 rfl rfl hf (by kernel_rfl) (fun h => absurd h (by decide)) rfl fun a hf => ?_
  refine tp 5 rfl rfl hf (by kernel_rfl) (fun h => absurd h (by decide)) rfl fun a hf => ?_
  refine dk ?_
  refine then_n (wp_ret (?_))
  obtain rfl := oi hF
  refine ret_3 hf rfl (rv_cellN hf H 1 TF.la76 rfl rfl rfl) (rv_tmp hf rfl) (rv_tmp hf rfl) ?_
  exact ⟨_, rfl, H.bel, _, _, _, rfl, (Change_mkv (x := ({ Plan := ({ Network := ({ Nodes := m7, Fibers := m8 } : Network), Lights := m9 } : Plan), Actions := m10, Undo := m11, Back := m12 } : Change)) (rep_end (α := List ByteArray) (H.get 4 rfl)) (rep_end (α := List Fiber) (H.get 3 rfl)) (rep_end (α := List Light) (H.get 2 rfl)) (rep_end (α := List Action) (H.get 1 rfl)) (rep_end (α := List Action) (H.get 0 rfl))), mk_int, mk_bool⟩
theorem impl_RunChange_ok {S : Nat → Prop} {v0_ : Value} {v1_ : Value} {c : Change} {steps : Int} {r : Change × Int × Bool} (h0 : VR w0 S v0_ c) (h1 : VR w0 S v1_ steps) (hF : impl_RunChange fu c steps = some r) :
    Calls Tryz.prog 39 [v0_, v1_].toArray w0 fun e w' => ∃ v, e = .returned v ∧ (Below w0.heap.size w0 w' ∧ ∃ F0, ∃ u0 u1 u2, v = .tuple #[u0, u1, u2] ∧ VO w' F0 u0 r.1 ∧ VR w' (St ⟨w0, []⟩ S [] [] [] true) u1 r.2.1 ∧ VR w' (St ⟨w0, []⟩ S [] [] [] true) u2 r.2.2 ∧ New w0 w' F0) := by
 obtain ⟨A, c2, A2, c3, A3, c4, A4, c5, A5, c6, rfl, hl, hl2, hl3, hl4, hl5⟩ := Change_open h0
 obtain rfl := VR_int h1
 have H := Mem.start ⟨w0, []⟩ S
 have H := H.pA hl
 have H := H.pA hl2
 have H := H.pA hl3
 have H := H.pA hl4
 have H := H.pA hl5
 refine en Tryz.func39 fun a hf => ?_
 rw [impl_RunChange] at hF
 refine bx hf H fun b' a w hf H => ?_
 refine aL hf H TF.zv76 fun b2 a w hf H => ?_
 refine pz 2 hf fun a hf => ?_
 refine wl_end (then_n (sq (sq ?_)))
 obtain ⟨c7, hGc7, hF⟩ := bs_ hF
 have fh := hf.prune [1, 2, 4] rfl
 have Hm := H.lt_ [true, true] [] [] [0, 1, 2, 3, 4]
 refine midF 16 (.bool c7) fh Hm ?_ fun a w hf H => ?_
 ·refine reg (lN 1 hf H TF.la76 fun a hf => ?_)
  obtain ⟨y, hy, hGc7⟩ := bs_ hGc7
  refine oc hf TF.cl49 (impl_IsValidChange_ok (S := TT) (Change_mkv (x := c) (H.rt 4 rfl) (H.rt 3 rfl) (H.rt 2 rfl) (H.rt 1 rfl) (H.rt 0 rfl)) hy) fun v w a hp hf => ?_
  obtain ⟨hb, hp⟩ := hp
  obtain rfl := VR_bool hp
  have H := H.keep hb
  refine pz 2 hf fun a hf => ?_
  refine iteB hGc7 (fun hc hGc7 => ?_) fun hc hGc7 => ?_
  ·have hf := hf.lit 12 rfl hc
   refine pz 4 hf fun a hf => ?_
   obtain rfl := oi hGc7
   have hf := hf.pn [16, 1, 2, 4]
   have H := H.lt_ [true, true] [] [] [0, 1, 2, 3, 4]
   exact wl_end ⟨hf, H⟩
  ·have hf := hf.lit 12 rfl hc
   refine pz 1 hf fun a hf => ?_
   obtain ⟨y2, hy2, hGc7⟩ := bs_ hGc7
   refine wlg hf rfl rfl rfl (oC hf TF.cl93 (impl_within_ok (S := TT) mk_int mk_int mk_int hy2) fun v2 w a hp2 hf => ?_)
   obtain ⟨hb2, hp2⟩ := hp2
   obtain rfl := VR_bool hp2
   have H := H.keep hb2
   refine pz 2 hf fun a hf => ?_
   obtain rfl := oi hGc7
   have hf := hf.pn [16, 1, 2, 4]
   have H := H.lt_ [true, true] [] [] [0, 1, 2, 3, 4]
   exact wl_end ⟨hf, H⟩
 refine then_n (ib hF hf (fun hc2 hF => ?_) fun hc2 hF => ?_)
 ·refine sq (reg (oq hf (rq_build hf (cs := [(.slice none 0 0), (.slice none 0 0), (.slice none 0 0), (.slice none 0 0), (.slice none 0 0), (.bool false)]) rfl (fun w => by kernel_rfl)) fun a hf => ?_))
  refine sB 0 hf H TF.sz76 fun w H => ?_
  refine pz 2 hf fun a hf => ?_
  refine wl_end (then_n (wp_ret (then_r (?_))))
  have H := H.ownNil (ByteArray)
  have H := H.lend 0 rfl
  have H := H.ownNil (Fiber)
  have H := H.lend 0 rfl
  have H := H.ownNil (Light)
  have H := H.lend 0 rfl
  have H := H.ownNil (Action)
  have H := H.lend 0 rfl
  have H := H.tl
  have H := H.lendTl 0 rfl
  have H := H.ownNil (Action)
  have H := H.lend 0 rfl
  have H := H.tl
  have H := H.lendTl 0 rfl
  have H := H.frontD 1 rfl
  have H := H.frontD 2 rfl
  have H := H.frontD 3 rfl
  have H := H.frontD 4 rfl
  obtain rfl := oi hF
  refine ret_3 hf rfl (rv_cellN hf H 0 TF.la76 rfl rfl rfl) (rv_tmp hf rfl) (rv_tmp hf rfl) ?_
  have hN := H.ends (X := [(⟨[], MP.own [] [(.slice none 0 0)] ([] : List ByteArray)⟩ : DI), (⟨[], MP.own [] [(.slice none 0 0)] ([] : List Fiber)⟩ : DI), (⟨[], MP.own [] [(.slice none 0 0)] ([] : List Light)⟩ : DI), (⟨[], MP.own [] [(.slice none 0 0)] (Tl.mk ([] : List Action))⟩ : DI), (⟨[], MP.own [] [(.slice none 0 0)] (Tl.mk ([] : List Action))⟩ : DI)])
  simp only [List.flatMap_cons, List.flatMap_nil, List.append_nil, List.append_assoc] at hN
  exact ⟨_, rfl, H.bel, ([] ++ ([] ++ ([] ++ ([] ++ [])))), _, _, _, rfl, ⟨_, Change_ownmk (x := ({ Plan := ({ Network := ({ Nodes := [], Fibers := [] } : Network), Lights := [] } : Plan), Actions := [], Undo := [], Back := false } : Change)) (H.ownAt 0 rfl) (H.ownAt 1 rfl) (H.ownAt 2 rfl) (H.ownAt 3 rfl) (H.ownAt 4 rfl), rfl⟩, mk_int, mk_bool, by first | exact hN | simpa using hN⟩
 ·refine wp_skip (then_n (sq (reg (lN 1 hf H TF.la76 fun a hf => ?_))))
  obtain ⟨y3, hy3, hF⟩ := bs_ hF
  refine oc hf TF.cl94 (impl_copyChange_ok (S := TT) (Change_mkv (x := c) (H.rt 4 rfl) (H.rt 3 rfl) (H.rt 2 rfl) (H.rt 1 rfl) (H.rt 0 rfl)) hy3) fun v3 w a hp3 hf => ?_
  obtain ⟨hb3, F, hp4, hN⟩ := hp3
  obtain ⟨A6, c8, F2, A7, c9, F3, A8, c10, F4, A9, c11, F5, A10, c12, F6, rfl, rfl, hl6, hl7, hl8, hl9, hl10⟩ := Change_vo hp4
  have H := H.addOwn hb3 (X := [(⟨F2, MP.own F2 [(.slice A6 y3.Plan.Network.Nodes.length c8)] (y3.Plan.Network.Nodes : List ByteArray)⟩ : DI), (⟨F3, MP.own F3 [(.slice A7 y3.Plan.Network.Fibers.length c9)] (y3.Plan.Network.Fibers : List Fiber)⟩ : DI), (⟨F4, MP.own F4 [(.slice A8 y3.Plan.Lights.length c10)] (y3.Plan.Lights : List Light)⟩ : DI), (⟨F5, MP.own F5 [(.slice A9 y3.Actions.length c11)] (Tl.mk (y3.Actions : List Action))⟩ : DI), (⟨F6, MP.own F6 [(.slice A10 y3.Undo.length c12)] (Tl.mk (y3.Undo : List Action))⟩ : DI)]) (by simpa using hN.1) (ps1 hl6 (ps1 hl7 (ps1 hl8 (ps1 hl9 (ps1 hl10 ps0))))) (by simpa using hN.2)
  have H := H.lend 0 rfl
  have H := H.lend 1 rfl
  have H := H.lend 2 rfl
  have H := H.lendTl 3 rfl
  have H := H.lendTl 4 rfl
  refine aL hf H TF.zv76 fun b3 a w hf H => ?_
  refine sB 0 hf H TF.sz76 fun w H => ?_
  refine we (sqz (pz 1 hf fun a hf => ?_))
  refine wl_end (then_n ?_)
  obtain ⟨out', hB1, hF⟩ := bs_ hF
  have hf := hf.pn [1, 4, 7, 8]
  have H := H.frontD 1 rfl
  have H := H.frontD 2 rfl
  have H := H.frontD 3 rfl
  have H := H.frontD 4 rfl
  have H := H.lt_ [true, true, false] [] [true, true, true, true, true] [0, 1, 2, 3, 4]
  refine loopC (fun (s : Int × List ByteArray × List Fiber × List Light × List Action × List Action × Bool) (a : Act) (w : World) => match s with | (i, m, m2, m3, m4, m5, m6) => ∃ (A11 : Option Addr) (c13 : Nat) (F7 : List Nat) (A12 : Option Addr) (c14 : Nat) (F8 : List Nat) (A13 : Option Addr) (c15 : Nat) (F9 : List Nat) (A14 : Option Addr) (c16 : Nat) (F10 : List Nat) (A15 : Option Addr) (c17 : Nat) (F11 : List Nat), Fr a 35 [(1, (.int .i64 steps)), (4, (.pointer (some ⟨b2, 0, none⟩))), (7, (.pointer (some ⟨b3, 0, none⟩))), (8, (.int .i64 i))] ∧ Mem ⟨w0, []⟩ S [⟨b3, 76, [(.slice A11 m.length c13), (.slice A12 m2.length c14), (.slice A13 m3.length c15), (.slice A14 m4.length c16), (.slice A15 m5.length c17), (.bool m6)]⟩, ⟨b2, 76, [(.slice none 0 0), (.slice none 0 0), (.slice none 0 0), (.slice none 0 0), (.slice none 0 0), (.bool false)]⟩] [] [⟨F11, MP.own F11 [(.slice A15 m5.length c17)] (Tl.mk (m5 : List Action))⟩, ⟨F10, MP.own F10 [(.slice A14 m4.length c16)] (Tl.mk (m4 : List Action))⟩, ⟨F9, MP.own F9 [(.slice A13 m3.length c15)] (m3 : List Light)⟩, ⟨F8, MP.own F8 [(.slice A12 m2.length c14)] (m2 : List Fiber)⟩, ⟨F7, MP.own F7 [(.slice A11 m.length c13)] (m : List ByteArray)⟩] [(true, MP.val [(.slice A15 m5.length c17)] (m5 : List Action)), (true, MP.val [(.slice A14 m4.length c16)] (m4 : List Action)), (true, MP.val [(.slice A13 m3.length c15)] (m3 : List Light)), (true, MP.val [(.slice A12 m2.length c14)] (m2 : List Fiber)), (true, MP.val [(.slice A11 m.length c13)] (m : List ByteArray))] w) (fun k (s : Int × List ByteArray × List Fiber × List Light × List Action × List Action × Bool) => impl_RunChange_L1 fu steps k s.1 s.2.1 s.2.2.1 s.2.2.2.1 s.2.2.2.2.1 s.2.2.2.2.2.1 s.2.2.2.2.2.2 = some out') (fun s => out' = s) (0, y3.Plan.Network.Nodes, y3.Plan.Network.Fibers, y3.Plan.Lights, y3.Actions, y3.Undo, y3.Back) fu hB1 ⟨A6, c8, F2, A7, c9, F3, A8, c10, F4, A9, c11, F5, A10, c12, F6, hf, H⟩ (fun s h => by cases h) ?_ ?_
  ·rintro fk ⟨i, m, m2, m3, m4, m5, m6⟩ a w hR1 hI
   replace hR1 : impl_RunChange_L1 fu steps (fk + 1) i m m2 m3 m4 m5 m6 = some out' := hR1
   rw [impl_RunChange_L1] at hR1
   obtain ⟨A11, c13, F7, A12, c14, F8, A13, c15, F9, A14, c16, F10, A15, c17, F11, hf, H⟩ := hI
   refine sq (sq ?_)
   obtain ⟨c18, hGc18, hR1⟩ := bs_ hR1
   have fh2 := hf.prune [1, 4, 7, 8] rfl
   have Hm2 := H.lt_ [true, true] [] [true, true, true, true, true] [0, 1, 2, 3, 4]
   refine midF 27 (.bool c18) fh2 Hm2 ?_ fun a w hf H => ?_
   ·refine reg (pz 4 hf fun a hf => ?_)
    refine iteB hGc18 (fun hc3 hGc18 => ?_) fun hc3 hGc18 => ?_
    ·have hf := hf.lit 23 rfl hc3
     refine wlg hf rfl rfl rfl (op_q hf (rq_loadBN hf H TF.la76 0 rfl rfl rfl rfl) rfl (by decide) fun a hf => ?_)
     obtain ⟨y4, hy4, hGc18⟩ := bs_ hGc18
     refine wlg hf rfl rfl rfl (oC hf TF.cl89 (impl_stateOf_ok (S := TT) (Change_mkv (x := ({ Plan := ({ Network := ({ Nodes := m, Fibers := m2 } : Network), Lights := m3 } : Plan), Actions := m4, Undo := m5, Back := m6 } : Change)) (H.rt 4 rfl) (H.rt 3 rfl) (H.rt 2 rfl) (H.rt 1 rfl) (H.rt 0 rfl)) hy4) fun v4 w a hp5 hf => ?_)
     obtain ⟨hb4, hp5⟩ := hp5
     obtain rfl := VR_int hp5
     have H := H.keep hb4
     refine pz 2 hf fun a hf => ?_
     obtain rfl := oi hGc18
     have hf := hf.pn [27, 1, 4, 7, 8]
     have H := H.lt_ [true, true] [] [true, true, true, true, true] [0, 1, 2, 3, 4]
     exact wl_end ⟨hf, H⟩
    ·have hf := hf.lit 23 rfl hc3
     refine pz 4 hf fun a hf => ?_
     obtain rfl := oi hGc18
     have hf := hf.pn [27, 1, 4, 7, 8]
     have H := H.lt_ [true, true] [] [true, true, true, true, true] [0, 1, 2, 3, 4]
     exact wl_end ⟨hf, H⟩
   refine then_n (ib hR1 hf (fun hc4 hR1 => ?_) fun hc4 hR1 => ?_)
   ·refine wp_skip (then_n (sq (wp_block (reg (lN 0 hf H TF.la76 fun a hf => ?_)))))
    obtain ⟨y5, hy5, hR1⟩ := bs_ hR1
    refine oc hf TF.cl88 (impl_stepped_ok (S := TT) (Change_mkv (x := ({ Plan := ({ Network := ({ Nodes := m, Fibers := m2 } : Network), Lights := m3 } : Plan), Actions := m4, Undo := m5, Back := m6 } : Change)) (H.rt 4 rfl) (H.rt 3 rfl) (H.rt 2 rfl) (H.rt 1 rfl) (H.rt 0 rfl)) hy5) fun v5 w a hp6 hf => ?_
    obtain ⟨hb5, F12, hp7, hN2⟩ := hp6
    obtain ⟨A16, c19, F13, A17, c20, F14, A18, c21, F15, A19, c22, F16, A20, c23, F17, rfl, rfl, hl11, hl12, hl13, hl14, hl15⟩ := Change_vo hp7
    have H := H.addOwn hb5 (X := [(⟨F13, MP.own F13 [(.slice A16 y5.Plan.Network.Nodes.length c19)] (y5.Plan.Network.Nodes : List ByteArray)⟩ : DI), (⟨F14, MP.own F14 [(.slice A17 y5.Plan.Network.Fibers.length c20)] (y5.Plan.Network.Fibers : List Fiber)⟩ : DI), (⟨F15, MP.own F15 [(.slice A18 y5.Plan.Lights.length c21)] (y5.Plan.Lights : List Light)⟩ : DI), (⟨F16, MP.own F16 [(.slice A19 y5.Actions.length c22)] (Tl.mk (y5.Actions : List Action))⟩ : DI), (⟨F17, MP.own F17 [(.slice A20 y5.Undo.length c23)] (Tl.mk (y5.Undo : List Action))⟩ : DI)]) (by simpa using hN2.1) (ps1 hl11 (ps1 hl12 (ps1 hl13 (ps1 hl14 (ps1 hl15 ps0))))) (by simpa using hN2.2)
    have H := H.lend 0 rfl
    have H := H.lend 1 rfl
    have H := H.lend 2 rfl
    have H := H.lendTl 3 rfl
    have H := H.lendTl 4 rfl
    refine sB 0 hf H TF.sz76 fun w H => ?_
    refine wl_end (blk_n (then_n (reg (pz 3 hf fun a hf => ?_))))
    refine wl_end ?_
    have hf := hf.pn [1, 4, 7, 8]
    have H := H.frontD 1 rfl
    have H := H.frontD 2 rfl
    have H := H.frontD 3 rfl
    have H := H.frontD 4 rfl
    have H := H.lt_ [true, true] [] [true, true, true, true, true, false, false, false, false, false] [0, 1, 2, 3, 4]
    exact then_n ⟨(w64 (i + 1), y5.Plan.Network.Nodes, y5.Plan.Network.Fibers, y5.Plan.Lights, y5.Actions, y5.Undo, y5.Back), hR1, A16, c19, F13, A17, c20, F14, A18, c21, F15, A19, c22, F16, A20, c23, F17, hf, H⟩
   ·refine wp_exit (then_x (then_x (blk_e (?_))))
    have hf := hf.pn [1, 4, 7, 8]
    have H := H.lt_ [true, true] [] [true, true, true, true, true] [0, 1, 2, 3, 4]
    exact ⟨(i, m, m2, m3, m4, m5, m6), (Option.some.inj hR1).symm, A11, c13, F7, A12, c14, F8, A13, c15, F9, A14, c16, F10, A15, c17, F11, hf, H⟩
  rintro a w ⟨⟨i2, m7, m8, m9, m10, m11, m12⟩, rfl, A21, c24, F18, A22, c25, F19, A23, c26, F20, A24, c27, F21, A25, c28, F22, hf, H⟩
  try dsimp only at hF
  refine then_n (sq (dw [3] 6 fun w hb => ?_))
  have H := H.keep hb
  refine strT (H.lt_ [true, false] [] [false, false, false, false, false] []) (fun w H => trivial) fun hS => ?_
  refine zS 0 [0, 3, 4, 5] rfl rfl rfl rfl hf hS (fun w H => rq_loadBN hf H TF.la76 0 rfl rfl rfl rfl) fun a hf => ?_
  refine zS 1 [1, 2, 3, 4, 5] rfl rfl rfl rfl hf hS (fun w H => rq_loadBN hf H TF.la76 0 rfl rfl rfl rfl) fun a hf => ?_
  obtain ⟨y6, hy6, hF⟩ := bs_ hF
  refine nn 2 rfl (oC hf TF.cl89 (impl_stateOf_ok (S := TT) (Change_mkv (x := ({ Plan := ({ Network := ({ Nodes := m7, Fibers := m8 } : Network), Lights := m9 } : Plan), Actions := m10, Undo := m11, Back := m12 } : Change)) (H.rt 4 rfl) (H.rt 3 rfl) (H.rt 2 rfl) (H.rt 1 rfl) (H.rt 0 rfl)) hy6) fun v6 w a hp8 hf => ?_)
  obtain ⟨hb6, hp8⟩ := hp8
  obtain rfl := VR_int hp8
  have H := H.keep hb6
  have hS := H.lt_ [true, false] [] [false, false, false, false, false] []
  refine aS hS ?_
  refine nn 3 rfl (op_storeB hf H 1 TF.sz76 rfl rfl rfl rfl rfl rfl (nle rfl) fun w H => ?_)
  refine ⟨fun h => absurd h (by decide), ?_⟩
  refine tp 4 rfl rfl hf (by kernel_rfl) (fun h => absurd h (by decide)) rfl fun a hf => ?_
  refine tp 5 rfl rfl hf (by kernel_rfl) (fun h => absurd h (by decide)) rfl fun a hf => ?_
  refine dk ?_
  refine then_n (wp_ret (?_))
  have H := H.frontD 1 rfl
  have H := H.frontD 2 rfl
  have H := H.frontD 3 rfl
  have H := H.frontD 4 rfl
  obtain rfl := oi hF
  refine ret_3 hf rfl (rv_cellN hf H 1 TF.la76 rfl rfl rfl) (rv_tmp hf rfl) (rv_tmp hf rfl) ?_
  have hN := H.ends (X := [(⟨F18, MP.own F18 [(.slice A21 m7.length c24)] (m7 : List ByteArray)⟩ : DI), (⟨F19, MP.own F19 [(.slice A22 m8.length c25)] (m8 : List Fiber)⟩ : DI), (⟨F20, MP.own F20 [(.slice A23 m9.length c26)] (m9 : List Light)⟩ : DI), (⟨F21, MP.own F21 [(.slice A24 m10.length c27)] (Tl.mk (m10 : List Action))⟩ : DI), (⟨F22, MP.own F22 [(.slice A25 m11.length c28)] (Tl.mk (m11 : List Action))⟩ : DI)])
  simp only [List.flatMap_cons, List.flatMap_nil, List.append_nil, List.append_assoc] at hN
  exact ⟨_, rfl, H.bel, (F18 ++ (F19 ++ (F20 ++ (F21 ++ F22)))), _, _, _, rfl, ⟨_, Change_ownmk (x := ({ Plan := ({ Network := ({ Nodes := m7, Fibers := m8 } : Network), Lights := m9 } : Plan), Actions := m10, Undo := m11, Back := m12 } : Change)) (H.ownAt 0 rfl) (H.ownAt 1 rfl) (H.ownAt 2 rfl) (H.ownAt 3 rfl) (H.ownAt 4 rfl), rfl⟩, mk_int, mk_bool, by first | exact hN | simpa using hN⟩
theorem laws_FnExactRunChange_ok {S : Nat → Prop} {v0_ : Value} {v1_ : Value} {aC : Change} {aSteps : Int} {r : Bool} (h0 : VR w0 S v0_ aC) (h1 : VR w0 S v1_ aSteps) (hF : laws_FnExactRunChange fu aC aSteps = some r) :
    Calls Tryz.prog 7 [v0_, v1_].toArray w0 fun e w' => ∃ v, e = .returned v ∧ (Below w0.heap.size w0 w' ∧ VR w' (St ⟨w0, []⟩ S [] [] [] true) v r) := by
 obtain ⟨A, c, A2, c2, A3, c3, A4, c4, A5, c5, rfl, hl, hl2, hl3, hl4, hl5⟩ := Change_open h0
 obtain rfl := VR_int h1
 have H := Mem.start ⟨w0, []⟩ S
 have H := H.pA hl
 have H := H.pA hl2
 have H := H.pA hl3
 have H := H.pA hl4
 have H := H.pA hl5
 refine en Tryz.func7 fun a hf => ?_
 rw [laws_FnExactRunChange] at hF
 refine bx hf H fun b' a w hf H => ?_
 refine pz 1 hf fun a hf => ?_
 refine wr (pz 1 hf fun a hf => ?_)
 refine wr (lN 0 hf H TF.la73 fun a hf => ?_)
 refine pz 1 hf fun a hf => ?_
 obtain ⟨y, hy, hF⟩ := bs_ hF
 refine oc hf TF.cl31 (laws_szChange_ok (S := TT) (Change_mkv (x := aC) (H.rt 4 rfl) (H.rt 3 rfl) (H.rt 2 rfl) (H.rt 1 rfl) (H.rt 0 rfl)) mk_int hy) fun v w a hp hf => ?_
 obtain ⟨hb, hp⟩ := hp
 obtain rfl := VR_int hp
 have H := H.keep hb
 refine pz 1 hf fun a hf => ?_
 refine we (sqz (pz 2 hf fun a hf => ?_))
 refine wl_end (then_n (ib hF hf (fun hc hF => ?_) fun hc hF => ?_))
 ·refine sqz (pz 1 hf fun a hf => ?_)
  refine wl_end (then_n (wp_ret (then_r (?_))))
  obtain rfl := oi hF
  refine rT hf ?_
  exact ⟨_, rfl, H.bel, mk_bool⟩
 ·refine wp_skip (then_n (sq (reg (lN 0 hf H TF.la73 fun a hf => ?_))))
  obtain ⟨y2, hy2, hF⟩ := bs_ hF
  refine oc hf TF.cl33 (laws_toChange_ok (S := TT) (Change_mkv (x := aC) (H.rt 4 rfl) (H.rt 3 rfl) (H.rt 2 rfl) (H.rt 1 rfl) (H.rt 0 rfl)) hy2) fun v2 w a hp2 hf => ?_
  obtain ⟨hb2, F, hp3, hN⟩ := hp2
  obtain ⟨A6, c6, F2, A7, c7, F3, A8, c8, F4, A9, c9, F5, A10, c10, F6, rfl, rfl, hl6, hl7, hl8, hl9, hl10⟩ := Change_vo hp3
  have H := H.addOwn hb2 (X := [(⟨F2, MP.own F2 [(.slice A6 y2.Plan.Network.Nodes.length c6)] (y2.Plan.Network.Nodes : List ByteArray)⟩ : DI), (⟨F3, MP.own F3 [(.slice A7 y2.Plan.Network.Fibers.length c7)] (y2.Plan.Network.Fibers : List Fiber)⟩ : DI), (⟨F4, MP.own F4 [(.slice A8 y2.Plan.Lights.length c8)] (y2.Plan.Lights : List Light)⟩ : DI), (⟨F5, MP.own F5 [(.slice A9 y2.Actions.length c9)] (Tl.mk (y2.Actions : List Action))⟩ : DI), (⟨F6, MP.own F6 [(.slice A10 y2.Undo.length c10)] (Tl.mk (y2.Undo : List Action))⟩ : DI)]) (by simpa using hN.1) (ps1 hl6 (ps1 hl7 (ps1 hl8 (ps1 hl9 (ps1 hl10 ps0))))) (by simpa using hN.2)
  have H := H.lend 0 rfl
  have H := H.lend 1 rfl
  have H := H.lend 2 rfl
  have H := H.lendTl 3 rfl
  have H := H.lendTl 4 rfl
  refine pz 1 hf fun a hf => ?_
  obtain ⟨y3, hy3, hF⟩ := bs_ hF
  refine oc hf TF.cl38 (spec_RunChange_ok (S := TT) (Change_mkv (x := y2) (H.rt 4 rfl) (H.rt 3 rfl) (H.rt 2 rfl) (H.rt 1 rfl) (H.rt 0 rfl)) mk_int hy3) fun v3 w a hp4 hf => ?_
  obtain ⟨hb3, v4, v5, v6, rfl, hp5, hp6, hp7⟩ := hp4
  obtain ⟨A11, c11, A12, c12, A13, c13, A14, c14, A15, c15, rfl, hl11, hl12, hl13, hl14, hl15⟩ := Change_open hp5
  obtain rfl := VR_int hp6
  obtain rfl := VR_bool hp7
  obtain ⟨F7, H⟩ := H.addRo hb3 (p := MP.and (MP.val [(.slice A11 y3.1.Plan.Network.Nodes.length c11)] (y3.1.Plan.Network.Nodes : List ByteArray)) (MP.and (MP.val [(.slice A12 y3.1.Plan.Network.Fibers.length c12)] (y3.1.Plan.Network.Fibers : List Fiber)) (MP.and (MP.val [(.slice A13 y3.1.Plan.Lights.length c13)] (y3.1.Plan.Lights : List Light)) (MP.and (MP.val [(.slice A14 y3.1.Actions.length c14)] (y3.1.Actions : List Action)) (MP.val [(.slice A15 y3.1.Undo.length c15)] (y3.1.Undo : List Action)))))) ⟨hl11, ⟨hl12, ⟨hl13, ⟨hl14, hl15⟩⟩⟩⟩
  have H := H.lendQ 0 (q := MP.val [(.slice A11 y3.1.Plan.Network.Nodes.length c11)] (y3.1.Plan.Network.Nodes : List ByteArray)) rfl fun _ _ h => h.1
  have H := H.lendQ 0 (q := MP.val [(.slice A12 y3.1.Plan.Network.Fibers.length c12)] (y3.1.Plan.Network.Fibers : List Fiber)) rfl fun _ _ h => h.2.1
  have H := H.lendQ 0 (q := MP.val [(.slice A13 y3.1.Plan.Lights.length c13)] (y3.1.Plan.Lights : List Light)) rfl fun _ _ h => h.2.2.1
  have H := H.lendQ 0 (q := MP.val [(.slice A14 y3.1.Actions.length c14)] (y3.1.Actions : List Action)) rfl fun _ _ h => h.2.2.2.1
  have H := H.lendQ 0 (q := MP.val [(.slice A15 y3.1.Undo.length c15)] (y3.1.Undo : List Action)) rfl fun _ _ h => h.2.2.2.2
  refine pz 4 hf fun a hf => ?_
  refine aL hf H TF.zv76 fun b2 a w hf H => ?_
  refine sB 0 hf H TF.sz76 fun w H => ?_
  refine pz 2 hf fun a hf => ?_
  have hf := hf.pn [1, 2, 6, 7, 8]
  refine wr (lN 1 hf H TF.la73 fun a hf => ?_)
  obtain ⟨y4, hy4, hF⟩ := bs_ hF
  refine oc hf TF.cl33 (laws_toChange_ok (S := TT) (Change_mkv (x := aC) (H.rt 14 rfl) (H.rt 13 rfl) (H.rt 12 rfl) (H.rt 11 rfl) (H.rt 10 rfl)) hy4) fun v7 w a hp8 hf => ?_
  obtain ⟨hb4, F8, hp9, hN2⟩ := hp8
  obtain ⟨A16, c16, F9, A17, c17, F10, A18, c18, F11, A19, c19, F12, A20, c20, F13, rfl, rfl, hl16, hl17, hl18, hl19, hl20⟩ := Change_vo hp9
  have H := H.addOwn hb4 (X := [(⟨F9, MP.own F9 [(.slice A16 y4.Plan.Network.Nodes.length c16)] (y4.Plan.Network.Nodes : List ByteArray)⟩ : DI), (⟨F10, MP.own F10 [(.slice A17 y4.Plan.Network.Fibers.length c17)] (y4.Plan.Network.Fibers : List Fiber)⟩ : DI), (⟨F11, MP.own F11 [(.slice A18 y4.Plan.Lights.length c18)] (y4.Plan.Lights : List Light)⟩ : DI), (⟨F12, MP.own F12 [(.slice A19 y4.Actions.length c19)] (Tl.mk (y4.Actions : List Action))⟩ : DI), (⟨F13, MP.own F13 [(.slice A20 y4.Undo.length c20)] (Tl.mk (y4.Undo : List Action))⟩ : DI)]) (by simpa using hN2.1) (ps1 hl16 (ps1 hl17 (ps1 hl18 (ps1 hl19 (ps1 hl20 ps0))))) (by simpa using hN2.2)
  have H := H.lend 0 rfl
  have H := H.lend 1 rfl
  have H := H.lend 2 rfl
  have H := H.lendTl 3 rfl
  have H := H.lendTl 4 rfl
  refine aL hf H TF.zv76 fun b3 a w hf H => ?_
  refine sB 0 hf H TF.sz76 fun w H => ?_
  refine wr (lN 0 hf H TF.la76 fun a hf => ?_)
  refine pz 1 hf fun a hf => ?_
  obtain ⟨y5, hy5, hF⟩ := bs_ hF
  refine oc hf TF.cl39 (impl_RunChange_ok (S := TT) (Change_mkv (x := y4) (H.rt 4 rfl) (H.rt 3 rfl) (H.rt 2 rfl) (H.rt 1 rfl) (H.rt 0 rfl)) mk_int hy5) fun v8 w a hp10 hf => ?_
  obtain ⟨hb5, F14, v9, v10, v11, rfl, hp11, hp12, hp13, hN3⟩ := hp10
  obtain ⟨A21, c21, F15, A22, c22, F16, A23, c23, F17, A24, c24, F18, A25, c25, F19, rfl, rfl, hl21, hl22, hl23, hl24, hl25⟩ := Change_vo hp11
  obtain rfl := VR_int hp12
  obtain rfl := VR_bool hp13
  have H := H.addOwn hb5 (X := [(⟨F15, MP.own F15 [(.slice A21 y5.1.Plan.Network.Nodes.length c21)] (y5.1.Plan.Network.Nodes : List ByteArray)⟩ : DI), (⟨F16, MP.own F16 [(.slice A22 y5.1.Plan.Network.Fibers.length c22)] (y5.1.Plan.Network.Fibers : List Fiber)⟩ : DI), (⟨F17, MP.own F17 [(.slice A23 y5.1.Plan.Lights.length c23)] (y5.1.Plan.Lights : List Light)⟩ : DI), (⟨F18, MP.own F18 [(.slice A24 y5.1.Actions.length c24)] (Tl.mk (y5.1.Actions : List Action))⟩ : DI), (⟨F19, MP.own F19 [(.slice A25 y5.1.Undo.length c25)] (Tl.mk (y5.1.Undo : List Action))⟩ : DI)]) (by simpa using hN3.1) (ps1 hl21 (ps1 hl22 (ps1 hl23 (ps1 hl24 (ps1 hl25 ps0))))) (by simpa using hN3.2)
  have H := H.lend 0 rfl
  have H := H.lend 1 rfl
  have H := H.lend 2 rfl
  have H := H.lendTl 3 rfl
  have H := H.lendTl 4 rfl
  refine pz 4 hf fun a hf => ?_
  refine aL hf H TF.zv76 fun b4 a w hf H => ?_
  refine sB 0 hf H TF.sz76 fun w H => ?_
  refine pz 2 hf fun a hf => ?_
  refine wl_end (then_n (sq (sq ?_)))
  obtain ⟨c26, hGc26, hF⟩ := bs_ hF
  have fh := hf.prune [1, 2, 6, 7, 8, 9, 10, 11, 12] rfl
  have Hm := H.lt_ [true, true, true, true] [] [true, true, true, true, true, true, true, true, true, true, true, false, false, false, false, false] [0, 1, 2, 3, 4, 5, 6, 7, 8, 9, 10, 11, 12, 13, 14, 20, 21, 22, 23, 24]
  refine midF 54 (.bool c26) fh Hm ?_ fun a w hf H => ?_
  ·refine reg (lN 0 hf H TF.la76 fun a hf => ?_)
   refine lN 2 hf H TF.la76 fun a hf => ?_
   obtain ⟨y6, hy6, hGc26⟩ := bs_ hGc26
   refine oc hf TF.cl35 (laws_eqChange_ok (S := TT) (Change_mkv (x := y5.1) (H.rt 4 rfl) (H.rt 3 rfl) (H.rt 2 rfl) (H.rt 1 rfl) (H.rt 0 rfl)) (Change_mkv (x := y3.1) (H.rt 14 rfl) (H.rt 13 rfl) (H.rt 12 rfl) (H.rt 11 rfl) (H.rt 10 rfl)) hy6) fun v12 w a hp14 hf => ?_
   obtain ⟨hb6, hp14⟩ := hp14
   obtain rfl := VR_bool hp14
   have H := H.keep hb6
   refine pz 2 hf fun a hf => ?_
   refine iteB hGc26 (fun hc2 hGc26 => ?_) fun hc2 hGc26 => ?_
   ·have hf := hf.lit 45 rfl hc2
    refine pz 9 hf fun a hf => ?_
    obtain rfl := oi hGc26
    have hf := hf.pn [54, 1, 2, 6, 7, 8, 9, 10, 11, 12]
    have H := H.lt_ [true, true, true, true] [] [true, true, true, true, true, true, true, true, true, true, true, false, false, false, false, false] [0, 1, 2, 3, 4, 5, 6, 7, 8, 9, 10, 11, 12, 13, 14, 20, 21, 22, 23, 24]
    exact wl_end ⟨hf, H⟩
   ·have hf := hf.lit 45 rfl hc2
    refine pz 5 hf fun a hf => ?_
    refine iteB hGc26 (fun hc3 hGc26 => ?_) fun hc3 hGc26 => ?_
    ·have hf := hf.lit 50 rfl hc3
     refine pz 4 hf fun a hf => ?_
     obtain rfl := oi hGc26
     have hf := hf.pn [54, 1, 2, 6, 7, 8, 9, 10, 11, 12]
     have H := H.lt_ [true, true, true, true] [] [true, true, true, true, true, true, true, true, true, true, true, false, false, false, false, false] [0, 1, 2, 3, 4, 5, 6, 7, 8, 9, 10, 11, 12, 13, 14, 20, 21, 22, 23, 24]
     exact wl_end ⟨hf, H⟩
    ·have hf := hf.lit 50 rfl hc3
     refine pz 4 hf fun a hf => ?_
     obtain rfl := oi hGc26
     have hf := hf.pn [54, 1, 2, 6, 7, 8, 9, 10, 11, 12]
     have H := H.lt_ [true, true, true, true] [] [true, true, true, true, true, true, true, true, true, true, true, false, false, false, false, false] [0, 1, 2, 3, 4, 5, 6, 7, 8, 9, 10, 11, 12, 13, 14, 20, 21, 22, 23, 24]
     exact wl_end ⟨hf, H⟩
  refine then_n (ib hF hf (fun hc4 hF => ?_) fun hc4 hF => ?_)
  ·refine sqz (pz 1 hf fun a hf => ?_)
   refine wl_end (then_n (wp_ret (then_r (?_))))
   obtain rfl := oi hF
   refine rT hf ?_
   exact ⟨_, rfl, H.bel, mk_bool⟩
  ·refine wp_skip (then_n (sq (sq (dw [] 5 fun w hb => ?_))))
   have H := H.keep hb
   refine strT (H.lt_ [false, true, false, false] [] [false, false, false, false, false, false, false, false, false, false, false] []) (fun w H => trivial) fun hS => ?_
   refine zS 0 [] rfl rfl rfl rfl hf hS (fun w H => rq_loadBN hf H TF.la76 0 rfl rfl rfl rfl) fun a hf => ?_
   refine strT (H.lt_ [false, true, false, true] [] [false, false, false, false, false, false, false, false, false, false, false] []) (fun w H => H.lt_ [true, false] [] [] []) fun hS => ?_
   refine zS 1 [] rfl rfl rfl rfl hf hS (fun w H => rq_loadBN hf H TF.la73 1 rfl rfl rfl rfl) fun a hf => ?_
   obtain ⟨y7, hy7, hF⟩ := bs_ hF
   refine nn 2 rfl (oC hf TF.cl33 (laws_toChange_ok (S := TT) (Change_mkv (x := aC) (H.rt 19 rfl) (H.rt 18 rfl) (H.rt 17 rfl) (H.rt 16 rfl) (H.rt 15 rfl)) hy7) fun v13 w a hp15 hf => ?_)
   obtain ⟨hb7, F20, hp16, hN4⟩ := hp15
   obtain ⟨A26, c27, F21, A27, c28, F22, A28, c29, F23, A29, c30, F24, A30, c31, F25, rfl, rfl, hl26, hl27, hl28, hl29, hl30⟩ := Change_vo hp16
   have H := H.addOwn hb7 (X := [(⟨F21, MP.own F21 [(.slice A26 y7.Plan.Network.Nodes.length c27)] (y7.Plan.Network.Nodes : List ByteArray)⟩ : DI), (⟨F22, MP.own F22 [(.slice A27 y7.Plan.Network.Fibers.length c28)] (y7.Plan.Network.Fibers : List Fiber)⟩ : DI), (⟨F23, MP.own F23 [(.slice A28 y7.Plan.Lights.length c29)] (y7.Plan.Lights : List Light)⟩ : DI), (⟨F24, MP.own F24 [(.slice A29 y7.Actions.length c30)] (Tl.mk (y7.Actions : List Action))⟩ : DI), (⟨F25, MP.own F25 [(.slice A30 y7.Undo.length c31)] (Tl.mk (y7.Undo : List Action))⟩ : DI)]) (by simpa using hN4.1) (ps1 hl26 (ps1 hl27 (ps1 hl28 (ps1 hl29 (ps1 hl30 ps0))))) (by simpa using hN4.2)
   have H := H.lend 0 rfl
   have H := H.lend 1 rfl
   have H := H.lend 2 rfl
   have H := H.lendTl 3 rfl
   have H := H.lendTl 4 rfl
   have hS := H.lt_ [false, true, false, true] [] [false, false, false, false, false, false, false, false, false, false, false, false, false, false, false, false] []
   refine aS hS ?_
   obtain ⟨y8, hy8, hF⟩ := bs_ hF
   refine nn 3 rfl (oC hf TF.cl35 (laws_eqChange_ok (S := TT) (Change_mkv (x := y4) (H.rt 14 rfl) (H.rt 13 rfl) (H.rt 12 rfl) (H.rt 11 rfl) (H.rt 10 rfl)) (Change_mkv (x := y7) (H.rt 4 rfl) (H.rt 3 rfl) (H.rt 2 rfl) (H.rt 1 rfl) (H.rt 0 rfl)) hy8) fun v14 w a hp17 hf => ?_)
   obtain ⟨hb8, hp17⟩ := hp17
   obtain rfl := VR_bool hp17
   have H := H.keep hb8
   have hS := H.lt_ [false, true, false, true] [] [false, false, false, false, false, false, false, false, false, false, false, false, false, false, false, false] []
   refine aS hS ?_
   refine zp 4 hf hS fun a hf => ?_
   refine dk ?_
   refine then_n (ib hF hf (fun hc5 hF => ?_) fun hc5 hF => ?_)
   ·refine sqz (pz 1 hf fun a hf => ?_)
    have hf := hf.pn [4]
    refine wl_end (then_n (wp_ret (then_r (?_))))
    obtain rfl := oi hF
    refine rT hf ?_
    exact ⟨_, rfl, H.bel, mk_bool⟩
   ·refine wp_skip (then_n (sqz (pz 1 hf fun a hf => ?_)))
    refine wr (lN 1 hf H TF.la76 fun a hf => ?_)
    refine pz 1 hf fun a hf => ?_
    have H := H.frontD 14 rfl
    have H := H.frontD 14 rfl
    have H := H.frontD 14 rfl
    have H := H.frontD 14 rfl
    have H := H.frontD 14 rfl
    have H := H.recast (X := [(⟨F9, MP.own F9 [(.slice A16 y4.Plan.Network.Nodes.length c16)] (y4.Plan.Network.Nodes : List ByteArray)⟩ : DI), (⟨F10, MP.own F10 [(.slice A17 y4.Plan.Network.Fibers.length c17)] (y4.Plan.Network.Fibers : List Fiber)⟩ : DI), (⟨F11, MP.own F11 [(.slice A18 y4.Plan.Lights.length c18)] (y4.Plan.Lights : List Light)⟩ : DI), (⟨F12, MP.own F12 [(.slice A19 y4.Actions.length c19)] (Tl.mk (y4.Actions : List Action))⟩ : DI), (⟨F13, MP.own F13 [(.slice A20 y4.Undo.length c20)] (Tl.mk (y4.Undo : List Action))⟩ : DI)]) (Y := [(⟨(F9 ++ (F10 ++ (F11 ++ (F12 ++ F13)))), MP.own (F9 ++ (F10 ++ (F11 ++ (F12 ++ F13)))) [(.slice A16 y4.Plan.Network.Nodes.length c16), (.slice A17 y4.Plan.Network.Fibers.length c17), (.slice A18 y4.Plan.Lights.length c18), (.slice A19 y4.Actions.length c19), (.slice A20 y4.Undo.length c20), (.bool y4.Back)] (y4 : Change)⟩ : DI)]) (List.Perm.of_eq (by simp)) fun _ => ps1 (Change_ownmk (x := y4) (H.ownAt 0 rfl) (H.ownAt 1 rfl) (H.ownAt 2 rfl) (H.ownAt 3 rfl) (H.ownAt 4 rfl)) ps0
    obtain ⟨y9, hy9, hF⟩ := bs_ hF
    refine oc hf TF.cl36 (laws_markChange_ok (S := TT) (F := (F9 ++ (F10 ++ (F11 ++ (F12 ++ F13))))) (cs := [(.slice A16 y4.Plan.Network.Nodes.length c16), (.slice A17 y4.Plan.Network.Fibers.length c17), (.slice A18 y4.Plan.Lights.length c18), (.slice A19 y4.Actions.length c19), (.slice A20 y4.Undo.length c20), (.bool y4.Back)]) (H.ownAt 0 rfl) H.diNd.1 mk_int hy9) fun v15 w a hp18 hf => ?_
    obtain ⟨hch, hv, F26, ho, hbk⟩ := hp18
    obtain rfl := VR_int hv
    have H := H.wrote rfl hch ho hbk
    obtain ⟨F27, F28, F29, F30, F31, hFe, hl31, hl32, hl33, hl34, hl35⟩ := Change_ownc (H.ownAt 0 rfl)
    have H := H.recast (X := [(⟨F26, MP.own F26 [(.slice A16 y4.Plan.Network.Nodes.length c16), (.slice A17 y4.Plan.Network.Fibers.length c17), (.slice A18 y4.Plan.Lights.length c18), (.slice A19 y4.Actions.length c19), (.slice A20 y4.Undo.length c20), (.bool y4.Back)] (y9.2 : Change)⟩ : DI)]) (Y := [(⟨F27, MP.own F27 [(.slice A16 y4.Plan.Network.Nodes.length c16)] (y9.2.Plan.Network.Nodes : List ByteArray)⟩ : DI), (⟨F28, MP.own F28 [(.slice A17 y4.Plan.Network.Fibers.length c17)] (y9.2.Plan.Network.Fibers : List Fiber)⟩ : DI), (⟨F29, MP.own F29 [(.slice A18 y4.Plan.Lights.length c18)] (y9.2.Plan.Lights : List Light)⟩ : DI), (⟨F30, MP.own F30 [(.slice A19 y4.Actions.length c19)] (Tl.mk (y9.2.Actions : List Action))⟩ : DI), (⟨F31, MP.own F31 [(.slice A20 y4.Undo.length c20)] (Tl.mk (y9.2.Undo : List Action))⟩ : DI)]) (List.Perm.of_eq (by simp [hFe])) fun _ => (ps1 hl31 (ps1 hl32 (ps1 hl33 (ps1 hl34 (ps1 hl35 ps0)))))
    have H := H.pA hl
    have H := H.pA hl2
    have H := H.pA hl3
    have H := H.pA hl4
    have H := H.pA hl5
    have H := H.lend 0 rfl
    have H := H.lend 1 rfl
    have H := H.lend 2 rfl
    have H := H.lendTl 3 rfl
    have H := H.lendTl 4 rfl
    have H := H.lend 5 rfl
    have H := H.lend 6 rfl
    have H := H.lend 7 rfl
    have H := H.lendTl 8 rfl
    have H := H.lendTl 9 rfl
    have H := H.lend 10 rfl
    have H := H.lend 11 rfl
    have H := H.lend 12 rfl
    have H := H.lendTl 13 rfl
    have H := H.lendTl 14 rfl
    have H := H.lendQ 15 (q := MP.val [(.slice A11 y3.1.Plan.Network.Nodes.length c11)] (y3.1.Plan.Network.Nodes : List ByteArray)) rfl fun _ _ h => h.1
    have H := H.lendQ 15 (q := MP.val [(.slice A12 y3.1.Plan.Network.Fibers.length c12)] (y3.1.Plan.Network.Fibers : List Fiber)) rfl fun _ _ h => h.2.1
    have H := H.lendQ 15 (q := MP.val [(.slice A13 y3.1.Plan.Lights.length c13)] (y3.1.Plan.Lights : List Light)) rfl fun _ _ h => h.2.2.1
    have H := H.lendQ 15 (q := MP.val [(.slice A14 y3.1.Actions.length c14)] (y3.1.Actions : List Action)) rfl fun _ _ h => h.2.2.2.1
    have H := H.lendQ 15 (q := MP.val [(.slice A15 y3.1.Undo.length c15)] (y3.1.Undo : List Action)) rfl fun _ _ h => h.2.2.2.2
    refine pz 1 hf fun a hf => ?_
    refine wl_end (then_n (sq (sq ?_)))
    obtain ⟨c32, hGc32, hF⟩ := bs_ hF
    have fh2 := hf.prune [1, 2, 6, 7, 8, 10] rfl
    have Hm2 := H.lt_ [true, false, true, true] [] [false, false, false, false, false, false, false, false, false, false, true, true, true, true, true, true] [0, 1, 2, 3, 4, 5, 6, 7, 8, 9, 20, 21, 22, 23, 24]
    refine midF 80 (.bool c32) fh2 Hm2 ?_ fun a w hf H => ?_
    ·refine reg (pz 3 hf fun a hf => ?_)
     refine iteB hGc32 (fun hc6 hGc32 => ?_) fun hc6 hGc32 => ?_
     ·have hf := hf.lit 65 rfl hc6
      refine pz 15 hf fun a hf => ?_
      obtain rfl := oi hGc32
      have hf := hf.pn [80, 1, 2, 6, 7, 8, 10]
      have H := H.lt_ [true, false, true, true] [] [false, false, false, false, false, false, false, false, false, false, true, true, true, true, true, true] [0, 1, 2, 3, 4, 5, 6, 7, 8, 9, 20, 21, 22, 23, 24]
      exact wl_end ⟨hf, H⟩
     ·have hf := hf.lit 65 rfl hc6
      refine wlg hf rfl rfl rfl (op_q hf (rq_loadBN hf H TF.la76 0 rfl rfl rfl rfl) rfl (by decide) fun a hf => ?_)
      refine wlg hf rfl rfl rfl (op_q hf (rq_loadBN hf H TF.la76 2 rfl rfl rfl rfl) rfl (by decide) fun a hf => ?_)
      obtain ⟨y10, hy10, hGc32⟩ := bs_ hGc32
      refine wlg hf rfl rfl rfl (oC hf TF.cl35 (laws_eqChange_ok (S := TT) (Change_mkv (x := y5.1) (H.rt 9 rfl) (H.rt 8 rfl) (H.rt 7 rfl) (H.rt 6 rfl) (H.rt 5 rfl)) (Change_mkv (x := y3.1) (H.rt 4 rfl) (H.rt 3 rfl) (H.rt 2 rfl) (H.rt 1 rfl) (H.rt 0 rfl)) hy10) fun v16 w a hp19 hf => ?_)
      obtain ⟨hb9, hp19⟩ := hp19
      obtain rfl := VR_bool hp19
      have H := H.keep hb9
      refine pz 3 hf fun a hf => ?_
      refine iteB hGc32 (fun hc7 hGc32 => ?_) fun hc7 hGc32 => ?_
      ·have hf := hf.lit 71 rfl hc7
       refine pz 9 hf fun a hf => ?_
       obtain rfl := oi hGc32
       have hf := hf.pn [80, 1, 2, 6, 7, 8, 10]
       have H := H.lt_ [true, false, true, true] [] [false, false, false, false, false, false, false, false, false, false, true, true, true, true, true, true] [0, 1, 2, 3, 4, 5, 6, 7, 8, 9, 20, 21, 22, 23, 24]
       exact wl_end ⟨hf, H⟩
      ·have hf := hf.lit 71 rfl hc7
       refine pz 5 hf fun a hf => ?_
       refine iteB hGc32 (fun hc8 hGc32 => ?_) fun hc8 hGc32 => ?_
       ·have hf := hf.lit 76 rfl hc8
        refine pz 4 hf fun a hf => ?_
        obtain rfl := oi hGc32
        have hf := hf.pn [80, 1, 2, 6, 7, 8, 10]
        have H := H.lt_ [true, false, true, true] [] [false, false, false, false, false, false, false, false, false, false, true, true, true, true, true, true] [0, 1, 2, 3, 4, 5, 6, 7, 8, 9, 20, 21, 22, 23, 24]
        exact wl_end ⟨hf, H⟩
       ·have hf := hf.lit 76 rfl hc8
        refine pz 4 hf fun a hf => ?_
        obtain rfl := oi hGc32
        have hf := hf.pn [80, 1, 2, 6, 7, 8, 10]
        have H := H.lt_ [true, false, true, true] [] [false, false, false, false, false, false, false, false, false, false, true, true, true, true, true, true] [0, 1, 2, 3, 4, 5, 6, 7, 8, 9, 20, 21, 22, 23, 24]
        exact wl_end ⟨hf, H⟩
    refine then_n (ib hF hf (fun hc9 hF => ?_) fun hc9 hF => ?_)
    ·refine sqz (pz 1 hf fun a hf => ?_)
     refine wl_end (then_n (wp_ret (then_r (?_))))
     obtain rfl := oi hF
     refine rT hf ?_
     exact ⟨_, rfl, H.bel, mk_bool⟩
    ·refine wp_skip (then_n (sqz (pz 1 hf fun a hf => ?_)))
     refine wr (lN 0 hf H TF.la76 fun a hf => ?_)
     refine pz 1 hf fun a hf => ?_
     have H := H.frontD 4 rfl
     have H := H.frontD 4 rfl
     have H := H.frontD 4 rfl
     have H := H.frontD 4 rfl
     have H := H.frontD 4 rfl
     have H := H.recast (X := [(⟨F15, MP.own F15 [(.slice A21 y5.1.Plan.Network.Nodes.length c21)] (y5.1.Plan.Network.Nodes : List ByteArray)⟩ : DI), (⟨F16, MP.own F16 [(.slice A22 y5.1.Plan.Network.Fibers.length c22)] (y5.1.Plan.Network.Fibers : List Fiber)⟩ : DI), (⟨F17, MP.own F17 [(.slice A23 y5.1.Plan.Lights.length c23)] (y5.1.Plan.Lights : List Light)⟩ : DI), (⟨F18, MP.own F18 [(.slice A24 y5.1.Actions.length c24)] (Tl.mk (y5.1.Actions : List Action))⟩ : DI), (⟨F19, MP.own F19 [(.slice A25 y5.1.Undo.length c25)] (Tl.mk (y5.1.Undo : List Action))⟩ : DI)]) (Y := [(⟨(F15 ++ (F16 ++ (F17 ++ (F18 ++ F19)))), MP.own (F15 ++ (F16 ++ (F17 ++ (F18 ++ F19)))) [(.slice A21 y5.1.Plan.Network.Nodes.length c21), (.slice A22 y5.1.Plan.Network.Fibers.length c22), (.slice A23 y5.1.Plan.Lights.length c23), (.slice A24 y5.1.Actions.length c24), (.slice A25 y5.1.Undo.length c25), (.bool y5.1.Back)] (y5.1 : Change)⟩ : DI)]) (List.Perm.of_eq (by simp)) fun _ => ps1 (Change_ownmk (x := y5.1) (H.ownAt 0 rfl) (H.ownAt 1 rfl) (H.ownAt 2 rfl) (H.ownAt 3 rfl) (H.ownAt 4 rfl)) ps0
     obtain ⟨y11, hy11, hF⟩ := bs_ hF
     refine oc hf TF.cl36 (laws_markChange_ok (S := TT) (F := (F15 ++ (F16 ++ (F17 ++ (F18 ++ F19))))) (cs := [(.slice A21 y5.1.Plan.Network.Nodes.length c21), (.slice A22 y5.1.Plan.Network.Fibers.length c22), (.slice A23 y5.1.Plan.Lights.length c23), (.slice A24 y5.1.Actions.length c24), (.slice A25 y5.1.Undo.length c25), (.bool y5.1.Back)]) (H.ownAt 0 rfl) H.diNd.1 mk_int hy11) fun v17 w a hp20 hf => ?_
     obtain ⟨hch2, hv2, F32, ho2, hbk2⟩ := hp20
     obtain rfl := VR_int hv2
     have H := H.wrote rfl hch2 ho2 hbk2
     obtain ⟨F33, F34, F35, F36, F37, hFe2, hl36, hl37, hl38, hl39, hl40⟩ := Change_ownc (H.ownAt 0 rfl)
     have H := H.recast (X := [(⟨F32, MP.own F32 [(.slice A21 y5.1.Plan.Network.Nodes.length c21), (.slice A22 y5.1.Plan.Network.Fibers.length c22), (.slice A23 y5.1.Plan.Lights.length c23), (.slice A24 y5.1.Actions.length c24), (.slice A25 y5.1.Undo.length c25), (.bool y5.1.Back)] (y11.2 : Change)⟩ : DI)]) (Y := [(⟨F33, MP.own F33 [(.slice A21 y5.1.Plan.Network.Nodes.length c21)] (y11.2.Plan.Network.Nodes : List ByteArray)⟩ : DI), (⟨F34, MP.own F34 [(.slice A22 y5.1.Plan.Network.Fibers.length c22)] (y11.2.Plan.Network.Fibers : List Fiber)⟩ : DI), (⟨F35, MP.own F35 [(.slice A23 y5.1.Plan.Lights.length c23)] (y11.2.Plan.Lights : List Light)⟩ : DI), (⟨F36, MP.own F36 [(.slice A24 y5.1.Actions.length c24)] (Tl.mk (y11.2.Actions : List Action))⟩ : DI), (⟨F37, MP.own F37 [(.slice A25 y5.1.Undo.length c25)] (Tl.mk (y11.2.Undo : List Action))⟩ : DI)]) (List.Perm.of_eq (by simp [hFe2])) fun _ => (ps1 hl36 (ps1 hl37 (ps1 hl38 (ps1 hl39 (ps1 hl40 ps0)))))
     have H := H.pA hl
     have H := H.pA hl2
     have H := H.pA hl3
     have H := H.pA hl4
     have H := H.pA hl5
     have H := H.lend 0 rfl
     have H := H.lend 1 rfl
     have H := H.lend 2 rfl
     have H := H.lendTl 3 rfl
     have H := H.lendTl 4 rfl
     have H := H.lendQ 5 (q := MP.val [(.slice A11 y3.1.Plan.Network.Nodes.length c11)] (y3.1.Plan.Network.Nodes : List ByteArray)) rfl fun _ _ h => h.1
     have H := H.lendQ 5 (q := MP.val [(.slice A12 y3.1.Plan.Network.Fibers.length c12)] (y3.1.Plan.Network.Fibers : List Fiber)) rfl fun _ _ h => h.2.1
     have H := H.lendQ 5 (q := MP.val [(.slice A13 y3.1.Plan.Lights.length c13)] (y3.1.Plan.Lights : List Light)) rfl fun _ _ h => h.2.2.1
     have H := H.lendQ 5 (q := MP.val [(.slice A14 y3.1.Actions.length c14)] (y3.1.Actions : List Action)) rfl fun _ _ h => h.2.2.2.1
     have H := H.lendQ 5 (q := MP.val [(.slice A15 y3.1.Undo.length c15)] (y3.1.Undo : List Action)) rfl fun _ _ h => h.2.2.2.2
     refine pz 1 hf fun a hf => ?_
     refine wr (pz 1 hf fun a hf => ?_)
     refine wr (lN 0 hf H TF.la76 fun a hf => ?_)
     refine pz 1 hf fun a hf => ?_
     obtain ⟨y12, hy12, hF⟩ := bs_ hF
     refine oc hf TF.cl37 (laws_heldChange_ok (S := TT) (Change_mkv (x := ({ Plan := y11.2.Plan, Actions := y11.2.Actions, Undo := y11.2.Undo, Back := y5.1.Back } : Change)) (H.rt 9 rfl) (H.rt 8 rfl) (H.rt 7 rfl) (H.rt 6 rfl) (H.rt 5 rfl)) mk_int hy12) fun v18 w a hp21 hf => ?_
     obtain ⟨hb10, hp21⟩ := hp21
     obtain rfl := VR_int hp21
     have H := H.keep hb10
     refine pz 1 hf fun a hf => ?_
     refine we (sqz (pz 2 hf fun a hf => ?_))
     refine wl_end (then_n (ib hF hf (fun hc10 hF => ?_) fun hc10 hF => ?_))
     ·refine sqz (pz 1 hf fun a hf => ?_)
      have hf := hf.pn [4]
      refine wl_end (then_n (wp_ret (then_r (?_))))
      obtain rfl := oi hF
      refine rT hf ?_
      exact ⟨_, rfl, H.bel, mk_bool⟩
     ·refine wp_skip (then_n (sq (sqz (pz 3 hf fun a hf => ?_))))
      refine wl_end (then_n (ib hF hf (fun hc11 hF => ?_) fun hc11 hF => ?_))
      ·refine sqz (pz 1 hf fun a hf => ?_)
       have hf := hf.pn [4]
       refine wl_end (then_n (wp_ret (then_r (?_))))
       obtain rfl := oi hF
       refine rT hf ?_
       exact ⟨_, rfl, H.bel, mk_bool⟩
      ·refine wp_skip (then_n (sq (reg (lN 2 hf H TF.la73 fun a hf => ?_))))
       obtain ⟨y13, hy13, hF⟩ := bs_ hF
       refine oc hf TF.cl33 (laws_toChange_ok (S := TT) (Change_mkv (x := aC) (H.rt 14 rfl) (H.rt 13 rfl) (H.rt 12 rfl) (H.rt 11 rfl) (H.rt 10 rfl)) hy13) fun v19 w a hp22 hf => ?_
       obtain ⟨hb11, F38, hp23, hN5⟩ := hp22
       obtain ⟨A31, c33, F39, A32, c34, F40, A33, c35, F41, A34, c36, F42, A35, c37, F43, rfl, rfl, hl41, hl42, hl43, hl44, hl45⟩ := Change_vo hp23
       have H := H.addOwn hb11 (X := [(⟨F39, MP.own F39 [(.slice A31 y13.Plan.Network.Nodes.length c33)] (y13.Plan.Network.Nodes : List ByteArray)⟩ : DI), (⟨F40, MP.own F40 [(.slice A32 y13.Plan.Network.Fibers.length c34)] (y13.Plan.Network.Fibers : List Fiber)⟩ : DI), (⟨F41, MP.own F41 [(.slice A33 y13.Plan.Lights.length c35)] (y13.Plan.Lights : List Light)⟩ : DI), (⟨F42, MP.own F42 [(.slice A34 y13.Actions.length c36)] (Tl.mk (y13.Actions : List Action))⟩ : DI), (⟨F43, MP.own F43 [(.slice A35 y13.Undo.length c37)] (Tl.mk (y13.Undo : List Action))⟩ : DI)]) (by simpa using hN5.1) (ps1 hl41 (ps1 hl42 (ps1 hl43 (ps1 hl44 (ps1 hl45 ps0))))) (by simpa using hN5.2)
       have H := H.lend 0 rfl
       have H := H.lend 1 rfl
       have H := H.lend 2 rfl
       have H := H.lendTl 3 rfl
       have H := H.lendTl 4 rfl
       refine pz 1 hf fun a hf => ?_
       obtain ⟨y14, hy14, hF⟩ := bs_ hF
       refine oc hf TF.cl39 (impl_RunChange_ok (S := TT) (Change_mkv (x := y13) (H.rt 4 rfl) (H.rt 3 rfl) (H.rt 2 rfl) (H.rt 1 rfl) (H.rt 0 rfl)) mk_int hy14) fun v20 w a hp24 hf => ?_
       obtain ⟨hb12, F44, v21, v22, v23, rfl, hp25, hp26, hp27, hN6⟩ := hp24
       obtain ⟨A36, c38, F45, A37, c39, F46, A38, c40, F47, A39, c41, F48, A40, c42, F49, rfl, rfl, hl46, hl47, hl48, hl49, hl50⟩ := Change_vo hp25
       obtain rfl := VR_int hp26
       obtain rfl := VR_bool hp27
       have H := H.addOwn hb12 (X := [(⟨F45, MP.own F45 [(.slice A36 y14.1.Plan.Network.Nodes.length c38)] (y14.1.Plan.Network.Nodes : List ByteArray)⟩ : DI), (⟨F46, MP.own F46 [(.slice A37 y14.1.Plan.Network.Fibers.length c39)] (y14.1.Plan.Network.Fibers : List Fiber)⟩ : DI), (⟨F47, MP.own F47 [(.slice A38 y14.1.Plan.Lights.length c40)] (y14.1.Plan.Lights : List Light)⟩ : DI), (⟨F48, MP.own F48 [(.slice A39 y14.1.Actions.length c41)] (Tl.mk (y14.1.Actions : List Action))⟩ : DI), (⟨F49, MP.own F49 [(.slice A40 y14.1.Undo.length c42)] (Tl.mk (y14.1.Undo : List Action))⟩ : DI)]) (by simpa using hN6.1) (ps1 hl46 (ps1 hl47 (ps1 hl48 (ps1 hl49 (ps1 hl50 ps0))))) (by simpa using hN6.2)
       have H := H.lend 0 rfl
       have H := H.lend 1 rfl
       have H := H.lend 2 rfl
       have H := H.lendTl 3 rfl
       have H := H.lendTl 4 rfl
       refine pz 4 hf fun a hf => ?_
       refine aL hf H TF.zv76 fun b5 a w hf H => ?_
       refine sB 0 hf H TF.sz76 fun w H => ?_
       refine pz 2 hf fun a hf => ?_
       have hf := hf.pn [6, 7, 8, 10, 14, 16, 17, 18]
       refine wl_end (then_n (sq (sq ?_)))
       obtain ⟨c43, hGc43, hF⟩ := bs_ hF
       have fh3 := hf.prune [10, 14] rfl
       have Hm3 := H.lt_ [false, true, false, false] [] [false, false, false, false, false, false, false, false, false, false, true, true, true, true, true, false] [15, 16, 17, 18, 19]
       refine midF 113 (.bool c43) fh3 Hm3 ?_ fun a w hf H => ?_
       ·refine reg (lN 0 hf H TF.la76 fun a hf => ?_)
        refine lN 2 hf H TF.la76 fun a hf => ?_
        obtain ⟨y15, hy15, hGc43⟩ := bs_ hGc43
        refine oc hf TF.cl35 (laws_eqChange_ok (S := TT) (Change_mkv (x := y14.1) (H.rt 4 rfl) (H.rt 3 rfl) (H.rt 2 rfl) (H.rt 1 rfl) (H.rt 0 rfl)) (Change_mkv (x := y3.1) (H.rt 14 rfl) (H.rt 13 rfl) (H.rt 12 rfl) (H.rt 11 rfl) (H.rt 10 rfl)) hy15) fun v24 w a hp28 hf => ?_
        obtain ⟨hb13, hp28⟩ := hp28
        obtain rfl := VR_bool hp28
        have H := H.keep hb13
        refine pz 2 hf fun a hf => ?_
        refine iteB hGc43 (fun hc12 hGc43 => ?_) fun hc12 hGc43 => ?_
        ·have hf := hf.lit 104 rfl hc12
         refine pz 9 hf fun a hf => ?_
         obtain rfl := oi hGc43
         have hf := hf.pn [113, 10, 14]
         have H := H.lt_ [false, true, false, false] [] [false, false, false, false, false, false, false, false, false, false, true, true, true, true, true, false] [15, 16, 17, 18, 19]
         exact wl_end ⟨hf, H⟩
        ·have hf := hf.lit 104 rfl hc12
         refine pz 5 hf fun a hf => ?_
         refine iteB hGc43 (fun hc13 hGc43 => ?_) fun hc13 hGc43 => ?_
         ·have hf := hf.lit 109 rfl hc13
          refine pz 4 hf fun a hf => ?_
          obtain rfl := oi hGc43
          have hf := hf.pn [113, 10, 14]
          have H := H.lt_ [false, true, false, false] [] [false, false, false, false, false, false, false, false, false, false, true, true, true, true, true, false] [15, 16, 17, 18, 19]
          exact wl_end ⟨hf, H⟩
         ·have hf := hf.lit 109 rfl hc13
          refine pz 4 hf fun a hf => ?_
          obtain rfl := oi hGc43
          have hf := hf.pn [113, 10, 14]
          have H := H.lt_ [false, true, false, false] [] [false, false, false, false, false, false, false, false, false, false, true, true, true, true, true, false] [15, 16, 17, 18, 19]
          exact wl_end ⟨hf, H⟩
       refine then_n (ib hF hf (fun hc14 hF => ?_) fun hc14 hF => ?_)
       ·refine sqz (pz 1 hf fun a hf => ?_)
        refine wl_end (then_n (wp_ret (then_r (?_))))
        obtain rfl := oi hF
        refine rT hf ?_
        exact ⟨_, rfl, H.bel, mk_bool⟩
       ·refine wp_skip (then_n (sqz (pz 1 hf fun a hf => ?_)))
        refine wr (lN 0 hf H TF.la76 fun a hf => ?_)
        refine pz 1 hf fun a hf => ?_
        obtain ⟨y16, hy16, hF⟩ := bs_ hF
        refine oc hf TF.cl37 (laws_heldChange_ok (S := TT) (Change_mkv (x := ({ Plan := y11.2.Plan, Actions := y11.2.Actions, Undo := y11.2.Undo, Back := y5.1.Back } : Change)) (H.rt 4 rfl) (H.rt 3 rfl) (H.rt 2 rfl) (H.rt 1 rfl) (H.rt 0 rfl)) mk_int hy16) fun v25 w a hp29 hf => ?_
        obtain ⟨hb14, hp29⟩ := hp29
        obtain rfl := VR_int hp29
        have H := H.keep hb14
        refine pz 1 hf fun a hf => ?_
        refine we (sqz (pz 2 hf fun a hf => ?_))
        refine wl_end (then_n (ib hF hf (fun hc15 hF => ?_) fun hc15 hF => ?_))
        ·refine sqz (pz 1 hf fun a hf => ?_)
         refine wl_end (then_n (wp_ret (then_r (?_))))
         obtain rfl := oi hF
         refine rT hf ?_
         exact ⟨_, rfl, H.bel, mk_bool⟩
        ·refine wp_skip (then_n (sq (sqz (pz 3 hf fun a hf => ?_))))
         refine wl_end (then_n (ib hF hf (fun hc16 hF => ?_) fun hc16 hF => ?_))
         ·refine sqz (pz 1 hf fun a hf => ?_)
          refine wl_end (then_n (wp_ret (then_r (?_))))
          obtain rfl := oi hF
          refine rT hf ?_
          exact ⟨_, rfl, H.bel, mk_bool⟩
         ·refine wp_skip (then_n (sqz (pz 1 hf fun a hf => ?_)))
          refine wer ?_
          obtain rfl := oi hF
          refine rT hf ?_
          exact ⟨_, rfl, H.bel, mk_bool⟩
end AT
