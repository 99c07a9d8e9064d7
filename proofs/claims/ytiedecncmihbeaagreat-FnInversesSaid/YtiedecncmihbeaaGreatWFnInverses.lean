/- The Go functions do what is told of them, by program (gen.py). -/
import Derived.Test.YtiedecncmihbeaaGreatWFnInverses2
set_option linter.unusedVariables false
set_option linter.unusedSimpArgs false
set_option maxRecDepth 100000
set_option maxHeartbeats 1000000
namespace AT
open Go Go.RowKit Go.Proofs
variable {fu : Nat} {w0 : World}
theorem laws_vRoutes_ok {S : Nat → Prop} {v0_ : Value} {v1_ : Value} {a' : Route} {b' : Route} {r : Bool} (h0 : VR w0 S v0_ a') (h1 : VR w0 S v1_ b') (hF : laws_vRoutes fu a' b' = some r) :
    Calls Tryz.prog 147 [v0_, v1_].toArray w0 fun e w' => ∃ v, e = .returned v ∧ (Below w0.heap.size w0 w' ∧ VR w' (St ⟨w0, []⟩ S [] [] [] true) v r) := by
 obtain ⟨A, c, rfl, hl⟩ := Route_open h0
 obtain ⟨A2, c2, rfl, hl2⟩ := Route_open h1
 have H := Mem.start ⟨w0, []⟩ S
 have H := H.pA hl
 have H := H.pA hl2
 refine en Tryz.func147 fun a hf => ?_
 rw [laws_vRoutes] at hF
 refine sq (reg (wl0 rfl (op_box hf H rfl rfl (by decide) fun b2 a w hf H => ?_)))
 refine wl0 rfl (op_box hf H rfl rfl (by decide) fun b3 a w hf H => ?_)
 refine pz 1 hf fun a hf => ?_
 refine wl_end (then_n (sq ?_))
 obtain ⟨c3, hGc3, hF⟩ := bs_ hF
 have fh := hf.prune [] rfl
 have Hm := H.lt_ [false, false] [] [] []
 refine midF 4 (.bool c3) fh Hm ?_ fun a w hf H => ?_
 ·refine reg (pz 1 hf fun a hf => ?_)
  refine oq hf (rq_loadB hf H TF.ls3 1 rfl rfl rfl) fun a hf => ?_
  refine pz 1 hf fun a hf => ?_
  refine oq hf (rq_loadB hf H TF.ls3 0 rfl rfl rfl) fun a hf => ?_
  refine pz 2 hf fun a hf => ?_
  refine iteB hGc3 (fun hc hGc3 => ?_) fun hc hGc3 => ?_
  ·have hf := hf.lit 10 rfl hc
   refine pz 1 hf fun a hf => ?_
   refine wlg hf rfl rfl rfl (op_q hf (rq_loadB hf H TF.ls29 1 rfl rfl rfl) rfl (by decide) fun a hf => ?_)
   refine pz 1 hf fun a hf => ?_
   refine wlg hf rfl rfl rfl (op_q hf (rq_loadB hf H TF.ls29 0 rfl rfl rfl) rfl (by decide) fun a hf => ?_)
   obtain ⟨y, hy, hGc3⟩ := bs_ hGc3
   refine wlg hf rfl rfl rfl (op_call hf TF.cl184 rfl (by decide) (laws_vInts_ok (S := TT) (mk_list (H.rt 1 rfl)) (mk_list (H.rt 0 rfl)) hy) fun v w a hp hf => ?_)
   obtain ⟨hb, hp⟩ := hp
   obtain rfl := VR_bool hp
   have H := H.keep hb
   refine pz 2 hf fun a hf => ?_
   obtain rfl := oi hGc3
   have hf := hf.pn [4]
   have H := H.lt_ [false, false] [] [] []
   exact wl_end ⟨hf, H⟩
  ·have hf := hf.lit 10 rfl hc
   refine pz 7 hf fun a hf => ?_
   obtain rfl := oi hGc3
   have hf := hf.pn [4]
   have H := H.lt_ [false, false] [] [] []
   exact wl_end ⟨hf, H⟩
 refine then_n (wp_ret (?_))
 obtain rfl := oi hF
 refine ret_1 hf rfl (rv_tmp hf rfl) ?_
 exact ⟨_, rfl, H.bel, mk_bool⟩
theorem laws_vLights_ok {S : Nat → Prop} {v0_ : Value} {v1_ : Value} {a' : Light} {b' : Light} {r : Bool} (h0 : VR w0 S v0_ a') (h1 : VR w0 S v1_ b') (hF : laws_vLights fu a' b' = some r) :
    Calls Tryz.prog 97 [v0_, v1_].toArray w0 fun e w' => ∃ v, e = .returned v ∧ (Below w0.heap.size w0 w' ∧ VR w' (St ⟨w0, []⟩ S [] [] [] true) v r) := by
 obtain ⟨A, c, rfl, hl⟩ := Light_open h0
 obtain ⟨A2, c2, rfl, hl2⟩ := Light_open h1
 have H := Mem.start ⟨w0, []⟩ S
 have H := H.pA hl
 have H := H.pA hl2
 refine en Tryz.func97 fun a hf => ?_
 rw [laws_vLights] at hF
 refine sq (reg (wl0 rfl (op_box hf H rfl rfl (by decide) fun b2 a w hf H => ?_)))
 refine wl0 rfl (op_box hf H rfl rfl (by decide) fun b3 a w hf H => ?_)
 refine pz 1 hf fun a hf => ?_
 refine wl_end (then_n (sq ?_))
 obtain ⟨c3, hGc3, hF⟩ := bs_ hF
 have fh := hf.prune [] rfl
 have Hm := H.lt_ [false, false] [] [] []
 refine midF 4 (.bool c3) fh Hm ?_ fun a w hf H => ?_
 ·refine reg (pz 1 hf fun a hf => ?_)
  refine oq hf (rq_loadB hf H TF.ls3 1 rfl rfl rfl) fun a hf => ?_
  refine pz 1 hf fun a hf => ?_
  refine oq hf (rq_loadB hf H TF.ls3 0 rfl rfl rfl) fun a hf => ?_
  refine pz 2 hf fun a hf => ?_
  refine iteB hGc3 (fun hc hGc3 => ?_) fun hc hGc3 => ?_
  ·have hf := hf.lit 10 rfl hc
   refine pz 1 hf fun a hf => ?_
   refine wlg hf rfl rfl rfl (op_q hf (rq_loadBN hf H TF.la50 1 rfl rfl rfl rfl) rfl (by decide) fun a hf => ?_)
   refine pz 1 hf fun a hf => ?_
   refine wlg hf rfl rfl rfl (op_q hf (rq_loadBN hf H TF.la50 0 rfl rfl rfl rfl) rfl (by decide) fun a hf => ?_)
   refine wlg hf rfl rfl rfl (op_q hf (rq_eqT hf TF.qeqt50 ([a'.Block.First, a'.Block.Count] : List Int) ([b'.Block.First, b'.Block.Count] : List Int) rfl rfl rfl rfl rfl rfl) rfl (by decide) fun a hf => ?_)
   refine pz 2 hf fun a hf => ?_
   refine iteB hGc3 (fun hc2 hGc3 => ?_) fun hc2 hGc3 => ?_
   ·have hf := hf.lit 17 rfl hc2
    refine pz 1 hf fun a hf => ?_
    refine wlg hf rfl rfl rfl (op_q hf (rq_loadBN hf H TF.la49 1 rfl rfl rfl rfl) rfl (by decide) fun a hf => ?_)
    refine pz 1 hf fun a hf => ?_
    refine wlg hf rfl rfl rfl (op_q hf (rq_loadBN hf H TF.la49 0 rfl rfl rfl rfl) rfl (by decide) fun a hf => ?_)
    obtain ⟨y, hy, hGc3⟩ := bs_ hGc3
    refine wlg hf rfl rfl rfl (op_call hf TF.cl147 rfl (by decide) (laws_vRoutes_ok (S := TT) (Route_mkv (x := a'.Route) (H.rt 1 rfl)) (Route_mkv (x := b'.Route) (H.rt 0 rfl)) hy) fun v w a hp hf => ?_)
    obtain ⟨hb, hp⟩ := hp
    obtain rfl := VR_bool hp
    have H := H.keep hb
    refine pz 2 hf fun a hf => ?_
    obtain rfl := oi hGc3
    have hf := hf.pn [4]
    have H := H.lt_ [false, false] [] [] []
    exact wl_end ⟨hf, H⟩
   ·have hf := hf.lit 17 rfl hc2
    refine pz 7 hf fun a hf => ?_
    obtain rfl := oi hGc3
    have hf := hf.pn [4]
    have H := H.lt_ [false, false] [] [] []
    exact wl_end ⟨hf, H⟩
  ·have hf := hf.lit 10 rfl hc
   refine pz 14 hf fun a hf => ?_
   obtain rfl := oi hGc3
   have hf := hf.pn [4]
   have H := H.lt_ [false, false] [] [] []
   exact wl_end ⟨hf, H⟩
 refine then_n (wp_ret (?_))
 obtain rfl := oi hF
 refine ret_1 hf rfl (rv_tmp hf rfl) ?_
 exact ⟨_, rfl, H.bel, mk_bool⟩
theorem laws_vPlans_ok {S : Nat → Prop} {v0_ : Value} {v1_ : Value} {a' : Plan} {b' : Plan} {r : Bool} (h0 : VR w0 S v0_ a') (h1 : VR w0 S v1_ b') (hF : laws_vPlans fu a' b' = some r) :
    Calls Tryz.prog 42 [v0_, v1_].toArray w0 fun e w' => ∃ v, e = .returned v ∧ (Below w0.heap.size w0 w' ∧ VR w' (St ⟨w0, []⟩ S [] [] [] true) v r) := by
 obtain ⟨A, c, A2, c2, A3, c3, rfl, hl, hl2, hl3⟩ := Plan_open h0
 obtain ⟨A4, c4, A5, c5, A6, c6, rfl, hl4, hl5, hl6⟩ := Plan_open h1
 have H := Mem.start ⟨w0, []⟩ S
 have H := H.pA hl
 have H := H.pA hl2
 have H := H.pA hl3
 have H := H.pA hl4
 have H := H.pA hl5
 have H := H.pA hl6
 refine en Tryz.func42 fun a hf => ?_
 rw [laws_vPlans] at hF
 refine sq (reg (wl0 rfl (op_box hf H rfl rfl (by decide) fun b2 a w hf H => ?_)))
 refine wl0 rfl (op_box hf H rfl rfl (by decide) fun b3 a w hf H => ?_)
 refine pz 1 hf fun a hf => ?_
 refine wl_end (then_n (sq (sq ?_)))
 obtain ⟨c7, hGc7, hF⟩ := bs_ hF
 have fh := hf.prune [2, 3] rfl
 have Hm := H.lt_ [true, true] [] [] [0, 1, 2, 3, 4, 5]
 refine midF 20 (.bool c7) fh Hm ?_ fun a w hf H => ?_
 ·refine reg (pz 1 hf fun a hf => ?_)
  refine oq hf (rq_loadBN hf H TF.la42 1 rfl rfl rfl rfl) fun a hf => ?_
  refine pz 1 hf fun a hf => ?_
  refine oq hf (rq_loadBN hf H TF.la42 0 rfl rfl rfl rfl) fun a hf => ?_
  obtain ⟨y, hy, hGc7⟩ := bs_ hGc7
  refine oc hf TF.cl96 (laws_vNetworks_ok (S := TT) (Network_mkv (x := a'.Network) (H.rt 5 rfl) (H.rt 4 rfl)) (Network_mkv (x := b'.Network) (H.rt 2 rfl) (H.rt 1 rfl)) hy) fun v w a hp hf => ?_
  obtain ⟨hb, hp⟩ := hp
  obtain rfl := VR_bool hp
  have H := H.keep hb
  refine pz 2 hf fun a hf => ?_
  refine iteB hGc7 (fun hc hGc7 => ?_) fun hc hGc7 => ?_
  ·have hf := hf.lit 12 rfl hc
   refine pz 8 hf fun a hf => ?_
   obtain rfl := oi hGc7
   have hf := hf.pn [20, 2, 3]
   have H := H.lt_ [true, true] [] [] [0, 1, 2, 3, 4, 5]
   exact wl_end ⟨hf, H⟩
  ·have hf := hf.lit 12 rfl hc
   refine pz 1 hf fun a hf => ?_
   refine wlg hf rfl rfl rfl (op_q hf (rq_loadB hf H TF.ls43 1 rfl rfl rfl) rfl (by decide) fun a hf => ?_)
   refine pz 2 hf fun a hf => ?_
   refine wlg hf rfl rfl rfl (op_q hf (rq_loadB hf H TF.ls43 0 rfl rfl rfl) rfl (by decide) fun a hf => ?_)
   refine pz 3 hf fun a hf => ?_
   obtain rfl := oi hGc7
   have hf := hf.pn [20, 2, 3]
   have H := H.lt_ [true, true] [] [] [0, 1, 2, 3, 4, 5]
   exact wl_end ⟨hf, H⟩
 refine then_n (ib hF hf (fun hc2 hF => ?_) fun hc2 hF => ?_)
 ·refine sqz (pz 1 hf fun a hf => ?_)
  refine wl_end (then_n (wp_ret (then_r (?_))))
  obtain rfl := oi hF
  refine ret_1 hf rfl (rv_tmp hf rfl) ?_
  exact ⟨_, rfl, H.bel, mk_bool⟩
 ·refine wp_skip (then_n (sq (sqz (pz 1 hf fun a hf => ?_))))
  refine wl_end (then_n ?_)
  obtain ⟨out', hB1, hF⟩ := bs_ hF
  have hf := hf.pn [2, 3, 5]
  have H := H.lt_ [true, true] [] [] [0, 1, 2, 3, 4, 5]
  refine loopC (fun (s : Int) (a : Act) (w : World) => match s with | i => Fr a 40 [(2, (.pointer (some ⟨b2, 0, none⟩))), (3, (.pointer (some ⟨b3, 0, none⟩))), (5, (.int .i64 i))] ∧ Mem ⟨w0, []⟩ S [⟨b3, 45, [(.slice A4 b'.Network.Nodes.length c4), (.slice A5 b'.Network.Fibers.length c5), (.slice A6 b'.Lights.length c6)]⟩, ⟨b2, 45, [(.slice A a'.Network.Nodes.length c), (.slice A2 a'.Network.Fibers.length c2), (.slice A3 a'.Lights.length c3)]⟩] [] [] [(false, MP.val [(.slice A6 b'.Lights.length c6)] (b'.Lights : List Light)), (false, MP.val [(.slice A5 b'.Network.Fibers.length c5)] (b'.Network.Fibers : List Fiber)), (false, MP.val [(.slice A4 b'.Network.Nodes.length c4)] (b'.Network.Nodes : List ByteArray)), (false, MP.val [(.slice A3 a'.Lights.length c3)] (a'.Lights : List Light)), (false, MP.val [(.slice A2 a'.Network.Fibers.length c2)] (a'.Network.Fibers : List Fiber)), (false, MP.val [(.slice A a'.Network.Nodes.length c)] (a'.Network.Nodes : List ByteArray))] w) (fun k (s : Int) => laws_vPlans_L1 fu a' b' k s = some out') (fun s => out' = Out.next s) 0 fu hB1 ⟨hf, H⟩ (fun s h => by cases h) ?_ ?_
  ·rintro fk i a w hR1 hI
   replace hR1 : laws_vPlans_L1 fu a' b' (fk + 1) i = some out' := hR1
   rw [laws_vPlans_L1] at hR1
   obtain ⟨hf, H⟩ := hI
   refine sq (sqz (pz 2 hf fun a hf => ?_))
   refine oq hf (rq_loadB hf H TF.ls43 1 rfl rfl rfl) fun a hf => ?_
   refine pz 2 hf fun a hf => ?_
   refine wl_end (then_n (ib hR1 hf (fun hc3 hR1 => ?_) fun hc3 hR1 => ?_))
   ·refine wp_skip (then_n (sq (wp_block (sq (drawn [] (bs := [false, false, false, false, false, false, false, false, false, false, false, false]) (fuel := 12) (Checked.mixed Tryz.checked) rfl rfl fun w hb => ?_)))))
    have H := H.keep hb
    refine zp 0 hf trivial fun a hf => ?_
    refine strT (H.lt_ [false, true] [] [] []) (fun w H => trivial) fun hS => ?_
    refine zS 1 [] rfl rfl rfl rfl hf hS (fun w H => rq_loadB hf H TF.ls43 0 rfl rfl rfl) fun a hf => ?_
    refine zp 2 hf hS fun a hf => ?_
    obtain ⟨e, he, hR1⟩ := bs_ hR1
    obtain ⟨p, o, cs, hx, hr, H⟩ := pre_iaddr H Tryz.underlying43 TF.sz52 3 rfl he
    refine zP 3 rfl rfl rfl rfl hf hS (fun w => rq_iaddrE hf rfl rfl rfl hx w) fun a hf => ?_
    obtain ⟨A7, c8, rfl, hl7⟩ := Light_cells hr
    have H := H.pF hl7
    refine strT (H.lt_ [false, true] [] [] [1]) (fun w H => H.lt_ [true] [] [] []) fun hS => ?_
    refine zS 4 [] rfl rfl rfl rfl hf hS (fun w H => rq_loadIN hf H TF.la52 0 0 rfl rfl rfl rfl) fun a hf => ?_
    refine zp 5 hf hS fun a hf => ?_
    refine strT (H.lt_ [true, true] [] [] [1]) (fun w H => H.lt_ [false, true] [] [] [0]) fun hS => ?_
    refine zS 6 [] rfl rfl rfl rfl hf hS (fun w H => rq_loadB hf H TF.ls43 0 rfl rfl rfl) fun a hf => ?_
    refine zp 7 hf hS fun a hf => ?_
    obtain ⟨e2, he2, hR1⟩ := bs_ hR1
    obtain ⟨p2, o2, cs2, hx2, hr2, H⟩ := pre_iaddr H Tryz.underlying43 TF.sz52 2 rfl he2
    refine zP 8 rfl rfl rfl rfl hf hS (fun w => rq_iaddrE hf rfl rfl rfl hx2 w) fun a hf => ?_
    obtain ⟨A8, c9, rfl, hl8⟩ := Light_cells hr2
    have H := H.pF hl8
    refine strT (H.lt_ [true, true] [] [] [1, 3]) (fun w H => H.lt_ [true, true] [] [] [1]) fun hS => ?_
    refine zS 9 [] rfl rfl rfl rfl hf hS (fun w H => rq_loadIN hf H TF.la52 0 0 rfl rfl rfl rfl) fun a hf => ?_
    obtain ⟨y2, hy2, hR1⟩ := bs_ hR1
    refine n1 10 (by kernel_rfl) rfl rfl (op_call hf TF.cl97 rfl (by decide) (laws_vLights_ok (S := TT) (Light_mkv (x := e) (H.rt 2 rfl)) (Light_mkv (x := e2) (H.rt 0 rfl)) hy2) fun v2 w a hp2 hf => ?_)
    obtain ⟨hb2, hp2⟩ := hp2
    obtain rfl := VR_bool hp2
    have H := H.keep hb2
    have hS := H.lt_ [true, true] [] [] [1, 3]
    refine ⟨fun _ => hS, ?_⟩
    refine zp 11 hf hS fun a hf => ?_
    refine dn (by kernel_rfl) ?_
    have hf := hf.pn [2, 3, 5, 39]
    refine then_n (ib hR1 hf (fun hc4 hR1 => ?_) fun hc4 hR1 => ?_)
    ·refine sqz (pz 1 hf fun a hf => ?_)
     refine wl_end (then_n (wp_ret (blk_r (then_r (then_r (blk_r (then_r (then_r (?_)))))))))
     obtain rfl := oi hR1
     replace hF := on_ret hF
     obtain rfl := oi hF
     refine ret_1 hf rfl (rv_tmp hf rfl) ?_
     exact ⟨_, rfl, H.bel, mk_bool⟩
    ·refine wp_skip (blk_n (then_n (reg (pz 3 hf fun a hf => ?_))))
     refine wl_end ?_
     have hf := hf.pn [2, 3, 5]
     have H := H.lt_ [true, true] [] [] [4, 5, 6, 7, 8, 9]
     exact then_n ⟨w64 (i + 1), hR1, hf, H⟩
   ·refine wp_exit (then_x (then_x (blk_e (?_))))
    have hf := hf.pn [2, 3, 5]
    have H := H.lt_ [true, true] [] [] [0, 1, 2, 3, 4, 5]
    exact ⟨i, (Option.some.inj hR1).symm, hf, H⟩
  rintro a w ⟨i2, rfl, hf, H⟩
  replace hF := on_next hF
  refine then_n (sqz (pz 1 hf fun a hf => ?_))
  refine wer ?_
  obtain rfl := oi hF
  refine ret_1 hf rfl (rv_tmp hf rfl) ?_
  exact ⟨_, rfl, H.bel, mk_bool⟩
theorem spec_l20Apply_mm {S : Nat → Prop} {v0_ : Value} {v1_ : Value} {p : Plan} {a' : Action} {r : Plan × Bool} (h0 : VR w0 S v0_ p) (h1 : VR w0 S v1_ a') (hF : spec_l20Apply fu p a' = some r) :
    Calls Tryz.prog 62 [v0_, v1_].toArray w0 fun e w' => ∃ v, e = .returned v ∧ (∃ (A0_0 : Option Addr) (c0_0 : Nat) (A0_1 : Option Addr) (c0_1 : Nat) (A0_2 : Option Addr) (c0_2 : Nat), v = .tuple #[(.agg #[(.slice A0_0 r.1.Network.Nodes.length c0_0), (.slice A0_1 r.1.Network.Fibers.length c0_1), (.slice A0_2 r.1.Lights.length c0_2)]), (.bool r.2)] ∧ Mem ⟨w0, []⟩ S [] [] [] [(true, MP.val [(.slice A0_0 r.1.Network.Nodes.length c0_0)] (r.1.Network.Nodes : List ByteArray)), (true, MP.val [(.slice A0_1 r.1.Network.Fibers.length c0_1)] (r.1.Network.Fibers : List Fiber)), (true, MP.val [(.slice A0_2 r.1.Lights.length c0_2)] (r.1.Lights : List Light))] w') := by
 obtain ⟨A, c, A2, c2, A3, c3, rfl, hl, hl2, hl3⟩ := Plan_open h0
 obtain ⟨A4, c4, rfl, hl4⟩ := Action_open h1
 have H := Mem.start ⟨w0, []⟩ S
 have H := H.pA hl
 have H := H.pA hl2
 have H := H.pA hl3
 have H := H.pA hl4
 refine en Tryz.func62 fun a hf => ?_
 rw [spec_l20Apply] at hF
 refine sq (reg (wl0 rfl (op_box hf H rfl rfl (by decide) fun b' a w hf H => ?_)))
 refine wl0 rfl (op_box hf H rfl rfl (by decide) fun b2 a w hf H => ?_)
 refine aL hf H TF.zv45 fun b3 a w hf H => ?_
 refine pz 1 hf fun a hf => ?_
 refine wr (oq hf (rq_loadBN hf H TF.la45 2 rfl rfl rfl rfl) fun a hf => ?_)
 refine pz 2 hf fun a hf => ?_
 refine oq hf (rq_loadB hf H TF.ls3 1 rfl rfl rfl) fun a hf => ?_
 obtain ⟨y, hy, hF⟩ := bs_ hF
 refine oc hf TF.cl101 (spec_l9Find_ok (S := TT) (Plan_mkv (x := p) (H.rt 3 rfl) (H.rt 2 rfl) (H.rt 1 rfl)) mk_int hy) fun v w a hp hf => ?_
 obtain ⟨hb, hp⟩ := hp
 obtain rfl := VR_int hp
 have H := H.keep hb
 refine pz 1 hf fun a hf => ?_
 refine wl_end (then_n (sq (sqz (pz 1 hf fun a hf => ?_))))
 refine oq hf (rq_loadB hf H TF.ls3 1 rfl rfl rfl) fun a hf => ?_
 refine wl_end (then_n (wp_block (sqz (pz 2 hf fun a hf => ?_))))
 refine wl_end (then_n (ib hF hf (fun hc hF => ?_) fun hc hF => ?_))
 ·refine sq (reg (oq hf (rq_loadBN hf H TF.la45 2 rfl rfl rfl rfl) fun a hf => ?_))
  refine pz 1 hf fun a hf => ?_
  refine oq hf (rq_loadBN hf H TF.la52 1 rfl rfl rfl rfl) fun a hf => ?_
  obtain ⟨y2, hy2, hF⟩ := bs_ hF
  refine oc hf TF.cl53 (spec_AddLight_ok (S := TT) (Plan_mkv (x := p) (H.rt 3 rfl) (H.rt 2 rfl) (H.rt 1 rfl)) (Light_mkv (x := a'.Light) (H.rt 0 rfl)) hy2) fun v2 w a hp2 hf => ?_
  obtain ⟨hb2, v3, v4, rfl, hp3, hp4⟩ := hp2
  obtain ⟨A5, c5, A6, c6, A7, c7, rfl, hl5, hl6, hl7⟩ := Plan_open hp3
  replace hl5 := H.rF hl5
  replace hl6 := H.rF hl6
  replace hl7 := H.rF hl7
  obtain rfl := VR_bool hp4
  have H := H.keep hb2
  have H := H.pT hl5
  have H := H.pT hl6
  have H := H.pT hl7
  refine pz 2 hf fun a hf => ?_
  refine sB 0 hf H TF.sz45 fun w H => ?_
  refine pz 1 hf fun a hf => ?_
  have hf := hf.pn [4, 5]
  refine wl_end (then_n (wp_ret (blk_r (then_r (?_)))))
  obtain rfl := oi hF
  refine ret_2 hf rfl (rv_cellN hf H 0 TF.la45 rfl rfl rfl) (rv_tmp hf rfl) ?_
  have H := H.lt_ [false, false, false] [] [] [2, 1, 0]
  exact ⟨_, rfl, A5, c5, A6, c6, A7, c7, rfl, H⟩
 ·refine sqz (pz 2 hf fun a hf => ?_)
  refine wl_end (then_n (ib hF hf (fun hc2 hF => ?_) fun hc2 hF => ?_))
  ·refine sq ?_
   obtain ⟨c8, hGc8, hF⟩ := bs_ hF
   have fh := hf.prune [2, 4, 6] rfl
   have Hm := H.lt_ [true, false, true] [] [] [1, 2, 3]
   refine midF 35 (.bool c8) fh Hm ?_ fun a w hf H => ?_
   ·refine drawn [] (bs := [false, false, false, false, false, false, false, false, false, false, false, false]) (fuel := 12) (Checked.mixed Tryz.checked) rfl rfl fun w hb => ?_
    have H := H.keep hb
    refine zp 0 hf trivial fun a hf => ?_
    refine zp 1 hf trivial fun a hf => ?_
    refine zp 2 hf trivial fun a hf => ?_
    refine iteB hGc8 (fun hc3 hGc8 => ?_) fun hc3 hGc8 => ?_
    ·have hf := hf.lit 26 rfl hc3
     refine zg 3 hf trivial fun a hf => ?_
     refine strT (H.lt_ [false, false, true] [] [] []) (fun w H => trivial) fun hS => ?_
     refine tSg 4 [] rfl rfl rfl rfl rfl rfl hf (by kernel_rfl) (by kernel_rfl) hS (fun w H => rq_loadB hf H TF.ls43 0 rfl rfl rfl) fun a hf => ?_
     refine zg 5 hf hS fun a hf => ?_
     obtain ⟨e, he, hGc8⟩ := bs_ hGc8
     obtain ⟨p2, o, cs, hx, hr, H⟩ := pre_iaddr H Tryz.underlying43 TF.sz52 1 rfl he
     refine tPg 6 rfl rfl rfl rfl rfl rfl hf (by kernel_rfl) (fun _ => hS) (fun w => rq_iaddrE hf rfl rfl rfl hx w) fun a hf => ?_
     obtain ⟨A8, c9, rfl, hl8⟩ := Light_cells hr
     have H := H.pF hl8
     refine strT (H.lt_ [false, false, true] [] [] [1]) (fun w H => H.lt_ [true] [] [] []) fun hS => ?_
     refine tSg 7 [] rfl rfl rfl rfl rfl rfl hf (by kernel_rfl) (by kernel_rfl) hS (fun w H => rq_loadIN hf H TF.la52 0 0 rfl rfl rfl rfl) fun a hf => ?_
     refine zg 8 hf hS fun a hf => ?_
     refine strT (H.lt_ [false, true, true] [] [] [1]) (fun w H => H.lt_ [false, true] [] [] [0]) fun hS => ?_
     refine tSg 9 [] rfl rfl rfl rfl rfl rfl hf (by kernel_rfl) (by kernel_rfl) hS (fun w H => rq_loadBN hf H TF.la52 0 rfl rfl rfl rfl) fun a hf => ?_
     obtain ⟨y3, hy3, hGc8⟩ := bs_ hGc8
     refine n1g 10 (by kernel_rfl) rfl rfl rfl rfl hf (op_call hf TF.cl119 rfl (by decide) (spec_l20Same_ok (S := TT) (Light_mkv (x := e) (H.rt 0 rfl)) (Light_mkv (x := a'.Light) (H.rt 2 rfl)) hy3) fun v5 w a hp5 hf => ?_)
     obtain ⟨hb3, hp5⟩ := hp5
     obtain rfl := VR_bool hp5
     have H := H.keep hb3
     have hS := H.lt_ [false, true, true] [] [] [1]
     refine ⟨fun _ => hS, ?_⟩
     refine zp 11 hf hS fun a hf => ?_
     refine dn (by kernel_rfl) ?_
     obtain rfl := oi hGc8
     have hf := hf.pn [35, 2, 4, 6]
     have H := H.lt_ [true, false, true] [] [] [3, 4, 5]
     exact ⟨hf, H⟩
    ·have hf := hf.lit 26 rfl hc3
     refine zU 3 hf trivial fun a hf => ?_
     refine zU 4 hf trivial fun a hf => ?_
     refine zU 5 hf trivial fun a hf => ?_
     refine zU 6 hf trivial fun a hf => ?_
     refine zU 7 hf trivial fun a hf => ?_
     refine zU 8 hf trivial fun a hf => ?_
     refine zU 9 hf trivial fun a hf => ?_
     refine zU 10 hf trivial fun a hf => ?_
     refine zp 11 hf trivial fun a hf => ?_
     refine dn (by kernel_rfl) ?_
     obtain rfl := oi hGc8
     have hf := hf.pn [35, 2, 4, 6]
     have H := H.lt_ [true, false, true] [] [] [1, 2, 3]
     exact ⟨hf, H⟩
   refine then_n (ib hF hf (fun hc4 hF => ?_) fun hc4 hF => ?_)
   ·refine sq (reg (oq hf (rq_loadBN hf H TF.la45 1 rfl rfl rfl rfl) fun a hf => ?_))
    refine pz 1 hf fun a hf => ?_
    obtain ⟨y4, hy4, hF⟩ := bs_ hF
    refine oc hf TF.cl120 (spec_l9Without_ok (S := TT) (Plan_mkv (x := p) (H.rt 2 rfl) (H.rt 1 rfl) (H.rt 0 rfl)) mk_int hy4) fun v6 w a hp6 hf => ?_
    obtain ⟨hb4, hp6⟩ := hp6
    obtain ⟨A9, c10, A10, c11, A11, c12, rfl, hl9, hl10, hl11⟩ := Plan_open hp6
    replace hl9 := H.rF hl9
    replace hl10 := H.rF hl10
    replace hl11 := H.rF hl11
    have H := H.keep hb4
    have H := H.pT hl9
    have H := H.pT hl10
    have H := H.pT hl11
    refine sB 0 hf H TF.sz45 fun w H => ?_
    refine pz 1 hf fun a hf => ?_
    refine wl_end (then_n (wp_ret (blk_r (then_r (?_)))))
    obtain rfl := oi hF
    refine ret_2 hf rfl (rv_cellN hf H 0 TF.la45 rfl rfl rfl) (rv_tmp hf rfl) ?_
    have H := H.lt_ [false, false] [] [] [2, 1, 0]
    exact ⟨_, rfl, A9, c10, A10, c11, A11, c12, rfl, H⟩
   ·refine wp_skip (blk_n (then_n (sq (reg (oq hf (rq_build hf (cs := [(.slice none 0 0), (.slice none 0 0), (.slice none 0 0)]) rfl (fun w => by kernel_rfl)) fun a hf => ?_)))))
    refine sB 0 hf H TF.sz45 fun w H => ?_
    refine pz 1 hf fun a hf => ?_
    refine wer ?_
    have H := H.pushNil (ByteArray) true
    have H := H.pushNil (Fiber) true
    have H := H.pushNil (Light) true
    obtain rfl := oi hF
    refine ret_2 hf rfl (rv_cellN hf H 0 TF.la45 rfl rfl rfl) (rv_tmp hf rfl) ?_
    have H := H.lt_ [false, false] [] [] [2, 1, 0]
    exact ⟨_, rfl, none, 0, none, 0, none, 0, rfl, H⟩
  ·refine sqz (pz 2 hf fun a hf => ?_)
   have hf := hf.pn [2, 3, 4, 39]
   refine wl_end (then_n (ib hF hf (fun hc5 hF => ?_) fun hc5 hF => ?_))
   ·refine sq (reg (oq hf (rq_loadBN hf H TF.la45 2 rfl rfl rfl rfl) fun a hf => ?_))
    refine pz 2 hf fun a hf => ?_
    refine oq hf (rq_loadB hf H TF.ls3 1 rfl rfl rfl) fun a hf => ?_
    refine pz 2 hf fun a hf => ?_
    refine oq hf (rq_loadBN hf H TF.la49 1 rfl rfl rfl rfl) fun a hf => ?_
    refine pz 2 hf fun a hf => ?_
    refine oq hf (rq_loadBN hf H TF.la50 1 rfl rfl rfl rfl) fun a hf => ?_
    obtain ⟨y5, hy5, hF⟩ := bs_ hF
    refine oc hf TF.cl121 (spec_MoveLight_ok (S := TT) (Plan_mkv (x := p) (H.rt 3 rfl) (H.rt 2 rfl) (H.rt 1 rfl)) mk_int (Route_mkv (x := a'.Light.Route) (H.rt 0 rfl)) Block_mkv hy5) fun v7 w a hp7 hf => ?_
    obtain ⟨hb5, v8, v9, rfl, hp8, hp9⟩ := hp7
    obtain ⟨A12, c13, A13, c14, A14, c15, rfl, hl12, hl13, hl14⟩ := Plan_open hp8
    replace hl12 := H.rF hl12
    replace hl13 := H.rF hl13
    replace hl14 := H.rF hl14
    obtain rfl := VR_bool hp9
    have H := H.keep hb5
    have H := H.pT hl12
    have H := H.pT hl13
    have H := H.pT hl14
    refine pz 2 hf fun a hf => ?_
    refine sB 0 hf H TF.sz45 fun w H => ?_
    refine pz 1 hf fun a hf => ?_
    have hf := hf.pn [4, 5]
    refine wl_end (then_n (wp_ret (blk_r (then_r (?_)))))
    obtain rfl := oi hF
    refine ret_2 hf rfl (rv_cellN hf H 0 TF.la45 rfl rfl rfl) (rv_tmp hf rfl) ?_
    have H := H.lt_ [false, false, false] [] [] [2, 1, 0]
    exact ⟨_, rfl, A12, c13, A13, c14, A14, c15, rfl, H⟩
   ·refine wp_skip (blk_n (then_n (sq (reg (oq hf (rq_build hf (cs := [(.slice none 0 0), (.slice none 0 0), (.slice none 0 0)]) rfl (fun w => by kernel_rfl)) fun a hf => ?_)))))
    refine sB 0 hf H TF.sz45 fun w H => ?_
    refine pz 1 hf fun a hf => ?_
    refine wer ?_
    have H := H.pushNil (ByteArray) true
    have H := H.pushNil (Fiber) true
    have H := H.pushNil (Light) true
    obtain rfl := oi hF
    refine ret_2 hf rfl (rv_cellN hf H 0 TF.la45 rfl rfl rfl) (rv_tmp hf rfl) ?_
    have H := H.lt_ [false, false, false] [] [] [2, 1, 0]
    exact ⟨_, rfl, none, 0, none, 0, none, 0, rfl, H⟩
theorem spec_l1Cur_actions_ok {S : Nat → Prop} {b0 : Nat} {cs0 : List Value} {v1_ : Value} {c : L1CurP} {p : Plan} {r : List Action × L1CurP} (hp0 : w0.heap[b0]? = some (.cells cs0.toArray 160 (0, 0))) (hr0 : GoTy.rep w0 S cs0 c) (hS0 : ¬ S b0) (h1 : VR w0 S v1_ p) (hF : spec_l1Cur_actions fu c p = some r) :
    Calls Tryz.prog 148 [(.pointer (some ⟨b0, 0, none⟩)), v1_].toArray w0 fun e w' => ∃ v, e = .returned v ∧ (Chg w0 w' [b0] ∧ ∃ cs', w'.heap[b0]? = some (.cells cs'.toArray 160 (0, 0)) ∧ GoTy.rep w' (St ⟨w0, [b0]⟩ S [⟨b0, 160, cs'⟩] [] [] false) cs' r.2 ∧ (cs'[0]? = cs0[0]? ∧ r.2.code = c.code) ∧ ∃ F0, VO w' F0 v r.1 ∧ New w0 w' F0) := by
 obtain ⟨A, c2, rfl, hl⟩ := L1CurP_cells hr0
 obtain ⟨A2, c3, A3, c4, A4, c5, rfl, hl2, hl3, hl4⟩ := Plan_open h1
 have H := Mem.startB S hp0
 have H := H.pB hS0 hl
 have H := H.pB hS0 hl2
 have H := H.pB hS0 hl3
 have H := H.pB hS0 hl4
 refine en Tryz.func148 fun a hf => ?_
 rw [spec_l1Cur_actions] at hF
 refine sq (reg (wl0 rfl (op_box hf H rfl rfl (by decide) fun b' a w hf H => ?_)))
 refine pz 1 hf fun a hf => ?_
 refine wr (wl0 rfl (op_bslice hf H (.ow []) rfl 54 ([] : List Action) [] rfl (fun w => by kernel_rfl) rfl (by decide) rfl rfl (fun i x h => by simp at h) (by decide) fun A5 a w hf H => ?_))
 refine pz 1 hf fun a hf => ?_
 refine wr (oq hf (rq_loadBN hf H TF.la45 0 rfl rfl rfl rfl) fun a hf => ?_)
 obtain ⟨y, hy, hF⟩ := bs_ hF
 refine oc hf TF.cl61 (spec_l9Good_ok (S := TT) (Plan_mkv (x := p) (H.rt 2 rfl) (H.rt 1 rfl) (H.rt 0 rfl)) hy) fun v w a hp hf => ?_
 obtain ⟨hb, hp⟩ := hp
 obtain rfl := VR_bool hp
 have H := H.keep hb
 refine pz 1 hf fun a hf => ?_
 refine wl_end (then_n (sq (sqz (pz 1 hf fun a hf => ?_))))
 obtain ⟨y2, hy2, hF⟩ := bs_ hF
 refine oc hf TF.cl178 (spec_l1Cur_pick_ok (S := NB b0) (H.boxAt 1 rfl) ((L1CurP_mk (x := c) (H.nb 1 rfl (H.get 3 rfl)))) (fun h => h rfl) mk_int hy2) fun v2 w a hp2 hf => ?_
 obtain ⟨hch, cs, hbx, hr, ⟨hx, hx2⟩, hs⟩ := hp2
 obtain rfl := VR_int hs
 obtain ⟨A6, c6, rfl, hl5⟩ := L1CurP_cells hr
 obtain ⟨rfl, rfl⟩ := fx_slice hx rfl rfl
 have H := H.wroteBox 1 rfl hch hbx
 have H := H.pX 3 rfl hx2
 refine pz 1 hf fun a hf => ?_
 refine wl_end (then_n ?_)
 obtain ⟨out', hB1, hF⟩ := bs_ hF
 have hf := hf.pn [0, 3, 5, 6, 7]
 have H := H.lt_ [true, true] [true] [] [0, 1, 2, 3]
 refine loopC (fun (s : List Action × Int × List ByteArray × List Fiber × List Light × List By × Int × U64) (a : Act) (w : World) => match s with | (l, n', m, m2, m3, m4, m5, m6) => ∃ (A7 : Option Addr) (c7 : Nat) (E : Go.TypeId) (Fs : List (List Nat)) (A8 : Option Addr) (c8 : Nat) (A9 : Option Addr) (c9 : Nat) (A10 : Option Addr) (c10 : Nat), m4 = c.code ∧ Fr a 66 [(0, (.pointer (some ⟨b0, 0, none⟩))), (3, (.pointer (some ⟨b', 0, none⟩))), (5, (.slice A7 l.length c7)), (6, (.bool y)), (7, (.int .i64 n'))] ∧ Mem ⟨w0, [b0]⟩ S [⟨b', 45, [(.slice A8 m.length c8), (.slice A9 m2.length c9), (.slice A10 m3.length c10)]⟩, ⟨b0, 160, [(.slice A m4.length c2), (.int .i64 m5), (.int .u64 m6.n)]⟩] [⟨.ow Fs, E, A7, c7, (l : List Action)⟩] [] [(false, MP.val [(.slice A m4.length c2)] (m4 : List By)), (false, MP.val [(.slice A10 m3.length c10)] (m3 : List Light)), (false, MP.val [(.slice A9 m2.length c9)] (m2 : List Fiber)), (false, MP.val [(.slice A8 m.length c8)] (m : List ByteArray))] w) (fun k (s : List Action × Int × List ByteArray × List Fiber × List Light × List By × Int × U64) => spec_l1Cur_actions_L1 fu y k s.1 s.2.1 s.2.2.1 s.2.2.2.1 s.2.2.2.2.1 s.2.2.2.2.2.1 s.2.2.2.2.2.2.1 s.2.2.2.2.2.2.2 = some out') (fun s => out' = s) (([] : List Action), y2.1, p.Network.Nodes, p.Network.Fibers, p.Lights, y2.2.code, y2.2.at_, y2.2.seed) fu hB1 ⟨A5, 0, 54, [], A2, c3, A3, c4, A4, c5, hx2, hf, H⟩ (fun s h => by cases h) ?_ ?_
 ·rintro fk ⟨l, n', m, m2, m3, m4, m5, m6⟩ a w hR1 hI
  replace hR1 : spec_l1Cur_actions_L1 fu y (fk + 1) l n' m m2 m3 m4 m5 m6 = some out' := hR1
  rw [spec_l1Cur_actions_L1] at hR1
  obtain ⟨A7, c7, E, Fs, A8, c8, A9, c9, A10, c10, hsm, hf, H⟩ := hI
  refine sq (sqz (pz 2 hf fun a hf => ?_))
  refine wl_end (then_n (ib hR1 hf (fun hc hR1 => ?_) fun hc hR1 => ?_))
  ·refine wp_skip (then_n (sq (wp_block (sqz (pz 1 hf fun a hf => ?_)))))
   refine oq hf (rq_loadBN hf H TF.la45 0 rfl rfl rfl rfl) fun a hf => ?_
   obtain ⟨y3, hy3, hR1⟩ := bs_ hR1
   refine oc hf TF.cl146 (spec_l1Cur_action_ok (S := NB b0) (H.boxAt 1 rfl) ((L1CurP_mk (x := ({ code := m4, at_ := m5, seed := m6 } : L1CurP)) (H.nb 1 rfl (H.get 0 rfl)))) (fun h => h rfl) (Plan_mkv (x := ({ Network := ({ Nodes := m, Fibers := m2 } : Network), Lights := m3 } : Plan)) (H.nb 1 rfl (H.get 3 rfl)) (H.nb 1 rfl (H.get 2 rfl)) (H.nb 1 rfl (H.get 1 rfl))) hy3) fun v3 w a hp3 hf => ?_
   obtain ⟨hch2, cs2, hbx2, hr2, ⟨hx3, hx4⟩, hs2⟩ := hp3
   obtain ⟨F, hp4, hN⟩ := hs2
   obtain ⟨A11, c11, F2, rfl, rfl, hl6⟩ := Action_vo hp4
   obtain ⟨A12, c12, rfl, hl7⟩ := L1CurP_cells hr2
   obtain ⟨rfl, rfl⟩ := fx_slice hx3 rfl rfl
   have hx5 := hx4.trans hsm
   have H := H.bO1 1 rfl hch2 hbx2 hN hl6
   have H := H.pX 0 rfl hx4
   have H := H.lend 0 rfl
   refine aL hf H TF.zv54 fun b2 a w hf H => ?_
   refine sB 0 hf H TF.sz54 fun w H => ?_
   refine wr (oq hf (rq_loadBN hf H TF.la45 1 rfl rfl rfl rfl) fun a hf => ?_)
   refine oq hf (rq_loadBN hf H TF.la54 0 rfl rfl rfl rfl) fun a hf => ?_
   obtain ⟨y4, hy4, hR1⟩ := bs_ hR1
   refine oc hf TF.cl62 (spec_l20Apply_mm (S := TT) (Plan_mkv (x := ({ Network := ({ Nodes := m, Fibers := m2 } : Network), Lights := m3 } : Plan)) (H.rt 5 rfl) (H.rt 4 rfl) (H.rt 3 rfl)) (Action_mkv (x := y3.1) (H.rt 0 rfl)) hy4) fun v4 w a hp5 hf => ?_
   obtain ⟨A13, c13, A14, c14, A15, c15, rfl, Hc⟩ := hp5
   have H := H.comp Hc (.inl rfl)
   refine pz 3 hf fun a hf => ?_
   refine aL hf H TF.zv45 fun b3 a w hf H => ?_
   refine sB 0 hf H TF.sz45 fun w H => ?_
   refine pz 1 hf fun a hf => ?_
   refine wl_end (then_n (sq ?_))
   obtain ⟨c16, hGc16, hR1⟩ := bs_ hR1
   have fh := hf.prune [0, 3, 5, 6, 7, 8, 9] rfl
   have Hm := H.lt_ [true, true, true, true] [true] [true] [0, 1, 2, 3, 4, 6, 7, 8]
   refine midF 32 (.bool c16) fh Hm ?_ fun a w hf H => ?_
   ·refine reg (pz 2 hf fun a hf => ?_)
    refine iteB hGc16 (fun hc2 hGc16 => ?_) fun hc2 hGc16 => ?_
    ·have hf := hf.lit 30 rfl hc2
     refine pz 2 hf fun a hf => ?_
     obtain rfl := oi hGc16
     have hf := hf.pn [32, 0, 3, 5, 6, 7, 8, 9]
     have H := H.lt_ [true, true, true, true] [true] [true] [0, 1, 2, 3, 4, 6, 7, 8]
     exact wl_end ⟨hf, H⟩
    ·have hf := hf.lit 30 rfl hc2
     refine pz 2 hf fun a hf => ?_
     obtain rfl := oi hGc16
     have hf := hf.pn [32, 0, 3, 5, 6, 7, 8, 9]
     have H := H.lt_ [true, true, true, true] [true] [true] [0, 1, 2, 3, 4, 6, 7, 8]
     exact wl_end ⟨hf, H⟩
   refine then_n (ib hR1 hf (fun hc3 hR1 => ?_) fun hc3 hR1 => ?_)
   ·refine sq (reg (oq hf (rq_loadBN hf H TF.la45 0 rfl rfl rfl rfl) fun a hf => ?_))
    refine sB 2 hf H TF.sz45 fun w H => ?_
    refine wl_end (then_n (reg (pz 1 hf fun a hf => ?_)))
    refine oq hf (rq_loadBN hf H TF.la54 1 rfl rfl rfl rfl) fun a hf => ?_
    have H := H.recast (X := [(⟨F2, MP.own F2 [(.slice A11 y3.1.Light.Route.Fibers.length c11)] (y3.1.Light.Route.Fibers : List Int)⟩ : DI)]) (Y := [(⟨F2, MP.own F2 [(.int .i64 y3.1.Kind), (.int .i64 y3.1.Light.Id), (.int .i64 y3.1.Light.Route.Start), (.slice A11 y3.1.Light.Route.Fibers.length c11), (.int .i64 y3.1.Light.Block.First), (.int .i64 y3.1.Light.Block.Count)] (y3.1 : Action)⟩ : DI)]) (List.Perm.of_eq (by simp)) fun _ => ps1 (Action_ownmk (x := y3.1) (H.ownAt 0 rfl)) ps0
    refine wl0 rfl (op_bsliceO hf 54 H rfl (fun w => by kernel_rfl) (by decide) fun A16 a w hf H => ?_)
    obtain ⟨l2, hl2, hR1⟩ := bs_ hR1
    have H := H.frontR 1 rfl
    refine wl0 rfl (op_appO hf H Tryz.underlying67 TF.ai54 rfl (by decide) rfl rfl hl2 (by decide) fun E2 A17 c17 a w hf H => ?_)
    refine pz 1 hf fun a hf => ?_
    refine wl_end (blk_n (then_n (reg (pz 3 hf fun a hf => ?_))))
    refine wl_end ?_
    have H := H.copyI 0 rfl (.inl rfl)
    have H := H.copyI 2 rfl (.inl rfl)
    have H := H.copyI 4 rfl (.inl rfl)
    have hf := hf.pn [0, 3, 5, 6, 7]
    have H := H.lt_ [false, false, true, true] [true] [] [7, 0, 1, 2]
    exact then_n ⟨(l2, w64 (n' - 1), y4.1.Network.Nodes, y4.1.Network.Fibers, y4.1.Lights, y3.2.code, y3.2.at_, y3.2.seed), hR1, A17, c17, E2, Fs ++ [F2], A13, c13, A14, c14, A15, c15, hx5, hf, H⟩
   ·refine sqz (pz 1 hf fun a hf => ?_)
    obtain ⟨y5, hy5, hR1⟩ := bs_ hR1
    refine oc hf TF.cl183 (spec_l1Cur_one_ok (S := NB b0) (H.boxAt 3 rfl) ((L1CurP_mk (x := y3.2) (H.nb 3 rfl (H.get 4 rfl)))) (fun h => h rfl) mk_int hy5) fun v5 w a hp6 hf => ?_
    obtain ⟨hch3, cs3, hbx3, hr3, ⟨hx6, hx7⟩, hs3⟩ := hp6
    obtain rfl := VR_bool hs3
    obtain ⟨A18, c18, rfl, hl8⟩ := L1CurP_cells hr3
    obtain ⟨rfl, rfl⟩ := fx_slice hx6 rfl rfl
    have hx8 := hx7.trans hx5
    have H := H.wroteBox 3 rfl hch3 hbx3
    have H := H.pX 4 rfl hx7
    refine wl_end (then_n (ib hR1 hf (fun hc4 hR1 => ?_) fun hc4 hR1 => ?_))
    ·refine reg (pz 1 hf fun a hf => ?_)
     refine oq hf (rq_loadBN hf H TF.la54 1 rfl rfl rfl rfl) fun a hf => ?_
     have H := H.recast (X := [(⟨F2, MP.own F2 [(.slice A11 y3.1.Light.Route.Fibers.length c11)] (y3.1.Light.Route.Fibers : List Int)⟩ : DI)]) (Y := [(⟨F2, MP.own F2 [(.int .i64 y3.1.Kind), (.int .i64 y3.1.Light.Id), (.int .i64 y3.1.Light.Route.Start), (.slice A11 y3.1.Light.Route.Fibers.length c11), (.int .i64 y3.1.Light.Block.First), (.int .i64 y3.1.Light.Block.Count)] (y3.1 : Action)⟩ : DI)]) (List.Perm.of_eq (by simp)) fun _ => ps1 (Action_ownmk (x := y3.1) (H.ownAt 0 rfl)) ps0
     refine wl0 rfl (op_bsliceO hf 54 H rfl (fun w => by kernel_rfl) (by decide) fun A19 a w hf H => ?_)
     obtain ⟨l3, hl3, hR1⟩ := bs_ hR1
     have H := H.frontR 1 rfl
     refine wl0 rfl (op_appO hf H Tryz.underlying67 TF.ai54 rfl (by decide) rfl rfl hl3 (by decide) fun E3 A20 c19 a w hf H => ?_)
     refine pz 1 hf fun a hf => ?_
     refine wl_end (blk_n (then_n (reg (pz 3 hf fun a hf => ?_))))
     refine wl_end ?_
     have hf := hf.pn [0, 3, 5, 6, 7]
     have H := H.lt_ [false, false, true, true] [true] [] [0, 6, 7, 8]
     exact then_n ⟨(l3, w64 (n' - 1), m, m2, m3, y5.2.code, y5.2.at_, y5.2.seed), hR1, A20, c19, E3, Fs ++ [F2], A8, c8, A9, c9, A10, c10, hx8, hf, H⟩
    ·refine wp_skip (blk_n (then_n (reg (pz 3 hf fun a hf => ?_))))
     refine wl_end ?_
     have hf := hf.pn [0, 3, 5, 6, 7]
     have H := H.lt_ [false, false, true, true] [true] [false] [0, 6, 7, 8]
     exact then_n ⟨(l, w64 (n' - 1), m, m2, m3, y5.2.code, y5.2.at_, y5.2.seed), hR1, A7, c7, E, Fs, A8, c8, A9, c9, A10, c10, hx8, hf, H⟩
  ·refine wp_exit (then_x (then_x (blk_e (?_))))
   have hf := hf.pn [0, 3, 5, 6, 7]
   have H := H.lt_ [true, true] [true] [] [0, 1, 2, 3]
   exact ⟨(l, n', m, m2, m3, m4, m5, m6), (Option.some.inj hR1).symm, A7, c7, E, Fs, A8, c8, A9, c9, A10, c10, hsm, hf, H⟩
 rintro a w ⟨⟨l4, n2, m7, m8, m9, m10, m11, m12⟩, rfl, A21, c20, E4, Fs2, A22, c21, A23, c22, A24, c23, hsm, hf, H⟩
 try dsimp only at hsm
 try dsimp only at hF
 refine then_n (sq (sqz (pz 1 hf fun a hf => ?_)))
 obtain ⟨y6, hy6, hF⟩ := bs_ hF
 refine oc hf TF.cl183 (spec_l1Cur_one_ok (S := NB b0) (H.boxAt 1 rfl) ((L1CurP_mk (x := ({ code := m10, at_ := m11, seed := m12 } : L1CurP)) (H.nb 1 rfl (H.get 0 rfl)))) (fun h => h rfl) mk_int hy6) fun v6 w a hp7 hf => ?_
 obtain ⟨hch4, cs4, hbx4, hr4, ⟨hx9, hx10⟩, hs4⟩ := hp7
 obtain rfl := VR_bool hs4
 obtain ⟨A25, c24, rfl, hl9⟩ := L1CurP_cells hr4
 obtain ⟨rfl, rfl⟩ := fx_slice hx9 rfl rfl
 have hx11 := hx10.trans hsm
 have H := H.wroteBox 1 rfl hch4 hbx4
 have H := H.pX 0 rfl hx10
 refine wl_end (then_n (ib hF hf (fun hc5 hF => ?_) fun hc5 hF => ?_))
 ·obtain ⟨out2, hB1, hF⟩ := bs_ hF
  have hf := hf.pn [0, 5]
  have H := H.lt_ [false, true] [true] [] [0]
  refine loopC (fun (s : List Action × List By × Int × U64) (a : Act) (w : World) => match s with | (l5, m13, m14, m15) => ∃ (A26 : Option Addr) (c25 : Nat) (E5 : Go.TypeId) (Fs3 : List (List Nat)), m13 = c.code ∧ Fr a 66 [(0, (.pointer (some ⟨b0, 0, none⟩))), (5, (.slice A26 l5.length c25))] ∧ Mem ⟨w0, [b0]⟩ S [⟨b0, 160, [(.slice A m13.length c2), (.int .i64 m14), (.int .u64 m15.n)]⟩] [⟨.ow Fs3, E5, A26, c25, (l5 : List Action)⟩] [] [(false, MP.val [(.slice A m13.length c2)] (m13 : List By))] w) (fun k (s : List Action × List By × Int × U64) => spec_l1Cur_actions_L2 fu k s.1 s.2.1 s.2.2.1 s.2.2.2 = some out2) (fun s => out2 = s) (l4, y6.2.code, y6.2.at_, y6.2.seed) fu hB1 ⟨A21, c20, E4, Fs2, hx11, hf, H⟩ (fun s h => by cases h) ?_ ?_
  ·rintro fk ⟨l5, m13, m14, m15⟩ a w hR1 hI
   replace hR1 : spec_l1Cur_actions_L2 fu (fk + 1) l5 m13 m14 m15 = some out2 := hR1
   rw [spec_l1Cur_actions_L2] at hR1
   obtain ⟨A26, c25, E5, Fs3, hsm2, hf, H⟩ := hI
   refine sq (sqz (pz 3 hf fun a hf => ?_))
   obtain ⟨y7, hy7, hR1⟩ := bs_ hR1
   refine oc hf TF.cl178 (spec_l1Cur_pick_ok (S := NB b0) (H.boxAt 0 rfl) ((L1CurP_mk (x := ({ code := m13, at_ := m14, seed := m15 } : L1CurP)) (H.nb 0 rfl (H.get 0 rfl)))) (fun h => h rfl) mk_int hy7) fun v7 w a hp8 hf => ?_
   obtain ⟨hch5, cs5, hbx5, hr5, ⟨hx12, hx13⟩, hs5⟩ := hp8
   obtain rfl := VR_int hs5
   obtain ⟨A27, c26, rfl, hl10⟩ := L1CurP_cells hr5
   obtain ⟨rfl, rfl⟩ := fx_slice hx12 rfl rfl
   have hx14 := hx13.trans hsm2
   have H := H.wroteBox 0 rfl hch5 hbx5
   have H := H.pX 0 rfl hx13
   refine pz 2 hf fun a hf => ?_
   refine wl_end (then_n (ib hR1 hf (fun hc6 hR1 => ?_) fun hc6 hR1 => ?_))
   ·refine wp_skip (then_n (wp_block (reg (pz 6 hf fun a hf => ?_))))
    obtain ⟨y8, hy8, hR1⟩ := bs_ hR1
    refine oc hf TF.cl186 (spec_l1Cur_linked_ok (S := NB b0) (H.boxAt 0 rfl) ((L1CurP_mk (x := y7.2) (H.nb 0 rfl (H.get 0 rfl)))) (fun h => h rfl) hy8) fun v8 w a hp9 hf => ?_
    obtain ⟨hch6, cs6, hbx6, hr6, ⟨hx15, hx16⟩, hs6⟩ := hp9
    obtain ⟨F3, hp10, hN2⟩ := hs6
    obtain ⟨A28, c27, F4, A29, c28, F5, rfl, rfl, hl11, hl12⟩ := Network_vo hp10
    obtain ⟨A30, c29, rfl, hl13⟩ := L1CurP_cells hr6
    obtain ⟨rfl, rfl⟩ := fx_slice hx15 rfl rfl
    have hx17 := hx16.trans hx14
    have H := H.bO2 0 rfl hch6 hbx6 hN2 hl11 hl12
    have H := H.pX 0 rfl hx16
    have H := H.lend 0 rfl
    have H := H.lend 1 rfl
    obtain ⟨y9, hy9, hR1⟩ := bs_ hR1
    refine oc hf TF.cl185 (spec_l1Cur_routed_ok (S := NB b0) (H.boxAt 0 rfl) ((L1CurP_mk (x := y8.2) (H.nb 0 rfl (H.get 2 rfl)))) (fun h => h rfl) (Network_mkv (x := y8.1) (H.nb 0 rfl (H.get 1 rfl)) (H.nb 0 rfl (H.get 0 rfl))) hy9) fun v9 w a hp11 hf => ?_
    obtain ⟨hch7, cs7, hbx7, hr7, ⟨hx18, hx19⟩, hs7⟩ := hp11
    obtain ⟨F6, hp12, hN3⟩ := hs7
    obtain ⟨A31, c30, F7, rfl, rfl, hl14⟩ := Route_vo hp12
    obtain ⟨A32, c31, rfl, hl15⟩ := L1CurP_cells hr7
    obtain ⟨rfl, rfl⟩ := fx_slice hx18 rfl rfl
    have hx20 := hx19.trans hx17
    have H := H.bO1 0 rfl hch7 hbx7 hN3 hl14
    have H := H.pX 2 rfl hx19
    have H := H.lend 0 rfl
    refine oq hf (rq_build hf (cs := [(.int .i64 23), (.int .i64 1)]) rfl (fun w => by kernel_rfl)) fun a hf => ?_
    refine oq hf (rq_build hf (cs := [(.int .i64 (w64 (900 + (l5.length : Int)))), (.int .i64 y9.1.Start), (.slice A31 y9.1.Fibers.length c30), (.int .i64 23), (.int .i64 1)]) rfl (fun w => by kernel_rfl)) fun a hf => ?_
    refine oq hf (rq_build hf (cs := [(.int .i64 1), (.int .i64 (w64 (900 + (l5.length : Int)))), (.int .i64 y9.1.Start), (.slice A31 y9.1.Fibers.length c30), (.int .i64 23), (.int .i64 1)]) rfl (fun w => by kernel_rfl)) fun a hf => ?_
    have H := H.recast (X := [(⟨F7, MP.own F7 [(.slice A31 y9.1.Fibers.length c30)] (y9.1.Fibers : List Int)⟩ : DI)]) (Y := [(⟨F7, MP.own F7 [(.int .i64 1), (.int .i64 (w64 (900 + (l5.length : Int)))), (.int .i64 y9.1.Start), (.slice A31 y9.1.Fibers.length c30), (.int .i64 23), (.int .i64 1)] (({ Kind := 1, Light := ({ Id := w64 (900 + (l5.length : Int)), Route := y9.1, Block := ({ First := 23, Count := 1 } : Block) } : Light) } : Action) : Action)⟩ : DI)]) (List.Perm.of_eq (by simp)) fun _ => ps1 (Action_ownmk (x := ({ Kind := 1, Light := ({ Id := w64 (900 + (l5.length : Int)), Route := y9.1, Block := ({ First := 23, Count := 1 } : Block) } : Light) } : Action)) (H.ownAt 0 rfl)) ps0
    refine wl0 rfl (op_bsliceO hf 54 H rfl (fun w => by kernel_rfl) (by decide) fun A33 a w hf H => ?_)
    obtain ⟨l6, hl6, hR1⟩ := bs_ hR1
    have H := H.frontR 1 rfl
    refine wl0 rfl (op_appO hf H Tryz.underlying67 TF.ai54 rfl (by decide) rfl rfl hl6 (by decide) fun E6 A34 c32 a w hf H => ?_)
    refine pz 1 hf fun a hf => ?_
    have hf := hf.pn [0, 5]
    refine wl_end (blk_n ?_)
    have hf := hf.pn [0, 5]
    have H := H.lt_ [true] [true] [false, false] [1]
    exact then_n ⟨(l6, y9.2.code, y9.2.at_, y9.2.seed), hR1, A34, c32, E6, Fs3 ++ [F7], hx20, hf, H⟩
   ·refine wp_exit (then_x (then_x (blk_e (?_))))
    have hf := hf.pn [0, 5]
    have H := H.lt_ [true] [true] [] [0]
    exact ⟨(l5, y7.2.code, y7.2.at_, y7.2.seed), (Option.some.inj hR1).symm, A26, c25, E5, Fs3, hx14, hf, H⟩
  rintro a w ⟨⟨l7, m16, m17, m18⟩, rfl, A35, c33, E7, Fs4, hsm2, hf, H⟩
  try dsimp only at hsm2
  try dsimp only at hF
  refine then_n (sqz (pz 2 hf fun a hf => ?_))
  refine wer ?_
  obtain ⟨F8, H⟩ := H.freezeOwn 0 rfl
  have H := H.lend 0 rfl
  obtain rfl := oi hF
  refine ret_1 hf rfl (rv_tmp hf rfl) ?_
  have hN := H.endsB1 0 rfl
  exact ⟨_, rfl, H.chg, _, H.boxAt 0 rfl, (L1CurP_mk (x := ({ code := m16, at_ := m17, seed := m18 } : L1CurP)) (eB 0 (H.get 1 rfl))), ⟨fxc hsm2, hsm2⟩, F8, (mko_list (H.ownAt 0 rfl)), hN⟩
 ·refine wp_skip (then_n (sqz (pz 2 hf fun a hf => ?_)))
  refine wer ?_
  obtain ⟨F9, H⟩ := H.freezeOwn 0 rfl
  have H := H.lend 0 rfl
  obtain rfl := oi hF
  refine ret_1 hf rfl (rv_tmp hf rfl) ?_
  have hN := H.endsB1 1 rfl
  exact ⟨_, rfl, H.chg, _, H.boxAt 1 rfl, (L1CurP_mk (x := y6.2) (eB 1 (H.get 1 rfl))), ⟨fxc hx11, hx11⟩, F9, (mko_list (H.ownAt 0 rfl)), hN⟩
theorem spec_DrawApplyActions_ok {S : Nat → Prop} {v0_ : Value} {code : List By} {r : Plan × List Action} (h0 : VR w0 S v0_ code) (hF : spec_DrawApplyActions fu code = some r) :
    Calls Tryz.prog 98 [v0_].toArray w0 fun e w' => ∃ v, e = .returned v ∧ (∃ (A0_0 : Option Addr) (c0_0 : Nat) (F0_0 : List Nat) (A0_1 : Option Addr) (c0_1 : Nat) (F0_1 : List Nat) (A0_2 : Option Addr) (c0_2 : Nat) (A1_0 : Option Addr) (c1_0 : Nat) (F1_0 : List Nat), v = .tuple #[(.agg #[(.slice A0_0 r.1.Network.Nodes.length c0_0), (.slice A0_1 r.1.Network.Fibers.length c0_1), (.slice A0_2 r.1.Lights.length c0_2)]), (.slice A1_0 r.2.length c1_0)] ∧ Mem ⟨w0, []⟩ S [] [] [⟨F0_0, MP.own F0_0 [(.slice A0_0 r.1.Network.Nodes.length c0_0)] (r.1.Network.Nodes : List ByteArray)⟩, ⟨F0_1, MP.own F0_1 [(.slice A0_1 r.1.Network.Fibers.length c0_1)] (r.1.Network.Fibers : List Fiber)⟩, ⟨F1_0, MP.own F1_0 [(.slice A1_0 r.2.length c1_0)] (r.2 : List Action)⟩] [(true, MP.val [(.slice A0_2 r.1.Lights.length c0_2)] (r.1.Lights : List Light))] w') := by
 obtain ⟨A, c, rfl, hl⟩ := VR_list h0
 have H := Mem.start ⟨w0, []⟩ S
 have H := H.pA hl
 refine en Tryz.func98 fun a hf => ?_
 rw [spec_DrawApplyActions] at hF
 refine sq (reg (aL hf H TF.zv45 fun b' a w hf H => ?_))
 refine pz 1 hf fun a hf => ?_
 refine wr (pz 1 hf fun a hf => ?_)
 refine oq hf (rq_build hf (cs := [(.slice A code.length c), (.int .i64 0), (.int .u64 0)]) rfl (fun w => by kernel_rfl)) fun a hf => ?_
 refine wl0 rfl (op_box hf H rfl rfl (by decide) fun b2 a w hf H => ?_)
 refine pz 1 hf fun a hf => ?_
 refine wr (pz 1 hf fun a hf => ?_)
 obtain ⟨y, hy, hF⟩ := bs_ hF
 refine oc hf TF.cl145 (spec_l1Cur_anyPlan_ok (S := NB b2) (H.boxAt 0 rfl) ((L1CurP_mk (x := ({ code := code, at_ := 0, seed := (⟨0⟩ : U64) } : L1CurP)) (H.nb 0 rfl (H.get 0 rfl)))) (fun h => h rfl) hy) fun v w a hp hf => ?_
 obtain ⟨cs, hr, ⟨hx, hx2⟩, A2, c2, F, A3, c3, F2, A4, c4, E, rfl, Hc⟩ := hp
 obtain ⟨A5, c5, rfl, hl2⟩ := L1CurP_cells hr
 obtain ⟨rfl, rfl⟩ := fx_slice hx rfl rfl
 have H := H.compB 0 rfl Hc (.inl rfl)
 have H := H.pX 0 rfl hx2
 have H := H.lend 0 rfl
 have H := H.lend 1 rfl
 refine aL hf H TF.zv45 fun b3 a w hf H => ?_
 refine sB 0 hf H TF.sz45 fun w H => ?_
 refine wl_end (then_n (sq (drawn [4] (bs := [false, false, false, false, false, false]) (fuel := 6) (Checked.mixed Tryz.checked) rfl rfl fun w hb => ?_)))
 have H := H.keep hb
 refine strT (H.lt_ [true, false, false] [false] [false, false] []) (fun w H => trivial) fun hS => ?_
 refine zS 0 [0, 4, 5] rfl rfl rfl rfl hf hS (fun w H => rq_loadBN hf H TF.la45 0 rfl rfl rfl rfl) fun a hf => ?_
 refine zp 1 hf hS fun a hf => ?_
 refine zS 2 [2, 3, 4, 5] rfl rfl rfl rfl hf hS (fun w H => rq_loadBN hf H TF.la45 0 rfl rfl rfl rfl) fun a hf => ?_
 have H := H.freeze 0 rfl
 obtain ⟨y2, hy2, hF⟩ := bs_ hF
 refine n1 3 (by kernel_rfl) rfl rfl (op_call hf TF.cl148 rfl (by decide) (spec_l1Cur_actions_ok (S := NB b2) (H.boxAt 1 rfl) ((L1CurP_mk (x := y.2) (H.nb 1 rfl (H.get 3 rfl)))) (fun h => h rfl) (Plan_mkv (x := y.1) (H.nb 1 rfl (H.get 2 rfl)) (H.nb 1 rfl (H.get 1 rfl)) (H.nb 1 rfl (H.get 0 rfl))) hy2) fun v2 w a hp2 hf => ?_)
 obtain ⟨hch, cs2, hbx, hr2, ⟨hx3, hx4⟩, hs⟩ := hp2
 obtain ⟨F3, hp3, hN⟩ := hs
 obtain ⟨A6, c6, rfl, hl3⟩ := VO_list hp3
 obtain ⟨A7, c7, rfl, hl4⟩ := L1CurP_cells hr2
 obtain ⟨rfl, rfl⟩ := fx_slice hx3 rfl rfl
 have hx5 := hx4.trans hx2
 have H := H.bO1 1 rfl hch hbx hN hl3
 have H := H.pX 3 rfl hx4
 have H := H.lend 0 rfl
 have hS := H.lt_ [true, false, false] [] [false, false, false] []
 refine ⟨fun _ => hS, ?_⟩
 refine n1 4 (by kernel_rfl) rfl rfl (op_storeB hf H 2 TF.sz45 rfl rfl rfl rfl rfl rfl (nle rfl) fun w H => ?_)
 refine ⟨fun h => absurd h (by decide), ?_⟩
 refine tp 5 rfl rfl hf (by kernel_rfl) (fun h => absurd h (by decide)) rfl fun a hf => ?_
 refine dn (by kernel_rfl) ?_
 refine then_n (wp_ret (?_))
 have H := H.frontD 2 rfl
 have H := H.frontD 2 rfl
 obtain rfl := oi hF
 refine ret_2 hf rfl (rv_cellN hf H 2 TF.la45 rfl rfl rfl) (rv_tmp hf rfl) ?_
 have H := H.lt_ [false, false, false] [] [true, true, true] [2]
 exact ⟨_, rfl, A2, c2, F, A3, c3, F2, A4, c4, A6, c6, F3, rfl, H⟩
theorem spec_DrawIsHitless_ok {S : Nat → Prop} {v0_ : Value} {code : List By} {r : Plan × List Action} (h0 : VR w0 S v0_ code) (hF : spec_DrawIsHitless fu code = some r) :
    Calls Tryz.prog 43 [v0_].toArray w0 fun e w' => ∃ v, e = .returned v ∧ (∃ (A0_0 : Option Addr) (c0_0 : Nat) (F0_0 : List Nat) (A0_1 : Option Addr) (c0_1 : Nat) (F0_1 : List Nat) (A0_2 : Option Addr) (c0_2 : Nat) (A1_0 : Option Addr) (c1_0 : Nat) (F1_0 : List Nat), v = .tuple #[(.agg #[(.slice A0_0 r.1.Network.Nodes.length c0_0), (.slice A0_1 r.1.Network.Fibers.length c0_1), (.slice A0_2 r.1.Lights.length c0_2)]), (.slice A1_0 r.2.length c1_0)] ∧ Mem ⟨w0, []⟩ S [] [] [⟨F0_0, MP.own F0_0 [(.slice A0_0 r.1.Network.Nodes.length c0_0)] (r.1.Network.Nodes : List ByteArray)⟩, ⟨F0_1, MP.own F0_1 [(.slice A0_1 r.1.Network.Fibers.length c0_1)] (r.1.Network.Fibers : List Fiber)⟩, ⟨F1_0, MP.own F1_0 [(.slice A1_0 r.2.length c1_0)] (r.2 : List Action)⟩] [(true, MP.val [(.slice A0_2 r.1.Lights.length c0_2)] (r.1.Lights : List Light))] w') := by
 obtain ⟨A, c, rfl, hl⟩ := VR_list h0
 have H := Mem.start ⟨w0, []⟩ S
 have H := H.pA hl
 refine en Tryz.func43 fun a hf => ?_
 rw [spec_DrawIsHitless] at hF
 refine sq (reg (aL hf H TF.zv45 fun b' a w hf H => ?_))
 refine pz 1 hf fun a hf => ?_
 refine wr (pz 1 hf fun a hf => ?_)
 obtain ⟨y, hy, hF⟩ := bs_ hF
 refine oc hf TF.cl98 (spec_DrawApplyActions_ok (S := TT) (mk_list (H.rt 0 rfl)) hy) fun v w a hp hf => ?_
 obtain ⟨A2, c2, F, A3, c3, F2, A4, c4, A5, c5, F3, rfl, Hc⟩ := hp
 have H := H.comp Hc (.inl rfl)
 have H := H.lend 0 rfl
 have H := H.lend 1 rfl
 have H := H.lend 2 rfl
 refine pz 2 hf fun a hf => ?_
 refine sB 0 hf H TF.sz45 fun w H => ?_
 refine pz 1 hf fun a hf => ?_
 refine wer ?_
 have H := H.frontD 2 rfl
 have H := H.frontD 2 rfl
 have H := H.frontD 2 rfl
 obtain rfl := oi hF
 refine ret_2 hf rfl (rv_cellN hf H 0 TF.la45 rfl rfl rfl) (rv_tmp hf rfl) ?_
 have H := H.lt_ [false] [] [true, true, true] [3]
 exact ⟨_, rfl, A2, c2, F, A3, c3, F2, A4, c4, A5, c5, F3, rfl, H⟩
theorem impl_IsHitless_ok {S : Nat → Prop} {v0_ : Value} {v1_ : Value} {p : Plan} {list : List Action} {r : Bool × Bool} (h0 : VR w0 S v0_ p) (h1 : VR w0 S v1_ list) (hF : impl_IsHitless fu p list = some r) :
    Calls Tryz.prog 44 [v0_, v1_].toArray w0 fun e w' => ∃ v, e = .returned v ∧ (Below w0.heap.size w0 w' ∧ ∃ u0 u1, v = .tuple #[u0, u1] ∧ VR w' (St ⟨w0, []⟩ S [] [] [] true) u0 r.1 ∧ VR w' (St ⟨w0, []⟩ S [] [] [] true) u1 r.2) := by
 obtain ⟨A, c, A2, c2, A3, c3, rfl, hl, hl2, hl3⟩ := Plan_open h0
 obtain ⟨A4, c4, rfl, hl4⟩ := VR_list h1
 have H := Mem.start ⟨w0, []⟩ S
 have H := H.pA hl
 have H := H.pA hl2
 have H := H.pA hl3
 have H := H.pA hl4
 refine en Tryz.func44 fun a hf => ?_
 rw [impl_IsHitless] at hF
 refine sq (reg (wl0 rfl (op_box hf H rfl rfl (by decide) fun b' a w hf H => ?_)))
 refine pz 2 hf fun a hf => ?_
 refine wl_end (then_n (sq (sq ?_)))
 obtain ⟨c5, hGc5, hF⟩ := bs_ hF
 have fh := hf.prune [1, 2] rfl
 have Hm := H.lt_ [true] [] [] [0, 1, 2, 3]
 refine midF 18 (.bool c5) fh Hm ?_ fun a w hf H => ?_
 ·refine reg (oq hf (rq_loadBN hf H TF.la45 0 rfl rfl rfl rfl) fun a hf => ?_)
  obtain ⟨y, hy, hGc5⟩ := bs_ hGc5
  refine oc hf TF.cl50 (impl_IsValidPlan_ok (S := TT) (Plan_mkv (x := p) (H.rt 3 rfl) (H.rt 2 rfl) (H.rt 1 rfl)) hy) fun v w a hp hf => ?_
  obtain ⟨hb, hp⟩ := hp
  obtain rfl := VR_bool hp
  have H := H.keep hb
  refine pz 2 hf fun a hf => ?_
  refine iteB hGc5 (fun hc hGc5 => ?_) fun hc hGc5 => ?_
  ·have hf := hf.lit 14 rfl hc
   refine pz 4 hf fun a hf => ?_
   obtain rfl := oi hGc5
   have hf := hf.pn [18, 1, 2]
   have H := H.lt_ [true] [] [] [0, 1, 2, 3]
   exact wl_end ⟨hf, H⟩
  ·have hf := hf.lit 14 rfl hc
   refine pz 4 hf fun a hf => ?_
   obtain rfl := oi hGc5
   have hf := hf.pn [18, 1, 2]
   have H := H.lt_ [true] [] [] [0, 1, 2, 3]
   exact wl_end ⟨hf, H⟩
 refine then_n (ib hF hf (fun hc2 hF => ?_) fun hc2 hF => ?_)
 ·refine sqz (pz 2 hf fun a hf => ?_)
  refine wl_end (then_n (wp_ret (then_r (?_))))
  obtain rfl := oi hF
  refine ret_2 hf rfl (rv_tmp hf rfl) (rv_tmp hf rfl) ?_
  exact ⟨_, rfl, H.bel, _, _, rfl, mk_bool, mk_bool⟩
 ·refine wp_skip (then_n (sq (reg (oq hf (rq_loadBN hf H TF.la45 0 rfl rfl rfl rfl) fun a hf => ?_))))
  refine aL hf H TF.zv45 fun b2 a w hf H => ?_
  refine sB 0 hf H TF.sz45 fun w H => ?_
  refine wl_end (then_n (sq (sqz (pz 3 hf fun a hf => ?_))))
  refine wl_end (then_n ?_)
  obtain ⟨out', hB1, hF⟩ := bs_ hF
  have hf := hf.pn [6, 20, 21, 22]
  have H := H.lt_ [true, false] [] [] [1, 2, 3, 0]
  refine loopC (fun (s : Int × List ByteArray × List Fiber × List Light) (a : Act) (w : World) => match s with | (i, m, m2, m3) => ∃ (A5 : Option Addr) (c6 : Nat) (A6 : Option Addr) (c7 : Nat) (A7 : Option Addr) (c8 : Nat), Fr a 55 [(6, (.pointer (some ⟨b2, 0, none⟩))), (20, (.slice A4 list.length c4)), (21, (.int .i64 (list.length : Int))), (22, (.int .i64 i))] ∧ Mem ⟨w0, []⟩ S [⟨b2, 45, [(.slice A5 m.length c6), (.slice A6 m2.length c7), (.slice A7 m3.length c8)]⟩] [] [] [(false, MP.val [(.slice A7 m3.length c8)] (m3 : List Light)), (false, MP.val [(.slice A6 m2.length c7)] (m2 : List Fiber)), (false, MP.val [(.slice A5 m.length c6)] (m : List ByteArray)), (false, MP.val [(.slice A4 list.length c4)] (list : List Action))] w) (fun k (s : Int × List ByteArray × List Fiber × List Light) => impl_IsHitless_L1 fu list k s.1 s.2.1 s.2.2.1 s.2.2.2 = some out') (fun s => out' = Out.next s) (0, p.Network.Nodes, p.Network.Fibers, p.Lights) fu hB1 ⟨A, c, A2, c2, A3, c3, hf, H⟩ (fun s h => by cases h) ?_ ?_
  ·rintro fk ⟨i, m, m2, m3⟩ a w hR1 hI
   replace hR1 : impl_IsHitless_L1 fu list (fk + 1) i m m2 m3 = some out' := hR1
   rw [impl_IsHitless_L1] at hR1
   obtain ⟨A5, c6, A6, c7, A7, c8, hf, H⟩ := hI
   refine sqz (pz 1 hf fun a hf => ?_)
   refine wl_end (then_n (sq (ib hR1 hf (fun hc3 hR1 => ?_) fun hc3 hR1 => ?_)))
   ·refine wp_skip (then_n (sq (wp_block (sq (reg ?_)))))
    obtain ⟨e, he, hR1⟩ := bs_ hR1
    refine wl0 rfl (op_iaddr hf H Tryz.underlying67 TF.sz54 3 rfl rfl rfl he (by decide) fun p2 o cs a hf hr H => ?_)
    obtain ⟨A8, c9, rfl, hl5⟩ := Action_cells hr
    have H := H.pF hl5
    refine oq hf (rq_loadIN hf H TF.la54 1 0 rfl rfl rfl rfl) fun a hf => ?_
    refine aL hf H TF.zv54 fun b3 a w hf H => ?_
    refine sB 0 hf H TF.sz54 fun w H => ?_
    refine wr (oq hf (rq_loadBN hf H TF.la45 1 rfl rfl rfl rfl) fun a hf => ?_)
    refine oq hf (rq_loadBN hf H TF.la54 0 rfl rfl rfl rfl) fun a hf => ?_
    obtain ⟨y2, hy2, hR1⟩ := bs_ hR1
    refine oc hf TF.cl16 (impl_ApplyAction_ok (S := TT) (Plan_mkv (x := ({ Network := ({ Nodes := m, Fibers := m2 } : Network), Lights := m3 } : Plan)) (H.rt 4 rfl) (H.rt 3 rfl) (H.rt 2 rfl)) (Action_mkv (x := e) (H.rt 0 rfl)) hy2) fun v2 w a hp2 hf => ?_
    obtain ⟨hb2, F, v3, v4, rfl, hp3, hp4, hN⟩ := hp2
    obtain ⟨A9, c10, F2, A10, c11, F3, A11, c12, F4, rfl, rfl, hl6, hl7, hl8⟩ := Plan_vo hp3
    obtain rfl := VR_bool hp4
    have H := H.aO3 hb2 hN hl6 hl7 hl8
    have H := H.lend 0 rfl
    have H := H.lend 1 rfl
    have H := H.lend 2 rfl
    refine pz 3 hf fun a hf => ?_
    refine aL hf H TF.zv45 fun b4 a w hf H => ?_
    refine sB 0 hf H TF.sz45 fun w H => ?_
    refine pz 1 hf fun a hf => ?_
    refine wl_end (then_n (sq (sq ?_)))
    obtain ⟨c13, hGc13, hR1⟩ := bs_ hR1
    have fh2 := hf.prune [6, 9, 20, 21, 22] rfl
    have Hm2 := H.lt_ [true, false, true] [] [true, true, true] [0, 1, 2, 5, 6, 7, 8]
    refine midF 52 (.bool c13) fh2 Hm2 ?_ fun a w hf H => ?_
    ·refine drawn [] (bs := [false, false, false, false, false, false, false, false, false, false, false, false, false, false, false, false, false, false, false, false, false]) (fuel := 21) (Checked.mixed Tryz.checked) rfl rfl fun w hb => ?_
     have H := H.keep hb
     refine zp 0 hf trivial fun a hf => ?_
     refine zp 1 hf trivial fun a hf => ?_
     refine zp 2 hf trivial fun a hf => ?_
     refine iteB hGc13 (fun hc4 hGc13 => ?_) fun hc4 hGc13 => ?_
     ·have hf := hf.lit 34 rfl hc4
      refine zU 3 hf trivial fun a hf => ?_
      refine zU 4 hf trivial fun a hf => ?_
      refine zU 5 hf trivial fun a hf => ?_
      refine zU 6 hf trivial fun a hf => ?_
      refine zV 7 hf trivial fun a hf => ?_
      refine zV 8 hf trivial fun a hf => ?_
      refine zV 9 hf trivial fun a hf => ?_
      refine zV 10 hf trivial fun a hf => ?_
      refine zV 11 hf trivial fun a hf => ?_
      refine zV 12 hf trivial fun a hf => ?_
      refine zV 13 hf trivial fun a hf => ?_
      refine zV 14 hf trivial fun a hf => ?_
      refine zV 15 hf trivial fun a hf => ?_
      refine zV 16 hf trivial fun a hf => ?_
      refine zV 17 hf trivial fun a hf => ?_
      refine zV 18 hf trivial fun a hf => ?_
      refine zU 19 hf trivial fun a hf => ?_
      refine zp 20 hf trivial fun a hf => ?_
      refine dn (by kernel_rfl) ?_
      obtain rfl := oi hGc13
      have hf := hf.pn [52, 6, 9, 20, 21, 22]
      have H := H.lt_ [true, false, true] [] [true, true, true] [0, 1, 2, 5, 6, 7, 8]
      exact ⟨hf, H⟩
     ·have hf := hf.lit 34 rfl hc4
      refine zg 3 hf trivial fun a hf => ?_
      refine strT (H.lt_ [false, true, false] [] [false, false, false] []) (fun w H => trivial) fun hS => ?_
      refine tSg 4 [] rfl rfl rfl rfl rfl rfl hf (by kernel_rfl) (by kernel_rfl) hS (fun w H => rq_loadB hf H TF.ls3 0 rfl rfl rfl) fun a hf => ?_
      refine zg 5 hf hS fun a hf => ?_
      refine zg 6 hf hS fun a hf => ?_
      refine iteB hGc13 (fun hc5 hGc13 => ?_) fun hc5 hGc13 => ?_
      ·have hf := hf.lit 38 rfl hc5
       refine zg 7 hf hS fun a hf => ?_
       refine strT (H.lt_ [false, true, true] [] [false, false, false] []) (fun w H => H.lt_ [true, false] [] [] []) fun hS => ?_
       refine tSg 8 [] rfl rfl rfl rfl rfl rfl hf (by kernel_rfl) (by kernel_rfl) hS (fun w H => rq_loadB hf H TF.ls43 1 rfl rfl rfl) fun a hf => ?_
       refine tSg 9 [] rfl rfl rfl rfl rfl rfl hf (by kernel_rfl) (by kernel_rfl) hS (fun w H => rq_loadBN hf H TF.la45 1 rfl rfl rfl rfl) fun a hf => ?_
       refine zg 10 hf hS fun a hf => ?_
       refine zg 11 hf hS fun a hf => ?_
       refine tSg 12 [] rfl rfl rfl rfl rfl rfl hf (by kernel_rfl) (by kernel_rfl) hS (fun w H => rq_loadB hf H TF.ls3 0 rfl rfl rfl) fun a hf => ?_
       refine zg 16 hf hS fun a hf => ?_
       refine tSg 17 [] rfl rfl rfl rfl rfl rfl hf (by kernel_rfl) (by kernel_rfl) hS (fun w H => rq_loadBN hf H TF.la52 0 rfl rfl rfl rfl) fun a hf => ?_
       obtain ⟨y3, hy3, hGc13⟩ := bs_ hGc13
       refine n1g 13 (by kernel_rfl) rfl rfl rfl rfl hf (op_call hf TF.cl66 rfl (by decide) (impl_lightAt_ok (S := TT) (Plan_mkv (x := ({ Network := ({ Nodes := m, Fibers := m2 } : Network), Lights := m3 } : Plan)) (H.rt 7 rfl) (H.rt 6 rfl) (H.rt 5 rfl)) mk_int hy3) fun v5 w a hp5 hf => ?_)
       obtain ⟨hb3, hp5⟩ := hp5
       obtain rfl := VR_int hp5
       have H := H.keep hb3
       have hS := H.lt_ [false, true, true] [] [false, false, false] []
       refine ⟨fun _ => hS, ?_⟩
       obtain ⟨e2, he2, hGc13⟩ := bs_ hGc13
       obtain ⟨p3, o2, cs2, hx, hr2, H⟩ := pre_iaddr H Tryz.underlying43 TF.sz52 5 rfl he2
       refine tPg 14 rfl rfl rfl rfl rfl rfl hf (by kernel_rfl) (fun _ => hS) (fun w => rq_iaddrE hf rfl rfl rfl hx w) fun a hf => ?_
       obtain ⟨A12, c14, rfl, hl9⟩ := Light_cells hr2
       have H := H.pF hl9
       refine strT (H.lt_ [false, true, true] [] [false, false, false] [1]) (fun w H => H.lt_ [true, true] [] [] []) fun hS => ?_
       refine tSg 15 [] rfl rfl rfl rfl rfl rfl hf (by kernel_rfl) (by kernel_rfl) hS (fun w H => rq_loadIN hf H TF.la52 0 0 rfl rfl rfl rfl) fun a hf => ?_
       obtain ⟨y4, hy4, hGc13⟩ := bs_ hGc13
       refine n1g 18 (by kernel_rfl) rfl rfl rfl rfl hf (op_call hf TF.cl99 rfl (by decide) (impl_collide_ok (S := TT) (Light_mkv (x := e2) (H.rt 0 rfl)) (Light_mkv (x := e.Light) (H.rt 5 rfl)) hy4) fun v6 w a hp6 hf => ?_)
       obtain ⟨hb4, hp6⟩ := hp6
       obtain rfl := VR_bool hp6
       have H := H.keep hb4
       have hS := H.lt_ [false, true, true] [] [false, false, false] [1]
       refine ⟨fun _ => hS, ?_⟩
       refine zg 19 hf hS fun a hf => ?_
       refine zp 20 hf hS fun a hf => ?_
       refine dn (by kernel_rfl) ?_
       obtain rfl := oi hGc13
       have hf := hf.pn [52, 6, 9, 20, 21, 22]
       have H := H.lt_ [true, false, true] [] [true, true, true] [2, 3, 4, 7, 8, 9, 10]
       exact ⟨hf, H⟩
      ·have hf := hf.lit 38 rfl hc5
       refine zU 7 hf hS fun a hf => ?_
       refine zU 8 hf hS fun a hf => ?_
       refine zU 9 hf hS fun a hf => ?_
       refine zU 10 hf hS fun a hf => ?_
       refine zU 11 hf hS fun a hf => ?_
       refine zU 12 hf hS fun a hf => ?_
       refine zU 13 hf hS fun a hf => ?_
       refine zU 14 hf hS fun a hf => ?_
       refine zU 15 hf hS fun a hf => ?_
       refine zU 16 hf hS fun a hf => ?_
       refine zU 17 hf hS fun a hf => ?_
       refine zU 18 hf hS fun a hf => ?_
       refine zg 19 hf hS fun a hf => ?_
       refine zp 20 hf hS fun a hf => ?_
       refine dn (by kernel_rfl) ?_
       obtain rfl := oi hGc13
       have hf := hf.pn [52, 6, 9, 20, 21, 22]
       have H := H.lt_ [true, false, true] [] [true, true, true] [0, 1, 2, 5, 6, 7, 8]
       exact ⟨hf, H⟩
    refine then_n (ib hR1 hf (fun hc6 hR1 => ?_) fun hc6 hR1 => ?_)
    ·refine sqz (pz 2 hf fun a hf => ?_)
     refine wl_end (then_n (wp_ret (then_r (blk_r (then_r (then_r (blk_r (then_r (then_r (?_))))))))))
     obtain rfl := oi hR1
     replace hF := on_ret hF
     obtain rfl := oi hF
     refine ret_2 hf rfl (rv_tmp hf rfl) (rv_tmp hf rfl) ?_
     exact ⟨_, rfl, H.bel, _, _, rfl, mk_bool, mk_bool⟩
    ·refine wp_skip (then_n (reg (oq hf (rq_loadBN hf H TF.la45 0 rfl rfl rfl rfl) fun a hf => ?_)))
     refine sB 1 hf H TF.sz45 fun w H => ?_
     refine wl_end (blk_n (then_n (reg (pz 2 hf fun a hf => ?_))))
     refine wl_end ?_
     have H := H.copyI 2 rfl (.inl rfl)
     have H := H.copyI 2 rfl (.inl rfl)
     have H := H.copyI 2 rfl (.inl rfl)
     have hf := hf.pn [6, 20, 21, 22]
     have H := H.lt_ [false, true] [] [false, false, false] [0, 1, 2, 9]
     exact then_n ⟨(w64 (i + 1), y2.1.Network.Nodes, y2.1.Network.Fibers, y2.1.Lights), hR1, A9, c10, A10, c11, A11, c12, hf, H⟩
   ·refine wp_exit (then_x (then_x (blk_e (?_))))
    have hf := hf.pn [6, 20, 21, 22]
    have H := H.lt_ [true] [] [] [0, 1, 2, 3]
    exact ⟨(i, m, m2, m3), (Option.some.inj hR1).symm, A5, c6, A6, c7, A7, c8, hf, H⟩
  rintro a w ⟨⟨i2, m4, m5, m6⟩, rfl, A13, c15, A14, c16, A15, c17, hf, H⟩
  replace hF := on_next hF
  try dsimp only at hF
  refine then_n (sqz (pz 2 hf fun a hf => ?_))
  refine wer ?_
  obtain rfl := oi hF
  refine ret_2 hf rfl (rv_tmp hf rfl) (rv_tmp hf rfl) ?_
  exact ⟨_, rfl, H.bel, _, _, rfl, mk_bool, mk_bool⟩
theorem spec_IsHitless_ok {S : Nat → Prop} {v0_ : Value} {v1_ : Value} {p : Plan} {list : List Action} {r : Bool × Bool} (h0 : VR w0 S v0_ p) (h1 : VR w0 S v1_ list) (hF : spec_IsHitless fu p list = some r) :
    Calls Tryz.prog 45 [v0_, v1_].toArray w0 fun e w' => ∃ v, e = .returned v ∧ (Below w0.heap.size w0 w' ∧ ∃ u0 u1, v = .tuple #[u0, u1] ∧ VR w' (St ⟨w0, []⟩ S [] [] [] true) u0 r.1 ∧ VR w' (St ⟨w0, []⟩ S [] [] [] true) u1 r.2) := by
 obtain ⟨A, c, A2, c2, A3, c3, rfl, hl, hl2, hl3⟩ := Plan_open h0
 obtain ⟨A4, c4, rfl, hl4⟩ := VR_list h1
 have H := Mem.start ⟨w0, []⟩ S
 have H := H.pA hl
 have H := H.pA hl2
 have H := H.pA hl3
 have H := H.pA hl4
 refine en Tryz.func45 fun a hf => ?_
 rw [spec_IsHitless] at hF
 refine sq (reg (wl0 rfl (op_box hf H rfl rfl (by decide) fun b' a w hf H => ?_)))
 refine pz 2 hf fun a hf => ?_
 refine wl_end (then_n (sq (sq ?_)))
 obtain ⟨c5, hGc5, hF⟩ := bs_ hF
 have fh := hf.prune [1, 2] rfl
 have Hm := H.lt_ [true] [] [] [0, 1, 2, 3]
 refine midF 17 (.bool c5) fh Hm ?_ fun a w hf H => ?_
 ·refine reg (oq hf (rq_loadBN hf H TF.la45 0 rfl rfl rfl rfl) fun a hf => ?_)
  obtain ⟨y, hy, hGc5⟩ := bs_ hGc5
  refine oc hf TF.cl61 (spec_l9Good_ok (S := TT) (Plan_mkv (x := p) (H.rt 3 rfl) (H.rt 2 rfl) (H.rt 1 rfl)) hy) fun v w a hp hf => ?_
  obtain ⟨hb, hp⟩ := hp
  obtain rfl := VR_bool hp
  have H := H.keep hb
  refine pz 2 hf fun a hf => ?_
  refine iteB hGc5 (fun hc hGc5 => ?_) fun hc hGc5 => ?_
  ·have hf := hf.lit 13 rfl hc
   refine pz 4 hf fun a hf => ?_
   obtain rfl := oi hGc5
   have hf := hf.pn [17, 1, 2]
   have H := H.lt_ [true] [] [] [0, 1, 2, 3]
   exact wl_end ⟨hf, H⟩
  ·have hf := hf.lit 13 rfl hc
   refine pz 4 hf fun a hf => ?_
   obtain rfl := oi hGc5
   have hf := hf.pn [17, 1, 2]
   have H := H.lt_ [true] [] [] [0, 1, 2, 3]
   exact wl_end ⟨hf, H⟩
 refine then_n (ib hF hf (fun hc2 hF => ?_) fun hc2 hF => ?_)
 ·refine sqz (pz 2 hf fun a hf => ?_)
  refine wl_end (then_n (wp_ret (then_r (?_))))
  obtain rfl := oi hF
  refine ret_2 hf rfl (rv_tmp hf rfl) (rv_tmp hf rfl) ?_
  exact ⟨_, rfl, H.bel, _, _, rfl, mk_bool, mk_bool⟩
 ·refine wp_skip (then_n (sq (reg (oq hf (rq_loadBN hf H TF.la45 0 rfl rfl rfl rfl) fun a hf => ?_))))
  obtain ⟨y2, hy2, hF⟩ := bs_ hF
  refine oc hf TF.cl81 (spec_l9Own_ok (S := TT) (Plan_mkv (x := p) (H.rt 3 rfl) (H.rt 2 rfl) (H.rt 1 rfl)) hy2) fun v2 w a hp2 hf => ?_
  obtain ⟨hb2, F, hp3, hN⟩ := hp2
  obtain ⟨A5, c6, F2, A6, c7, F3, A7, c8, F4, rfl, rfl, hl5, hl6, hl7⟩ := Plan_vo hp3
  have H := H.aO3 hb2 hN hl5 hl6 hl7
  have H := H.lend 0 rfl
  have H := H.lend 1 rfl
  have H := H.lend 2 rfl
  refine aL hf H TF.zv45 fun b2 a w hf H => ?_
  refine sB 0 hf H TF.sz45 fun w H => ?_
  refine wl_end (then_n (sq (sqz (pz 1 hf fun a hf => ?_))))
  refine wl_end (then_n ?_)
  obtain ⟨out', hB1, hF⟩ := bs_ hF
  have hf := hf.pn [1, 6, 7]
  have H := H.lt_ [true, false] [] [false, false, false] [0, 1, 2, 3]
  refine loopC (fun (s : Int × List ByteArray × List Fiber × List Light) (a : Act) (w : World) => match s with | (i, m, m2, m3) => ∃ (A8 : Option Addr) (c9 : Nat) (A9 : Option Addr) (c10 : Nat) (A10 : Option Addr) (c11 : Nat), Fr a 64 [(1, (.slice A4 list.length c4)), (6, (.pointer (some ⟨b2, 0, none⟩))), (7, (.int .i64 i))] ∧ Mem ⟨w0, []⟩ S [⟨b2, 45, [(.slice A8 m.length c9), (.slice A9 m2.length c10), (.slice A10 m3.length c11)]⟩] [] [] [(true, MP.val [(.slice A10 m3.length c11)] (m3 : List Light)), (true, MP.val [(.slice A9 m2.length c10)] (m2 : List Fiber)), (true, MP.val [(.slice A8 m.length c9)] (m : List ByteArray)), (false, MP.val [(.slice A4 list.length c4)] (list : List Action))] w) (fun k (s : Int × List ByteArray × List Fiber × List Light) => spec_IsHitless_L1 fu list k s.1 s.2.1 s.2.2.1 s.2.2.2 = some out') (fun s => out' = Out.next s) (0, y2.Network.Nodes, y2.Network.Fibers, y2.Lights) fu hB1 ⟨A5, c6, A6, c7, A7, c8, hf, H⟩ (fun s h => by cases h) ?_ ?_
  ·rintro fk ⟨i, m, m2, m3⟩ a w hR1 hI
   replace hR1 : spec_IsHitless_L1 fu list (fk + 1) i m m2 m3 = some out' := hR1
   rw [spec_IsHitless_L1] at hR1
   obtain ⟨A8, c9, A9, c10, A10, c11, hf, H⟩ := hI
   refine sq (sqz (pz 4 hf fun a hf => ?_))
   refine wl_end (then_n (ib hR1 hf (fun hc3 hR1 => ?_) fun hc3 hR1 => ?_))
   ·refine wp_skip (then_n (sq (wp_block (sq ?_))))
    obtain ⟨e, he, hR1⟩ := bs_ hR1
    obtain ⟨y3, hy3, hR1⟩ := bs_ hR1
    refine mid (fun a w => ∃ (b3 : Nat) (A12 : Option Addr) (c13 : Nat) (A13 : Option Addr) (c14 : Nat) (A14 : Option Addr) (c15 : Nat), Fr a 64 [(1, (.slice A4 list.length c4)), (6, (.pointer (some ⟨b2, 0, none⟩))), (7, (.int .i64 i)), (8, (.pointer (some ⟨b3, 0, none⟩))), (9, (.bool y3.2))] ∧ Mem ⟨w0, []⟩ S [⟨b3, 45, [(.slice A12 y3.1.Network.Nodes.length c13), (.slice A13 y3.1.Network.Fibers.length c14), (.slice A14 y3.1.Lights.length c15)]⟩, ⟨b2, 45, [(.slice A8 m.length c9), (.slice A9 m2.length c10), (.slice A10 m3.length c11)]⟩] [] [] [(true, MP.val [(.slice A14 y3.1.Lights.length c15)] (y3.1.Lights : List Light)), (true, MP.val [(.slice A13 y3.1.Network.Fibers.length c14)] (y3.1.Network.Fibers : List Fiber)), (true, MP.val [(.slice A12 y3.1.Network.Nodes.length c13)] (y3.1.Network.Nodes : List ByteArray)), (true, MP.val [(.slice A10 m3.length c11)] (m3 : List Light)), (true, MP.val [(.slice A9 m2.length c10)] (m2 : List Fiber)), (true, MP.val [(.slice A8 m.length c9)] (m : List ByteArray)), (false, MP.val [(.slice A4 list.length c4)] (list : List Action))] w) ?_ ?_
    ·refine drawn [10] (bs := [false, false, false, false, false, false, false, false, false, false, false, false]) (fuel := 12) (Checked.mixed Tryz.checked) rfl rfl fun w hb => ?_
     have H := H.keep hb
     refine strT (H.lt_ [true] [] [] []) (fun w H => trivial) fun hS => ?_
     refine zS 0 [0, 5, 6, 7, 8, 10, 11] rfl rfl rfl rfl hf hS (fun w H => rq_loadBN hf H TF.la45 0 rfl rfl rfl rfl) fun a hf => ?_
     refine zp 1 hf hS fun a hf => ?_
     refine zp 2 hf hS fun a hf => ?_
     obtain ⟨p2, o, cs, hx, hr, H⟩ := pre_iaddr H Tryz.underlying67 TF.sz54 3 rfl he
     refine zP 3 rfl rfl rfl rfl hf hS (fun w => rq_iaddrE hf rfl rfl rfl hx w) fun a hf => ?_
     obtain ⟨A11, c12, rfl, hl8⟩ := Action_cells hr
     have H := H.pF hl8
     refine strT (H.lt_ [true] [] [] [1]) (fun w H => H.lt_ [true] [] [] []) fun hS => ?_
     refine zS 4 [4, 5, 6, 7, 8, 10, 11] rfl rfl rfl rfl hf hS (fun w H => rq_loadIN hf H TF.la54 0 0 rfl rfl rfl rfl) fun a hf => ?_
     refine on2 (i := 5) (j := 9) (bi := [true, true, true, true, true, true, false, false, false, false, false, false]) (bj := [true, true, true, true, true, false, false, false, false, true, false, false]) (by kernel_rfl) rfl rfl rfl rfl rfl rfl ?_ ?_
     ·refine (op_call hf TF.cl62 rfl (by decide) (spec_l20Apply_ok (S := TT) (Plan_mkv (x := ({ Network := ({ Nodes := m, Fibers := m2 } : Network), Lights := m3 } : Plan)) (H.rt 4 rfl) (H.rt 3 rfl) (H.rt 2 rfl)) (Action_mkv (x := e) (H.rt 0 rfl)) hy3) fun v3 w a hp4 hf => ?_)
      obtain ⟨hb3, v4, v5, rfl, hp5, hp6⟩ := hp4
      obtain ⟨A12, c13, A13, c14, A14, c15, rfl, hl9, hl10, hl11⟩ := Plan_open hp5
      replace hl9 := H.rF hl9
      replace hl10 := H.rF hl10
      replace hl11 := H.rF hl11
      obtain rfl := VR_bool hp6
      have H := H.keep hb3
      have H := H.pT hl9
      have H := H.pT hl10
      have H := H.pT hl11
      have hS := H.lt_ [true] [] [] [4]
      refine ⟨fun _ => hS, ?_⟩
      refine zp 6 hf hS fun a hf => ?_
      refine zp 7 hf hS fun a hf => ?_
      refine zp 8 hf hS fun a hf => ?_
      refine n1 9 (by kernel_rfl) rfl rfl (op_alloc hf H TF.zv45 rfl (by decide) fun b3 a w hf H => ?_)
      have hS := H.lt_ [false, true] [] [] [4]
      refine ⟨fun _ => hS, ?_⟩
      refine n1 10 (by kernel_rfl) rfl rfl (op_storeB hf H 0 TF.sz45 rfl rfl rfl rfl rfl rfl (nle rfl) fun w H => ?_)
      refine ⟨fun h => absurd h (by decide), ?_⟩
      refine tp 11 rfl rfl hf (by kernel_rfl) (fun h => absurd h (by decide)) rfl fun a hf => ?_
      refine dn (by kernel_rfl) ?_
      have hf := hf.pn [1, 6, 7, 8, 9]
      have H := H.lt_ [true, true] [] [] [0, 1, 2, 5, 6, 7, 8]
      exact ⟨b3, A12, c13, A13, c14, A14, c15, hf, H⟩
     ·refine (op_alloc hf H TF.zv45 rfl (by decide) fun b3 a w hf H => ?_)
      have hS := H.lt_ [false, true] [] [] [1]
      refine ⟨fun _ => hS, ?_⟩
      refine n1 5 (by kernel_rfl) rfl rfl (op_call hf TF.cl62 rfl (by decide) (spec_l20Apply_ok (S := TT) (Plan_mkv (x := ({ Network := ({ Nodes := m, Fibers := m2 } : Network), Lights := m3 } : Plan)) (H.rt 4 rfl) (H.rt 3 rfl) (H.rt 2 rfl)) (Action_mkv (x := e) (H.rt 0 rfl)) hy3) fun v3 w a hp4 hf => ?_)
      obtain ⟨hb3, v4, v5, rfl, hp5, hp6⟩ := hp4
      obtain ⟨A12, c13, A13, c14, A14, c15, rfl, hl9, hl10, hl11⟩ := Plan_open hp5
      replace hl9 := H.rF hl9
      replace hl10 := H.rF hl10
      replace hl11 := H.rF hl11
      obtain rfl := VR_bool hp6
      have H := H.keep hb3
      have H := H.pT hl9
      have H := H.pT hl10
      have H := H.pT hl11
      have hS := H.lt_ [false, true] [] [] [4]
      refine ⟨fun _ => hS, ?_⟩
      refine zp 6 hf hS fun a hf => ?_
      refine zp 7 hf hS fun a hf => ?_
      refine zp 8 hf hS fun a hf => ?_
      refine n1 10 (by kernel_rfl) rfl rfl (op_storeB hf H 0 TF.sz45 rfl rfl rfl rfl rfl rfl (nle rfl) fun w H => ?_)
      refine ⟨fun h => absurd h (by decide), ?_⟩
      refine tp 11 rfl rfl hf (by kernel_rfl) (fun h => absurd h (by decide)) rfl fun a hf => ?_
      refine dn (by kernel_rfl) ?_
      have hf := hf.pn [1, 6, 7, 8, 9]
      have H := H.lt_ [true, true] [] [] [0, 1, 2, 5, 6, 7, 8]
      exact ⟨b3, A12, c13, A13, c14, A14, c15, hf, H⟩
    rintro a w ⟨b3, A12, c13, A13, c14, A14, c15, hf, H⟩
    refine then_n (sq (sqz (pz 2 hf fun a hf => ?_)))
    refine wl_end (then_n (ib hR1 hf (fun hc4 hR1 => ?_) fun hc4 hR1 => ?_))
    ·refine sqz (pz 2 hf fun a hf => ?_)
     refine wl_end (then_n (wp_ret (then_r (blk_r (then_r (then_r (blk_r (then_r (then_r (?_))))))))))
     obtain rfl := oi hR1
     replace hF := on_ret hF
     obtain rfl := oi hF
     refine ret_2 hf rfl (rv_tmp hf rfl) (rv_tmp hf rfl) ?_
     exact ⟨_, rfl, H.bel, _, _, rfl, mk_bool, mk_bool⟩
    ·refine wp_skip (then_n (sq (sq ?_)))
     obtain ⟨c16, hGc16, hR1⟩ := bs_ hR1
     have fh2 := hf.prune [1, 6, 7, 8] rfl
     have Hm2 := H.lt_ [true, true] [] [] [0, 1, 2, 3, 4, 5, 6]
     refine midF 62 (.bool c16) fh2 Hm2 ?_ fun a w hf H => ?_
     ·refine drawn [] (bs := [false, false, false, false, false, false, false, false, false, false, false, false, false, false, false, false, false, false, false, false, false, false, false, false, false, false]) (fuel := 26) (Checked.mixed Tryz.checked) rfl rfl fun w hb => ?_
      have H := H.keep hb
      refine zp 0 hf trivial fun a hf => ?_
      refine zp 1 hf trivial fun a hf => ?_
      obtain ⟨e2, he2, hGc16⟩ := bs_ hGc16
      obtain ⟨p3, o2, cs2, hx2, hr2, H⟩ := pre_iaddr H Tryz.underlying67 TF.sz54 6 rfl he2
      refine tP 2 rfl rfl rfl rfl hf (by kernel_rfl) (fun _ => trivial) (fun w => rq_iaddrE hf rfl rfl rfl hx2 w) fun a hf => ?_
      obtain ⟨A15, c17, rfl, hl12⟩ := Action_cells hr2
      have H := H.pF hl12
      refine zp 3 hf trivial fun a hf => ?_
      refine strT (H.lt_ [false, false] [] [] [1]) (fun w H => trivial) fun hS => ?_
      refine zS 4 [] rfl rfl rfl rfl hf hS (fun w H => rq_loadI hf H TF.ls3 0 0 rfl rfl rfl) fun a hf => ?_
      refine zp 5 hf hS fun a hf => ?_
      refine zp 6 hf hS fun a hf => ?_
      refine iteB hGc16 (fun hc5 hGc16 => ?_) fun hc5 hGc16 => ?_
      ·have hf := hf.lit 43 rfl hc5
       refine zg 7 hf hS fun a hf => ?_
       refine strT (H.lt_ [false, true] [] [] [1]) (fun w H => H.lt_ [false] [] [] [0]) fun hS => ?_
       refine tSg 8 [] rfl rfl rfl rfl rfl rfl hf (by kernel_rfl) (by kernel_rfl) hS (fun w H => rq_loadB hf H TF.ls43 0 rfl rfl rfl) fun a hf => ?_
       refine tSg 9 [] rfl rfl rfl rfl rfl rfl hf (by kernel_rfl) (by kernel_rfl) hS (fun w H => rq_loadBN hf H TF.la45 0 rfl rfl rfl rfl) fun a hf => ?_
       refine zg 10 hf hS fun a hf => ?_
       refine zg 11 hf hS fun a hf => ?_
       obtain ⟨e3, he3, hGc16⟩ := bs_ hGc16
       obtain ⟨p4, o3, cs3, hx3, hr3, H⟩ := pre_iaddr H Tryz.underlying67 TF.sz54 8 rfl he3
       refine tPg 12 rfl rfl rfl rfl rfl rfl hf (by kernel_rfl) (fun _ => hS) (fun w => rq_iaddrE hf rfl rfl rfl hx3 w) fun a hf => ?_
       obtain ⟨A16, c18, rfl, hl13⟩ := Action_cells hr3
       have H := H.pF hl13
       refine zg 13 hf hS fun a hf => ?_
       refine zg 14 hf hS fun a hf => ?_
       refine strT (H.lt_ [false, true] [] [] [1, 3]) (fun w H => H.lt_ [true] [] [] [1]) fun hS => ?_
       refine tSg 15 [] rfl rfl rfl rfl rfl rfl hf (by kernel_rfl) (by kernel_rfl) hS (fun w H => rq_loadI hf H TF.ls3 0 1 rfl rfl rfl) fun a hf => ?_
       refine zg 19 hf hS fun a hf => ?_
       refine zg 20 hf hS fun a hf => ?_
       obtain ⟨e4, he4, hGc16⟩ := bs_ hGc16
       obtain ⟨p5, o4, cs4, hx4, hr4, H⟩ := pre_iaddr H Tryz.underlying67 TF.sz54 10 rfl he4
       refine tPg 21 rfl rfl rfl rfl rfl rfl hf (by kernel_rfl) (fun _ => hS) (fun w => rq_iaddrE hf rfl rfl rfl hx4 w) fun a hf => ?_
       obtain ⟨A17, c19, rfl, hl14⟩ := Action_cells hr4
       have H := H.pF hl14
       refine zg 22 hf hS fun a hf => ?_
       refine strT (H.lt_ [false, true] [] [] [1, 3, 5]) (fun w H => H.lt_ [true] [] [] [1, 2]) fun hS => ?_
       refine tSg 23 [] rfl rfl rfl rfl rfl rfl hf (by kernel_rfl) (by kernel_rfl) hS (fun w H => rq_loadIN hf H TF.la52 0 1 rfl rfl rfl rfl) fun a hf => ?_
       obtain ⟨y4, hy4, hGc16⟩ := bs_ hGc16
       refine n1g 16 (by kernel_rfl) rfl rfl rfl rfl hf (op_call hf TF.cl101 rfl (by decide) (spec_l9Find_ok (S := TT) (Plan_mkv (x := ({ Network := ({ Nodes := m, Fibers := m2 } : Network), Lights := m3 } : Plan)) (H.rt 11 rfl) (H.rt 10 rfl) (H.rt 9 rfl)) mk_int hy4) fun v6 w a hp7 hf => ?_)
       obtain ⟨hb4, hp7⟩ := hp7
       obtain rfl := VR_int hp7
       have H := H.keep hb4
       have hS := H.lt_ [false, true] [] [] [1, 3, 5]
       refine ⟨fun _ => hS, ?_⟩
       obtain ⟨e5, he5, hGc16⟩ := bs_ hGc16
       obtain ⟨p6, o5, cs5, hx5, hr5, H⟩ := pre_iaddr H Tryz.underlying43 TF.sz52 9 rfl he5
       refine tPg 17 rfl rfl rfl rfl rfl rfl hf (by kernel_rfl) (fun _ => hS) (fun w => rq_iaddrE hf rfl rfl rfl hx5 w) fun a hf => ?_
       obtain ⟨A18, c20, rfl, hl15⟩ := Light_cells hr5
       have H := H.pT hl15
       refine strT (H.lt_ [false, true] [] [] [1, 3, 5, 7]) (fun w H => H.lt_ [true] [] [] [1, 2, 3]) fun hS => ?_
       refine tSg 18 [] rfl rfl rfl rfl rfl rfl hf (by kernel_rfl) (by kernel_rfl) hS (fun w H => rq_loadIN hf H TF.la52 0 0 rfl rfl rfl rfl) fun a hf => ?_
       obtain ⟨y5, hy5, hGc16⟩ := bs_ hGc16
       refine n1g 24 (by kernel_rfl) rfl rfl rfl rfl hf (op_call hf TF.cl100 rfl (by decide) (spec_l9Collide_ok (S := TT) (Light_mkv (x := e5) (H.rt 0 rfl)) (Light_mkv (x := e4.Light) (H.rt 2 rfl)) hy5) fun v7 w a hp8 hf => ?_)
       obtain ⟨hb5, hp8⟩ := hp8
       obtain rfl := VR_bool hp8
       have H := H.keep hb5
       have hS := H.lt_ [false, true] [] [] [1, 3, 5, 7]
       refine ⟨fun _ => hS, ?_⟩
       refine zp 25 hf hS fun a hf => ?_
       refine dn (by kernel_rfl) ?_
       obtain rfl := oi hGc16
       have hf := hf.pn [62, 1, 6, 7, 8]
       have H := H.lt_ [true, true] [] [] [8, 9, 10, 11, 12, 13, 14]
       exact ⟨hf, H⟩
      ·have hf := hf.lit 43 rfl hc5
       refine zU 7 hf hS fun a hf => ?_
       refine zU 8 hf hS fun a hf => ?_
       refine zU 9 hf hS fun a hf => ?_
       refine zU 10 hf hS fun a hf => ?_
       refine zU 11 hf hS fun a hf => ?_
       refine zU 12 hf hS fun a hf => ?_
       refine zU 13 hf hS fun a hf => ?_
       refine zU 14 hf hS fun a hf => ?_
       refine zU 15 hf hS fun a hf => ?_
       refine zU 16 hf hS fun a hf => ?_
       refine zU 17 hf hS fun a hf => ?_
       refine zU 18 hf hS fun a hf => ?_
       refine zU 19 hf hS fun a hf => ?_
       refine zU 20 hf hS fun a hf => ?_
       refine zU 21 hf hS fun a hf => ?_
       refine zU 22 hf hS fun a hf => ?_
       refine zU 23 hf hS fun a hf => ?_
       refine zU 24 hf hS fun a hf => ?_
       refine zp 25 hf hS fun a hf => ?_
       refine dn (by kernel_rfl) ?_
       obtain rfl := oi hGc16
       have hf := hf.pn [62, 1, 6, 7, 8]
       have H := H.lt_ [true, true] [] [] [2, 3, 4, 5, 6, 7, 8]
       exact ⟨hf, H⟩
     refine then_n (ib hR1 hf (fun hc6 hR1 => ?_) fun hc6 hR1 => ?_)
     ·refine sqz (pz 2 hf fun a hf => ?_)
      refine wl_end (then_n (wp_ret (then_r (blk_r (then_r (then_r (blk_r (then_r (then_r (?_))))))))))
      obtain rfl := oi hR1
      replace hF := on_ret hF
      obtain rfl := oi hF
      refine ret_2 hf rfl (rv_tmp hf rfl) (rv_tmp hf rfl) ?_
      exact ⟨_, rfl, H.bel, _, _, rfl, mk_bool, mk_bool⟩
     ·refine wp_skip (then_n (reg (oq hf (rq_loadBN hf H TF.la45 0 rfl rfl rfl rfl) fun a hf => ?_)))
      refine sB 1 hf H TF.sz45 fun w H => ?_
      refine wl_end (blk_n (then_n (reg (pz 3 hf fun a hf => ?_))))
      refine wl_end ?_
      have hf := hf.pn [1, 6, 7]
      have H := H.lt_ [false, true] [] [] [0, 1, 2, 6]
      exact then_n ⟨(w64 (i + 1), y3.1.Network.Nodes, y3.1.Network.Fibers, y3.1.Lights), hR1, A12, c13, A13, c14, A14, c15, hf, H⟩
   ·refine wp_exit (then_x (then_x (blk_e (?_))))
    have hf := hf.pn [1, 6, 7]
    have H := H.lt_ [true] [] [] [0, 1, 2, 3]
    exact ⟨(i, m, m2, m3), (Option.some.inj hR1).symm, A8, c9, A9, c10, A10, c11, hf, H⟩
  rintro a w ⟨⟨i2, m4, m5, m6⟩, rfl, A19, c21, A20, c22, A21, c23, hf, H⟩
  replace hF := on_next hF
  try dsimp only at hF
  refine then_n (sqz (pz 2 hf fun a hf => ?_))
  refine wer ?_
  obtain rfl := oi hF
  refine ret_2 hf rfl (rv_tmp hf rfl) (rv_tmp hf rfl) ?_
  exact ⟨_, rfl, H.bel, _, _, rfl, mk_bool, mk_bool⟩
theorem laws_FnInverses_ok {S : Nat → Prop} {v0_ : Value} {code : List By} {r : Bool} (h0 : VR w0 S v0_ code) (hF : laws_FnInverses fu code = some r) :
    Calls Tryz.prog 8 [v0_].toArray w0 fun e w' => ∃ v, e = .returned v ∧ (Below w0.heap.size w0 w' ∧ VR w' (St ⟨w0, []⟩ S [] [] [] true) v r) := by
 obtain ⟨A, c, rfl, hl⟩ := VR_list h0
 have H := Mem.start ⟨w0, []⟩ S
 have H := H.pA hl
 refine en Tryz.func8 fun a hf => ?_
 rw [laws_FnInverses] at hF
 refine sqz (pz 1 hf fun a hf => ?_)
 refine wl_end (then_n (sq (sqz (pz 1 hf fun a hf => ?_))))
 obtain ⟨y, hy, hF⟩ := bs_ hF
 refine oc hf TF.cl40 (laws_vBig_ok (S := TT) (mk_list (H.rt 0 rfl)) hy) fun v w a hp hf => ?_
 obtain ⟨hb, hp⟩ := hp
 obtain rfl := VR_bool hp
 have H := H.keep hb
 refine wl_end (then_n (ib hF hf (fun hc hF => ?_) fun hc hF => ?_))
 ·refine sqz (pz 1 hf fun a hf => ?_)
  refine wl_end (then_n (wp_ret (then_r (?_))))
  obtain rfl := oi hF
  refine ret_1 hf rfl (rv_tmp hf rfl) ?_
  exact ⟨_, rfl, H.bel, mk_bool⟩
 ·refine wp_skip (then_n (sqz (pz 1 hf fun a hf => ?_)))
  obtain ⟨y2, hy2, hF⟩ := bs_ hF
  refine oc hf TF.cl41 (spec_DrawInverseAction_ok (S := TT) (mk_list (H.rt 0 rfl)) hy2) fun v2 w a hp2 hf => ?_
  obtain ⟨A2, c2, F, A3, c3, F2, A4, c4, A5, c5, F3, rfl, Hc⟩ := hp2
  have H := H.comp Hc (.inl rfl)
  have H := H.lend 0 rfl
  have H := H.lend 1 rfl
  have H := H.lend 2 rfl
  refine pz 3 hf fun a hf => ?_
  refine aL hf H TF.zv45 fun b' a w hf H => ?_
  refine aL hf H TF.zv54 fun b2 a w hf H => ?_
  refine sB 1 hf H TF.sz45 fun w H => ?_
  refine sB 0 hf H TF.sz54 fun w H => ?_
  refine wr (oq hf (rq_loadBN hf H TF.la45 1 rfl rfl rfl rfl) fun a hf => ?_)
  refine oq hf (rq_loadBN hf H TF.la54 0 rfl rfl rfl rfl) fun a hf => ?_
  obtain ⟨y3, hy3, hF⟩ := bs_ hF
  refine oc hf TF.cl23 (impl_InverseAction_ok (S := TT) (Plan_mkv (x := y2.1) (H.rt 2 rfl) (H.rt 1 rfl) (H.rt 3 rfl)) (Action_mkv (x := y2.2) (H.rt 0 rfl)) hy3) fun v3 w a hp3 hf => ?_
  obtain ⟨hb2, F4, v4, v5, rfl, hp4, hp5, hN⟩ := hp3
  obtain ⟨A6, c6, F5, rfl, rfl, hl2⟩ := Action_vo hp4
  obtain rfl := VR_bool hp5
  have H := H.aO1 hb2 hN hl2
  have H := H.lend 0 rfl
  refine pz 3 hf fun a hf => ?_
  refine aL hf H TF.zv54 fun b3 a w hf H => ?_
  refine sB 0 hf H TF.sz54 fun w H => ?_
  refine pz 1 hf fun a hf => ?_
  have hf := hf.pn [0, 3, 4, 5, 6]
  refine wr (oq hf (rq_loadBN hf H TF.la45 2 rfl rfl rfl rfl) fun a hf => ?_)
  refine oq hf (rq_loadBN hf H TF.la54 1 rfl rfl rfl rfl) fun a hf => ?_
  obtain ⟨y4, hy4, hF⟩ := bs_ hF
  refine oc hf TF.cl16 (impl_ApplyAction_ok (S := TT) (Plan_mkv (x := y2.1) (H.rt 3 rfl) (H.rt 2 rfl) (H.rt 4 rfl)) (Action_mkv (x := y2.2) (H.rt 1 rfl)) hy4) fun v6 w a hp6 hf => ?_
  obtain ⟨hb3, F6, v7, v8, rfl, hp7, hp8, hN2⟩ := hp6
  obtain ⟨A7, c7, F7, A8, c8, F8, A9, c9, F9, rfl, rfl, hl3, hl4, hl5⟩ := Plan_vo hp7
  obtain rfl := VR_bool hp8
  have H := H.aO3 hb3 hN2 hl3 hl4 hl5
  have H := H.lend 0 rfl
  have H := H.lend 1 rfl
  have H := H.lend 2 rfl
  refine pz 3 hf fun a hf => ?_
  refine aL hf H TF.zv45 fun b4 a w hf H => ?_
  refine sB 0 hf H TF.sz45 fun w H => ?_
  refine pz 1 hf fun a hf => ?_
  refine wl_end (then_n (sq (sq (reg (oq hf (rq_loadBN hf H TF.la45 3 rfl rfl rfl rfl) fun a hf => ?_)))))
  refine oq hf (rq_loadBN hf H TF.la54 2 rfl rfl rfl rfl) fun a hf => ?_
  obtain ⟨y5, hy5, hF⟩ := bs_ hF
  refine oc hf TF.cl13 (spec_ApplyAction_ok (S := TT) (Plan_mkv (x := y2.1) (H.rt 6 rfl) (H.rt 5 rfl) (H.rt 7 rfl)) (Action_mkv (x := y2.2) (H.rt 4 rfl)) hy5) fun v9 w a hp9 hf => ?_
  obtain ⟨hb4, v10, v11, rfl, hp10, hp11⟩ := hp9
  obtain ⟨A10, c10, A11, c11, A12, c12, rfl, hl6, hl7, hl8⟩ := Plan_open hp10
  obtain rfl := VR_bool hp11
  obtain ⟨F10, H⟩ := H.addRo hb4 (p := MP.and (MP.val [(.slice A10 y5.1.Network.Nodes.length c10)] (y5.1.Network.Nodes : List ByteArray)) (MP.and (MP.val [(.slice A11 y5.1.Network.Fibers.length c11)] (y5.1.Network.Fibers : List Fiber)) (MP.val [(.slice A12 y5.1.Lights.length c12)] (y5.1.Lights : List Light)))) ⟨hl6, ⟨hl7, hl8⟩⟩
  have H := H.lendQ 0 (q := MP.val [(.slice A10 y5.1.Network.Nodes.length c10)] (y5.1.Network.Nodes : List ByteArray)) rfl fun _ _ h => h.1
  have H := H.lendQ 0 (q := MP.val [(.slice A11 y5.1.Network.Fibers.length c11)] (y5.1.Network.Fibers : List Fiber)) rfl fun _ _ h => h.2.1
  have H := H.lendQ 0 (q := MP.val [(.slice A12 y5.1.Lights.length c12)] (y5.1.Lights : List Light)) rfl fun _ _ h => h.2.2
  refine pz 3 hf fun a hf => ?_
  refine aL hf H TF.zv45 fun b5 a w hf H => ?_
  refine sB 0 hf H TF.sz45 fun w H => ?_
  refine pz 1 hf fun a hf => ?_
  have hf := hf.pn [0, 3, 5, 6, 7, 8, 10]
  refine wl_end (then_n (sq ?_))
  obtain ⟨c13, hGc13, hF⟩ := bs_ hF
  have fh := hf.prune [0, 3, 5, 6, 7] rfl
  have Hm := H.lt_ [false, true, true, false, true] [] [false, true, true, true, true, true, true, false] [3, 4, 5, 6, 8, 9, 10, 11]
  refine midF 54 (.bool c13) fh Hm ?_ fun a w hf H => ?_
  ·refine reg (pz 4 hf fun a hf => ?_)
   refine iteB hGc13 (fun hc2 hGc13 => ?_) fun hc2 hGc13 => ?_
   ·have hf := hf.lit 50 rfl hc2
    refine pz 4 hf fun a hf => ?_
    obtain rfl := oi hGc13
    have hf := hf.pn [54, 0, 3, 5, 6, 7]
    have H := H.lt_ [false, true, true, false, true] [] [false, true, true, true, true, true, true, false] [3, 4, 5, 6, 8, 9, 10, 11]
    exact wl_end ⟨hf, H⟩
   ·have hf := hf.lit 50 rfl hc2
    refine pz 4 hf fun a hf => ?_
    obtain rfl := oi hGc13
    have hf := hf.pn [54, 0, 3, 5, 6, 7]
    have H := H.lt_ [false, true, true, false, true] [] [false, true, true, true, true, true, true, false] [3, 4, 5, 6, 8, 9, 10, 11]
    exact wl_end ⟨hf, H⟩
  refine then_n (ib hF hf (fun hc3 hF => ?_) fun hc3 hF => ?_)
  ·refine sqz (pz 1 hf fun a hf => ?_)
   refine wl_end (then_n (wp_ret (then_r (?_))))
   obtain rfl := oi hF
   refine ret_1 hf rfl (rv_tmp hf rfl) ?_
   exact ⟨_, rfl, H.bel, mk_bool⟩
  ·refine wp_skip (then_n (sq (sqz (pz 1 hf fun a hf => ?_))))
   refine wl_end (then_n (ib hF hf (fun hc4 hF => ?_) fun hc4 hF => ?_))
   ·refine sq (reg (oq hf (rq_loadBN hf H TF.la45 0 rfl rfl rfl rfl) fun a hf => ?_))
    refine oq hf (rq_loadBN hf H TF.la54 1 rfl rfl rfl rfl) fun a hf => ?_
    obtain ⟨y6, hy6, hF⟩ := bs_ hF
    refine oc hf TF.cl16 (impl_ApplyAction_ok (S := TT) (Plan_mkv (x := y4.1) (H.rt 2 rfl) (H.rt 1 rfl) (H.rt 0 rfl)) (Action_mkv (x := y3.1) (H.rt 3 rfl)) hy6) fun v12 w a hp12 hf => ?_
    obtain ⟨hb5, F11, v13, v14, rfl, hp13, hp14, hN3⟩ := hp12
    obtain ⟨A13, c14, F12, A14, c15, F13, A15, c16, F14, rfl, rfl, hl9, hl10, hl11⟩ := Plan_vo hp13
    obtain rfl := VR_bool hp14
    have H := H.aO3 hb5 hN3 hl9 hl10 hl11
    have H := H.lend 0 rfl
    have H := H.lend 1 rfl
    have H := H.lend 2 rfl
    refine pz 3 hf fun a hf => ?_
    refine aL hf H TF.zv45 fun b6 a w hf H => ?_
    refine sB 0 hf H TF.sz45 fun w H => ?_
    refine pz 1 hf fun a hf => ?_
    refine wl_end (then_n (sq ?_))
    obtain ⟨c17, hGc17, hF⟩ := bs_ hF
    have fh2 := hf.prune [0] rfl
    have Hm2 := H.lt_ [false, false, false, false] [] [false, false, false, false, false, false, false, false, false] [10]
    refine midF 69 (.bool c17) fh2 Hm2 ?_ fun a w hf H => ?_
    ·refine reg (pz 3 hf fun a hf => ?_)
     refine iteB hGc17 (fun hc5 hGc17 => ?_) fun hc5 hGc17 => ?_
     ·have hf := hf.lit 64 rfl hc5
      refine pz 5 hf fun a hf => ?_
      obtain rfl := oi hGc17
      have hf := hf.pn [69, 0]
      have H := H.lt_ [false, false, false, false] [] [false, false, false, false, false, false, false, false, false] [10]
      exact wl_end ⟨hf, H⟩
     ·have hf := hf.lit 64 rfl hc5
      refine wlg hf rfl rfl rfl (op_q hf (rq_loadBN hf H TF.la45 0 rfl rfl rfl rfl) rfl (by decide) fun a hf => ?_)
      refine wlg hf rfl rfl rfl (op_q hf (rq_loadBN hf H TF.la45 3 rfl rfl rfl rfl) rfl (by decide) fun a hf => ?_)
      obtain ⟨y7, hy7, hGc17⟩ := bs_ hGc17
      refine wlg hf rfl rfl rfl (op_call hf TF.cl42 rfl (by decide) (laws_vPlans_ok (S := TT) (Plan_mkv (x := y6.1) (H.rt 2 rfl) (H.rt 1 rfl) (H.rt 0 rfl)) (Plan_mkv (x := y2.1) (H.rt 8 rfl) (H.rt 7 rfl) (H.rt 9 rfl)) hy7) fun v15 w a hp15 hf => ?_)
      obtain ⟨hb6, hp15⟩ := hp15
      obtain rfl := VR_bool hp15
      have H := H.keep hb6
      refine pz 2 hf fun a hf => ?_
      obtain rfl := oi hGc17
      have hf := hf.pn [69, 0]
      have H := H.lt_ [false, false, false, false] [] [false, false, false, false, false, false, false, false, false] [10]
      exact wl_end ⟨hf, H⟩
    refine then_n (ib hF hf (fun hc6 hF => ?_) fun hc6 hF => ?_)
    ·refine sqz (pz 1 hf fun a hf => ?_)
     refine wl_end (then_n (wp_ret (then_r (?_))))
     obtain rfl := oi hF
     refine ret_1 hf rfl (rv_tmp hf rfl) ?_
     exact ⟨_, rfl, H.bel, mk_bool⟩
    ·refine wp_skip (then_n (sqz (pz 1 hf fun a hf => ?_)))
     obtain ⟨y8, hy8, hF⟩ := bs_ hF
     refine oc hf TF.cl43 (spec_DrawIsHitless_ok (S := TT) (mk_list (H.rt 0 rfl)) hy8) fun v16 w a hp16 hf => ?_
     obtain ⟨A16, c18, F15, A17, c19, F16, A18, c20, A19, c21, F17, rfl, Hc2⟩ := hp16
     have H := H.comp Hc2 (.inl rfl)
     have H := H.lend 0 rfl
     have H := H.lend 1 rfl
     have H := H.lend 2 rfl
     refine pz 3 hf fun a hf => ?_
     refine aL hf H TF.zv45 fun b7 a w hf H => ?_
     refine sB 0 hf H TF.sz45 fun w H => ?_
     refine pz 1 hf fun a hf => ?_
     refine wr (oq hf (rq_loadBN hf H TF.la45 0 rfl rfl rfl rfl) fun a hf => ?_)
     refine pz 1 hf fun a hf => ?_
     obtain ⟨y9, hy9, hF⟩ := bs_ hF
     refine oc hf TF.cl44 (impl_IsHitless_ok (S := TT) (Plan_mkv (x := y8.1) (H.rt 2 rfl) (H.rt 1 rfl) (H.rt 3 rfl)) (mk_list (H.rt 0 rfl)) hy9) fun v17 w a hp17 hf => ?_
     obtain ⟨hb7, v18, v19, rfl, hp18, hp19⟩ := hp17
     obtain rfl := VR_bool hp18
     obtain rfl := VR_bool hp19
     have H := H.keep hb7
     refine pz 5 hf fun a hf => ?_
     have hf := hf.pn [13, 14, 15, 16]
     refine wl_end (then_n (sq (sq (reg (oq hf (rq_loadBN hf H TF.la45 0 rfl rfl rfl rfl) fun a hf => ?_)))))
     refine pz 1 hf fun a hf => ?_
     obtain ⟨y10, hy10, hF⟩ := bs_ hF
     refine oc hf TF.cl45 (spec_IsHitless_ok (S := TT) (Plan_mkv (x := y8.1) (H.rt 2 rfl) (H.rt 1 rfl) (H.rt 3 rfl)) (mk_list (H.rt 0 rfl)) hy10) fun v20 w a hp20 hf => ?_
     obtain ⟨hb8, v21, v22, rfl, hp21, hp22⟩ := hp20
     obtain rfl := VR_bool hp21
     obtain rfl := VR_bool hp22
     have H := H.keep hb8
     refine pz 5 hf fun a hf => ?_
     refine wl_end (then_n (sq ?_))
     obtain ⟨c22, hGc22, hF⟩ := bs_ hF
     have fh3 := hf.prune [13, 14, 15] rfl
     have Hm3 := H.lt_ [true] [] [true, true, true] [0, 1, 2, 3]
     refine midF 94 (.bool c22) fh3 Hm3 ?_ fun a w hf H => ?_
     ·refine reg (pz 4 hf fun a hf => ?_)
      refine iteB hGc22 (fun hc7 hGc22 => ?_) fun hc7 hGc22 => ?_
      ·have hf := hf.lit 90 rfl hc7
       refine pz 4 hf fun a hf => ?_
       obtain rfl := oi hGc22
       have hf := hf.pn [94, 13, 14, 15]
       have H := H.lt_ [true] [] [true, true, true] [0, 1, 2, 3]
       exact wl_end ⟨hf, H⟩
      ·have hf := hf.lit 90 rfl hc7
       refine pz 4 hf fun a hf => ?_
       obtain rfl := oi hGc22
       have hf := hf.pn [94, 13, 14, 15]
       have H := H.lt_ [true] [] [true, true, true] [0, 1, 2, 3]
       exact wl_end ⟨hf, H⟩
     refine then_n (ib hF hf (fun hc8 hF => ?_) fun hc8 hF => ?_)
     ·refine sqz (pz 1 hf fun a hf => ?_)
      refine wl_end (then_n (wp_ret (then_r (?_))))
      obtain rfl := oi hF
      refine ret_1 hf rfl (rv_tmp hf rfl) ?_
      exact ⟨_, rfl, H.bel, mk_bool⟩
     ·refine wp_skip (then_n (sq (reg (oq hf (rq_loadBN hf H TF.la45 0 rfl rfl rfl rfl) fun a hf => ?_))))
      refine pz 1 hf fun a hf => ?_
      obtain ⟨y11, hy11, hF⟩ := bs_ hF
      refine oc hf TF.cl28 (impl_ApplyActions_ok (S := TT) (Plan_mkv (x := y8.1) (H.rt 2 rfl) (H.rt 1 rfl) (H.rt 3 rfl)) (mk_list (H.rt 0 rfl)) hy11) fun v23 w a hp23 hf => ?_
      obtain ⟨hb9, F18, v24, v25, v26, rfl, hp24, hp25, hp26, hN4⟩ := hp23
      obtain ⟨A20, c23, F19, A21, c24, F20, A22, c25, F21, rfl, rfl, hl12, hl13, hl14⟩ := Plan_vo hp24
      obtain rfl := VR_int hp25
      obtain rfl := VR_bool hp26
      have H := H.aO3 hb9 hN4 hl12 hl13 hl14
      have H := H.lend 0 rfl
      have H := H.lend 1 rfl
      have H := H.lend 2 rfl
      refine pz 4 hf fun a hf => ?_
      refine aL hf H TF.zv45 fun b8 a w hf H => ?_
      refine sB 0 hf H TF.sz45 fun w H => ?_
      refine pz 2 hf fun a hf => ?_
      refine wl_end (then_n (sq ?_))
      obtain ⟨c26, hGc26, hF⟩ := bs_ hF
      have fh4 := hf.prune [] rfl
      have Hm4 := H.lt_ [false, false] [] [false, false, false, false, false, false] []
      refine midF 2 (.bool c26) fh4 Hm4 ?_ fun a w hf H => ?_
      ·refine reg (pz 3 hf fun a hf => ?_)
       refine iteB hGc26 (fun hc9 hGc26 => ?_) fun hc9 hGc26 => ?_
       ·have hf := hf.lit 104 rfl hc9
        refine pz 2 hf fun a hf => ?_
        refine wlsu hf rfl rfl rfl rfl (by decide) fun a hf => ?_
        refine wlsu hf rfl rfl rfl rfl (by decide) fun a hf => ?_
        refine wlsu hf rfl rfl rfl rfl (by decide) fun a hf => ?_
        refine wlsu hf rfl rfl rfl rfl (by decide) fun a hf => ?_
        refine pz 3 hf fun a hf => ?_
        obtain rfl := oi hGc26
        have hf := hf.pn [2]
        have H := H.lt_ [false, false] [] [false, false, false, false, false, false] []
        exact wl_end ⟨hf, H⟩
       ·have hf := hf.lit 104 rfl hc9
        refine pz 2 hf fun a hf => ?_
        refine iteB hGc26 (fun hc10 hGc26 => ?_) fun hc10 hGc26 => ?_
        ·have hf := hf.lit 106 rfl hc10
         refine pz 7 hf fun a hf => ?_
         obtain rfl := oi hGc26
         have hf := hf.pn [2]
         have H := H.lt_ [false, false] [] [false, false, false, false, false, false] []
         exact wl_end ⟨hf, H⟩
        ·have hf := hf.lit 106 rfl hc10
         refine pz 7 hf fun a hf => ?_
         obtain rfl := oi hGc26
         have hf := hf.pn [2]
         have H := H.lt_ [false, false] [] [false, false, false, false, false, false] []
         exact wl_end ⟨hf, H⟩
      refine then_n (wp_ret (?_))
      obtain rfl := oi hF
      refine ret_1 hf rfl (rv_tmp hf rfl) ?_
      exact ⟨_, rfl, H.bel, mk_bool⟩
   ·refine wp_skip (then_n (sqz (pz 1 hf fun a hf => ?_)))
    obtain ⟨y12, hy12, hF⟩ := bs_ hF
    refine oc hf TF.cl43 (spec_DrawIsHitless_ok (S := TT) (mk_list (H.rt 7 rfl)) hy12) fun v27 w a hp27 hf => ?_
    obtain ⟨A23, c27, F22, A24, c28, F23, A25, c29, A26, c30, F24, rfl, Hc3⟩ := hp27
    have H := H.comp Hc3 (.inl rfl)
    have H := H.lend 0 rfl
    have H := H.lend 1 rfl
    have H := H.lend 2 rfl
    refine pz 3 hf fun a hf => ?_
    refine aL hf H TF.zv45 fun b9 a w hf H => ?_
    refine sB 0 hf H TF.sz45 fun w H => ?_
    refine pz 1 hf fun a hf => ?_
    refine wr (oq hf (rq_loadBN hf H TF.la45 0 rfl rfl rfl rfl) fun a hf => ?_)
    refine pz 1 hf fun a hf => ?_
    obtain ⟨y13, hy13, hF⟩ := bs_ hF
    refine oc hf TF.cl44 (impl_IsHitless_ok (S := TT) (Plan_mkv (x := y12.1) (H.rt 2 rfl) (H.rt 1 rfl) (H.rt 3 rfl)) (mk_list (H.rt 0 rfl)) hy13) fun v28 w a hp28 hf => ?_
    obtain ⟨hb10, v29, v30, rfl, hp29, hp30⟩ := hp28
    obtain rfl := VR_bool hp29
    obtain rfl := VR_bool hp30
    have H := H.keep hb10
    refine pz 5 hf fun a hf => ?_
    have hf := hf.pn [13, 14, 15, 16]
    refine wl_end (then_n (sq (sq (reg (oq hf (rq_loadBN hf H TF.la45 0 rfl rfl rfl rfl) fun a hf => ?_)))))
    refine pz 1 hf fun a hf => ?_
    obtain ⟨y14, hy14, hF⟩ := bs_ hF
    refine oc hf TF.cl45 (spec_IsHitless_ok (S := TT) (Plan_mkv (x := y12.1) (H.rt 2 rfl) (H.rt 1 rfl) (H.rt 3 rfl)) (mk_list (H.rt 0 rfl)) hy14) fun v31 w a hp31 hf => ?_
    obtain ⟨hb11, v32, v33, rfl, hp32, hp33⟩ := hp31
    obtain rfl := VR_bool hp32
    obtain rfl := VR_bool hp33
    have H := H.keep hb11
    refine pz 5 hf fun a hf => ?_
    refine wl_end (then_n (sq ?_))
    obtain ⟨c31, hGc31, hF⟩ := bs_ hF
    have fh5 := hf.prune [13, 14, 15] rfl
    have Hm5 := H.lt_ [true, false, false, false] [] [true, true, true, false, false, false, false, false, false] [0, 1, 2, 3]
    refine midF 94 (.bool c31) fh5 Hm5 ?_ fun a w hf H => ?_
    ·refine reg (pz 4 hf fun a hf => ?_)
     refine iteB hGc31 (fun hc11 hGc31 => ?_) fun hc11 hGc31 => ?_
     ·have hf := hf.lit 90 rfl hc11
      refine pz 4 hf fun a hf => ?_
      obtain rfl := oi hGc31
      have hf := hf.pn [94, 13, 14, 15]
      have H := H.lt_ [true, false, false, false] [] [true, true, true, false, false, false, false, false, false] [0, 1, 2, 3]
      exact wl_end ⟨hf, H⟩
     ·have hf := hf.lit 90 rfl hc11
      refine pz 4 hf fun a hf => ?_
      obtain rfl := oi hGc31
      have hf := hf.pn [94, 13, 14, 15]
      have H := H.lt_ [true, false, false, false] [] [true, true, true, false, false, false, false, false, false] [0, 1, 2, 3]
      exact wl_end ⟨hf, H⟩
    refine then_n (ib hF hf (fun hc12 hF => ?_) fun hc12 hF => ?_)
    ·refine sqz (pz 1 hf fun a hf => ?_)
     refine wl_end (then_n (wp_ret (then_r (?_))))
     obtain rfl := oi hF
     refine ret_1 hf rfl (rv_tmp hf rfl) ?_
     exact ⟨_, rfl, H.bel, mk_bool⟩
    ·refine wp_skip (then_n (sq (reg (oq hf (rq_loadBN hf H TF.la45 0 rfl rfl rfl rfl) fun a hf => ?_))))
     refine pz 1 hf fun a hf => ?_
     obtain ⟨y15, hy15, hF⟩ := bs_ hF
     refine oc hf TF.cl28 (impl_ApplyActions_ok (S := TT) (Plan_mkv (x := y12.1) (H.rt 2 rfl) (H.rt 1 rfl) (H.rt 3 rfl)) (mk_list (H.rt 0 rfl)) hy15) fun v34 w a hp34 hf => ?_
     obtain ⟨hb12, F25, v35, v36, v37, rfl, hp35, hp36, hp37, hN5⟩ := hp34
     obtain ⟨A27, c32, F26, A28, c33, F27, A29, c34, F28, rfl, rfl, hl15, hl16, hl17⟩ := Plan_vo hp35
     obtain rfl := VR_int hp36
     obtain rfl := VR_bool hp37
     have H := H.aO3 hb12 hN5 hl15 hl16 hl17
     have H := H.lend 0 rfl
     have H := H.lend 1 rfl
     have H := H.lend 2 rfl
     refine pz 4 hf fun a hf => ?_
     refine aL hf H TF.zv45 fun b10 a w hf H => ?_
     refine sB 0 hf H TF.sz45 fun w H => ?_
     refine pz 2 hf fun a hf => ?_
     refine wl_end (then_n (sq ?_))
     obtain ⟨c35, hGc35, hF⟩ := bs_ hF
     have fh6 := hf.prune [] rfl
     have Hm6 := H.lt_ [false, false] [] [false, false, false, false, false, false] []
     refine midF 2 (.bool c35) fh6 Hm6 ?_ fun a w hf H => ?_
     ·refine reg (pz 3 hf fun a hf => ?_)
      refine iteB hGc35 (fun hc13 hGc35 => ?_) fun hc13 hGc35 => ?_
      ·have hf := hf.lit 104 rfl hc13
       refine pz 2 hf fun a hf => ?_
       refine wlsu hf rfl rfl rfl rfl (by decide) fun a hf => ?_
       refine wlsu hf rfl rfl rfl rfl (by decide) fun a hf => ?_
       refine wlsu hf rfl rfl rfl rfl (by decide) fun a hf => ?_
       refine wlsu hf rfl rfl rfl rfl (by decide) fun a hf => ?_
       refine pz 3 hf fun a hf => ?_
       obtain rfl := oi hGc35
       have hf := hf.pn [2]
       have H := H.lt_ [false, false] [] [false, false, false, false, false, false] []
       exact wl_end ⟨hf, H⟩
      ·have hf := hf.lit 104 rfl hc13
       refine pz 2 hf fun a hf => ?_
       refine iteB hGc35 (fun hc14 hGc35 => ?_) fun hc14 hGc35 => ?_
       ·have hf := hf.lit 106 rfl hc14
        refine pz 7 hf fun a hf => ?_
        obtain rfl := oi hGc35
        have hf := hf.pn [2]
        have H := H.lt_ [false, false] [] [false, false, false, false, false, false] []
        exact wl_end ⟨hf, H⟩
       ·have hf := hf.lit 106 rfl hc14
        refine pz 7 hf fun a hf => ?_
        obtain rfl := oi hGc35
        have hf := hf.pn [2]
        have H := H.lt_ [false, false] [] [false, false, false, false, false, false] []
        exact wl_end ⟨hf, H⟩
     refine then_n (wp_ret (?_))
     obtain rfl := oi hF
     refine ret_1 hf rfl (rv_tmp hf rfl) ?_
     exact ⟨_, rfl, H.bel, mk_bool⟩
end AT
