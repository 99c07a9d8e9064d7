/- The Go functions do what is told of them, by program (gen.py). -/
import Derived.Test.YtokhhjepjbhhpaaGreatW1
set_option linter.unusedVariables false
set_option linter.unusedSimpArgs false
set_option maxRecDepth 100000
namespace AT
open Go Go.RowKit Go.Proofs

/- loop.example/g00897/laws.eqPlan -/
set_option maxHeartbeats 1000000 in
theorem laws_eqPlan_ok {fu : Nat} {w0 : World} {S : Nat → Prop} {v0_ : Value} {v1_ : Value} {a' : Plan} {b' : Plan} {r : Bool} (h0 : VR w0 S v0_ a') (h1 : VR w0 S v1_ b') (hF : laws_eqPlan fu a' b' = some r) :
    Calls Tryz.prog 19 [v0_, v1_].toArray w0 fun e w' => ∃ v, e = .returned v ∧ (Below w0.heap.size w0 w' ∧ VR w' (St ⟨w0, []⟩ S [] [] [] true) v r) := by
 obtain ⟨A, c, A2, c2, A3, c3, rfl, hl, hl2, hl3⟩ := Plan_open h0
 obtain ⟨A4, c4, A5, c5, A6, c6, rfl, hl4, hl5, hl6⟩ := Plan_open h1
 have H := Mem.start ⟨w0, []⟩ S
 have H := H.pushArg (MP.val [(.slice A a'.Network.Nodes.length c)] a'.Network.Nodes) hl
 have H := H.pushArg (MP.val [(.slice A2 a'.Network.Fibers.length c2)] a'.Network.Fibers) hl2
 have H := H.pushArg (MP.val [(.slice A3 a'.Lights.length c3)] a'.Lights) hl3
 have H := H.pushArg (MP.val [(.slice A4 b'.Network.Nodes.length c4)] b'.Network.Nodes) hl4
 have H := H.pushArg (MP.val [(.slice A5 b'.Network.Fibers.length c5)] b'.Network.Fibers) hl5
 have H := H.pushArg (MP.val [(.slice A6 b'.Lights.length c6)] b'.Lights) hl6
 refine enter Tryz.func19 rfl rfl (nle rfl) rfl fun a hf => ?_
 rw [laws_eqPlan] at hF
 refine sq (reg (wl0 rfl (op_box hf H rfl rfl (by decide) fun b2 a w hf H => ?_)))
 refine wl0 rfl (op_box hf H rfl rfl (by decide) fun b3 a w hf H => ?_)
 refine pr 1 hf rfl rfl fun a hf => ?_
 refine wl_end (then_n (sq (sq (reg (pr 1 hf rfl rfl fun a hf => ?_)))))
 refine wl0 rfl (op_q hf (rq_loadBN hf H TF.la34 1 rfl rfl rfl rfl) rfl (by decide) fun a hf => ?_)
 refine pr 1 hf rfl rfl fun a hf => ?_
 refine wl0 rfl (op_q hf (rq_loadBN hf H TF.la34 0 rfl rfl rfl rfl) rfl (by decide) fun a hf => ?_)
 obtain ⟨y, hy, hF⟩ := bind_some hF
 refine wl0 rfl (op_call hf TF.cl69 rfl (by decide) (laws_eqNetwork_ok (S := fun _ => True) (Network_mkv (x := a'.Network) (rep_true (α := List ByteArray) (H.get 5 rfl)) (rep_true (α := List Fiber) (H.get 4 rfl))) (Network_mkv (x := b'.Network) (rep_true (α := List ByteArray) (H.get 2 rfl)) (rep_true (α := List Fiber) (H.get 1 rfl))) hy) fun v w a hp hf => ?_)
 obtain ⟨hb, hp⟩ := hp
 obtain rfl := VR_bool hp
 have H := H.keep hb
 refine pr 1 hf rfl rfl fun a hf => ?_
 refine wl_end (then_n (iteB hF (fun hc hF => cd_t hf rfl hc ?_) fun hc hF => cd_f hf rfl hc ?_))
 ·refine sq (reg (pr 1 hf rfl rfl fun a hf => ?_))
  refine wl_end (then_n (wp_ret (then_r (?_))))
  obtain rfl := Option.some.inj hF
  refine ret_1 (fn := Tryz.f19) (r := .tmp 4) hf rfl (rv_tmp hf rfl) ?_
  exact ⟨_, rfl, H.bel, mk_bool⟩
 ·refine wp_skip (then_n (sq (sq (reg (pr 1 hf rfl rfl fun a hf => ?_)))))
  refine wl0 rfl (op_q hf (rq_loadB hf H TF.ls35 1 rfl rfl rfl) rfl (by decide) fun a hf => ?_)
  refine pr 1 hf rfl rfl fun a hf => ?_
  refine wl0 rfl (op_q hf (rq_loadB hf H TF.ls35 0 rfl rfl rfl) rfl (by decide) fun a hf => ?_)
  obtain ⟨y2, hy2, hF⟩ := bind_some hF
  refine wl0 rfl (op_call hf TF.cl70 rfl (by decide) (laws_eqLightS_ok (S := fun _ => True) (mk_list (rep_true (α := List Light) (H.get 3 rfl))) (mk_list (rep_true (α := List Light) (H.get 0 rfl))) hy2) fun v2 w a hp2 hf => ?_)
  obtain ⟨hb2, hp2⟩ := hp2
  obtain rfl := VR_bool hp2
  have H := H.keep hb2
  refine pr 1 hf rfl rfl fun a hf => ?_
  have hf := hf.prune [16] rfl
  refine wl_end (then_n (iteB hF (fun hc2 hF => cd_t hf rfl hc2 ?_) fun hc2 hF => cd_f hf rfl hc2 ?_))
  ·refine sq (reg (pr 1 hf rfl rfl fun a hf => ?_))
   refine wl_end (then_n (wp_ret (then_r (?_))))
   obtain rfl := Option.some.inj hF
   refine ret_1 (fn := Tryz.f19) (r := .tmp 4) hf rfl (rv_tmp hf rfl) ?_
   exact ⟨_, rfl, H.bel, mk_bool⟩
  ·refine wp_skip (then_n (sq (reg (pr 1 hf rfl rfl fun a hf => ?_))))
   refine wl_end (then_n (wp_ret (?_)))
   obtain rfl := Option.some.inj hF
   refine ret_1 (fn := Tryz.f19) (r := .tmp 4) hf rfl (rv_tmp hf rfl) ?_
   exact ⟨_, rfl, H.bel, mk_bool⟩

/- loop.example/g00897/laws.FnExactLowestFirst -/
set_option maxHeartbeats 1000000 in
theorem laws_FnExactLowestFirst_ok {fu : Nat} {w0 : World} {S : Nat → Prop} {v0_ : Value} {v1_ : Value} {v2_ : Value} {aP : Plan} {aId : Int} {aHitless : Bool} {r : Bool} (h0 : VR w0 S v0_ aP) (h1 : VR w0 S v1_ aId) (h2 : VR w0 S v2_ aHitless) (hF : laws_FnExactLowestFirst fu aP aId aHitless = some r) :
    Calls Tryz.prog 3 [v0_, v1_, v2_].toArray w0 fun e w' => ∃ v, e = .returned v ∧ (Below w0.heap.size w0 w' ∧ VR w' (St ⟨w0, []⟩ S [] [] [] true) v r) := by
 obtain ⟨A, c, A2, c2, A3, c3, rfl, hl, hl2, hl3⟩ := Plan_open h0
 obtain rfl := VR_int h1
 obtain rfl := VR_bool h2
 have H := Mem.start ⟨w0, []⟩ S
 have H := H.pushArg (MP.val [(.slice A aP.Network.Nodes.length c)] aP.Network.Nodes) hl
 have H := H.pushArg (MP.val [(.slice A2 aP.Network.Fibers.length c2)] aP.Network.Fibers) hl2
 have H := H.pushArg (MP.val [(.slice A3 aP.Lights.length c3)] aP.Lights) hl3
 refine enter Tryz.func3 rfl rfl (nle rfl) rfl fun a hf => ?_
 rw [laws_FnExactLowestFirst] at hF
 refine sq (reg (wl0 rfl (op_box hf H rfl rfl (by decide) fun b' a w hf H => ?_)))
 refine pr 1 hf rfl rfl fun a hf => ?_
 refine wl_end (then_n (sq (reg (pr 1 hf rfl rfl fun a hf => ?_))))
 refine wl_end (then_n (sq (reg (wl0 rfl (op_q hf (rq_loadBN hf H TF.la28 0 rfl rfl rfl rfl) rfl (by decide) fun a hf => ?_)))))
 refine pr 1 hf rfl rfl fun a hf => ?_
 obtain ⟨y, hy, hF⟩ := bind_some hF
 refine wl0 rfl (op_call hf TF.cl15 rfl (by decide) (laws_szPlan_ok (S := fun _ => True) (Plan_mkv (x := aP) (rep_true (α := List ByteArray) (H.get 2 rfl)) (rep_true (α := List Fiber) (H.get 1 rfl)) (rep_true (α := List Light) (H.get 0 rfl))) mk_int hy) fun v w a hp hf => ?_)
 obtain ⟨hb, hp⟩ := hp
 obtain rfl := VR_int hp
 have H := H.keep hb
 refine pr 1 hf rfl rfl fun a hf => ?_
 refine wl_end (then_n (sq (sq (reg (pr 2 hf rfl rfl fun a hf => ?_)))))
 refine wl_end (then_n (iteB hF (fun hc hF => cd_t hf rfl hc ?_) fun hc hF => cd_f hf rfl hc ?_))
 ·refine sq (reg (pr 1 hf rfl rfl fun a hf => ?_))
  refine wl_end (then_n (wp_ret (then_r (?_))))
  obtain rfl := Option.some.inj hF
  refine ret_1 (fn := Tryz.f3) (r := .tmp 6) hf rfl (rv_tmp hf rfl) ?_
  exact ⟨_, rfl, H.bel, mk_bool⟩
 ·refine wp_skip (then_n (sq (reg (wl0 rfl (op_q hf (rq_loadBN hf H TF.la28 0 rfl rfl rfl rfl) rfl (by decide) fun a hf => ?_)))))
  obtain ⟨y2, hy2, hF⟩ := bind_some hF
  refine wl0 rfl (op_call hf TF.cl17 rfl (by decide) (laws_toPlan_ok (S := fun _ => True) (Plan_mkv (x := aP) (rep_true (α := List ByteArray) (H.get 2 rfl)) (rep_true (α := List Fiber) (H.get 1 rfl)) (rep_true (α := List Light) (H.get 0 rfl))) hy2) fun v2 w a hp2 hf => ?_)
  obtain ⟨hb2, F, hp3, hN⟩ := hp2
  obtain ⟨A4, c4, F2, A5, c5, F3, A6, c6, F4, rfl, rfl, hl4, hl5, hl6⟩ := Plan_vo hp3
  have H := H.addOwn hb2 (X := [(⟨F2, MP.own F2 [(.slice A4 y2.Network.Nodes.length c4)] (y2.Network.Nodes : List ByteArray)⟩ : DI), (⟨F3, MP.own F3 [(.slice A5 y2.Network.Fibers.length c5)] (y2.Network.Fibers : List Fiber)⟩ : DI), (⟨F4, MP.own F4 [(.slice A6 y2.Lights.length c6)] (y2.Lights : List Light)⟩ : DI)]) (by simpa using hN.1) (ps1 hl4 (ps1 hl5 (ps1 hl6 ps0))) (by simpa using hN.2)
  have H := H.lend 0 rfl
  have H := H.lend 1 rfl
  have H := H.lend 2 rfl
  refine pr 2 hf rfl rfl fun a hf => ?_
  obtain ⟨y3, hy3, hF⟩ := bind_some hF
  refine wl0 rfl (op_call hf TF.cl16 rfl (by decide) (spec_LowestFirst_ok (S := fun _ => True) (Plan_mkv (x := y2) (rep_true (α := List ByteArray) (H.get 2 rfl)) (rep_true (α := List Fiber) (H.get 1 rfl)) (rep_true (α := List Light) (H.get 0 rfl))) mk_int mk_bool hy3) fun v3 w a hp4 hf => ?_)
  obtain ⟨hb3, v4, v5, rfl, hp5, hp6⟩ := hp4
  obtain rfl := VR_int hp5
  obtain rfl := VR_bool hp6
  have H := H.keep hb3
  refine pr 5 hf rfl rfl fun a hf => ?_
  have hf := hf.prune [1, 2, 3, 8, 9] rfl
  refine wl_end (then_n (sq (reg (wl0 rfl (op_q hf (rq_loadBN hf H TF.la28 0 rfl rfl rfl rfl) rfl (by decide) fun a hf => ?_)))))
  obtain ⟨y4, hy4, hF⟩ := bind_some hF
  refine wl0 rfl (op_call hf TF.cl17 rfl (by decide) (laws_toPlan_ok (S := fun _ => True) (Plan_mkv (x := aP) (rep_true (α := List ByteArray) (H.get 5 rfl)) (rep_true (α := List Fiber) (H.get 4 rfl)) (rep_true (α := List Light) (H.get 3 rfl))) hy4) fun v6 w a hp7 hf => ?_)
  obtain ⟨hb4, F5, hp8, hN2⟩ := hp7
  obtain ⟨A7, c7, F6, A8, c8, F7, A9, c9, F8, rfl, rfl, hl7, hl8, hl9⟩ := Plan_vo hp8
  have H := H.addOwn hb4 (X := [(⟨F6, MP.own F6 [(.slice A7 y4.Network.Nodes.length c7)] (y4.Network.Nodes : List ByteArray)⟩ : DI), (⟨F7, MP.own F7 [(.slice A8 y4.Network.Fibers.length c8)] (y4.Network.Fibers : List Fiber)⟩ : DI), (⟨F8, MP.own F8 [(.slice A9 y4.Lights.length c9)] (y4.Lights : List Light)⟩ : DI)]) (by simpa using hN2.1) (ps1 hl7 (ps1 hl8 (ps1 hl9 ps0))) (by simpa using hN2.2)
  have H := H.lend 0 rfl
  have H := H.lend 1 rfl
  have H := H.lend 2 rfl
  refine wl0 rfl (op_alloc hf H TF.zv37 rfl (by decide) fun b2 a w hf H => ?_)
  refine wl0 rfl (op_storeB hf H 0 TF.sz37 rfl rfl rfl rfl rfl rfl (nle rfl) fun w H => ?_)
  refine wl_end (then_n (sq (reg (wl0 rfl (op_q hf (rq_loadBN hf H TF.la37 0 rfl rfl rfl rfl) rfl (by decide) fun a hf => ?_)))))
  refine pr 2 hf rfl rfl fun a hf => ?_
  obtain ⟨y5, hy5, hF⟩ := bind_some hF
  refine wl0 rfl (op_call hf TF.cl18 rfl (by decide) (impl_LowestFirst_ok (S := fun _ => True) (Plan_mkv (x := y4) (rep_true (α := List ByteArray) (H.get 2 rfl)) (rep_true (α := List Fiber) (H.get 1 rfl)) (rep_true (α := List Light) (H.get 0 rfl))) mk_int mk_bool hy5) fun v7 w a hp9 hf => ?_)
  obtain ⟨hb5, v8, v9, rfl, hp10, hp11⟩ := hp9
  obtain rfl := VR_int hp10
  obtain rfl := VR_bool hp11
  have H := H.keep hb5
  refine pr 5 hf rfl rfl fun a hf => ?_
  refine wl_end (then_n (sq (sq ?_)))
  obtain ⟨c10, hGc10, hF⟩ := bind_some hF
  have fh := hf.prune [3, 10] rfl
  have Hm := H.let [true, true] [] [true, true, true, false, false, false] [0, 1, 2, 6, 7, 8] rfl rfl rfl rfl
  refine midF 42 (.bool c10) fh Hm ?_ fun a w hf H => ?_
  ·refine reg (pr 4 hf rfl rfl fun a hf => ?_)
   refine iteB hGc10 (fun hc2 hGc10 => ?_) fun hc2 hGc10 => ?_
   ·have hf := hf.lit 38 rfl hc2
    refine pr 4 hf rfl rfl fun a hf => ?_
    obtain rfl := Option.some.inj hGc10
    have hf := hf.prune [42, 3, 10] rfl
    have H := H.let [true, true] [] [true, true, true, false, false, false] [0, 1, 2, 6, 7, 8] rfl rfl rfl rfl
    exact wl_end ⟨hf, H⟩
   ·have hf := hf.lit 38 rfl hc2
    refine pr 4 hf rfl rfl fun a hf => ?_
    obtain rfl := Option.some.inj hGc10
    have hf := hf.prune [42, 3, 10] rfl
    have H := H.let [true, true] [] [true, true, true, false, false, false] [0, 1, 2, 6, 7, 8] rfl rfl rfl rfl
    exact wl_end ⟨hf, H⟩
  refine then_n (iteB hF (fun hc3 hF => cd_t hf rfl hc3 ?_) fun hc3 hF => cd_f hf rfl hc3 ?_)
  ·refine sq (reg (pr 1 hf rfl rfl fun a hf => ?_))
   refine wl_end (then_n (wp_ret (then_r (?_))))
   obtain rfl := Option.some.inj hF
   refine ret_1 (fn := Tryz.f3) (r := .tmp 6) hf rfl (rv_tmp hf rfl) ?_
   exact ⟨_, rfl, H.bel, mk_bool⟩
  ·refine wp_skip (then_n (sq (sq (drawn [] (bs := [false, false, false, false, false]) (fuel := 5) (Checked.mixed Tryz.checked) rfl rfl fun w hb => ?_))))
   have H := H.keep hb
   refine strT (H.let [true, false] [] [false, false, false] [] rfl rfl rfl rfl) (fun w H => trivial) fun hS => ?_
   refine tS 0 [] rfl rfl rfl rfl hf (by kernel_rfl) (by kernel_rfl) hS (fun w H => rq_loadBN hf H TF.la37 0 rfl rfl rfl rfl) fun a hf => ?_
   refine strT (H.let [true, true] [] [false, false, false] [] rfl rfl rfl rfl) (fun w H => H.let [true, false] [] [] [] rfl rfl rfl rfl) fun hS => ?_
   refine tS 1 [] rfl rfl rfl rfl hf (by kernel_rfl) (by kernel_rfl) hS (fun w H => rq_loadBN hf H TF.la28 1 rfl rfl rfl rfl) fun a hf => ?_
   obtain ⟨y6, hy6, hF⟩ := bind_some hF
   refine n1 2 (by kernel_rfl) rfl rfl (op_call hf TF.cl17 rfl (by decide) (laws_toPlan_ok (S := fun _ => True) (Plan_mkv (x := aP) (rep_true (α := List ByteArray) (H.get 5 rfl)) (rep_true (α := List Fiber) (H.get 4 rfl)) (rep_true (α := List Light) (H.get 3 rfl))) hy6) fun v10 w a hp12 hf => ?_)
   obtain ⟨hb6, F9, hp13, hN3⟩ := hp12
   obtain ⟨A10, c11, F10, A11, c12, F11, A12, c13, F12, rfl, rfl, hl10, hl11, hl12⟩ := Plan_vo hp13
   have H := H.addOwn hb6 (X := [(⟨F10, MP.own F10 [(.slice A10 y6.Network.Nodes.length c11)] (y6.Network.Nodes : List ByteArray)⟩ : DI), (⟨F11, MP.own F11 [(.slice A11 y6.Network.Fibers.length c12)] (y6.Network.Fibers : List Fiber)⟩ : DI), (⟨F12, MP.own F12 [(.slice A12 y6.Lights.length c13)] (y6.Lights : List Light)⟩ : DI)]) (by simpa using hN3.1) (ps1 hl10 (ps1 hl11 (ps1 hl12 ps0))) (by simpa using hN3.2)
   have H := H.lend 0 rfl
   have H := H.lend 1 rfl
   have H := H.lend 2 rfl
   have hS := H.let [true, true] [] [false, false, false, false, false, false] [] rfl rfl rfl rfl
   refine ⟨fun _ => hS, ?_⟩
   obtain ⟨y7, hy7, hF⟩ := bind_some hF
   refine n1 3 (by kernel_rfl) rfl rfl (op_call hf TF.cl19 rfl (by decide) (laws_eqPlan_ok (S := fun _ => True) (Plan_mkv (x := y4) (rep_true (α := List ByteArray) (H.get 5 rfl)) (rep_true (α := List Fiber) (H.get 4 rfl)) (rep_true (α := List Light) (H.get 3 rfl))) (Plan_mkv (x := y6) (rep_true (α := List ByteArray) (H.get 2 rfl)) (rep_true (α := List Fiber) (H.get 1 rfl)) (rep_true (α := List Light) (H.get 0 rfl))) hy7) fun v11 w a hp14 hf => ?_)
   obtain ⟨hb7, hp14⟩ := hp14
   obtain rfl := VR_bool hp14
   have H := H.keep hb7
   have hS := H.let [true, true] [] [false, false, false, false, false, false] [] rfl rfl rfl rfl
   refine ⟨fun _ => hS, ?_⟩
   refine tp 4 rfl rfl hf (by kernel_rfl) (fun _ => hS) rfl fun a hf => ?_
   refine dn (by kernel_rfl) ?_
   refine then_n (iteB hF (fun hc4 hF => cd_t hf rfl hc4 ?_) fun hc4 hF => cd_f hf rfl hc4 ?_)
   ·refine sq (reg (pr 1 hf rfl rfl fun a hf => ?_))
    refine wl_end (then_n (wp_ret (then_r (?_))))
    obtain rfl := Option.some.inj hF
    refine ret_1 (fn := Tryz.f3) (r := .tmp 6) hf rfl (rv_tmp hf rfl) ?_
    exact ⟨_, rfl, H.bel, mk_bool⟩
   ·refine wp_skip (then_n (sq (reg (pr 1 hf rfl rfl fun a hf => ?_))))
    refine wl_end (then_n (wp_ret (?_)))
    obtain rfl := Option.some.inj hF
    refine ret_1 (fn := Tryz.f3) (r := .tmp 6) hf rfl (rv_tmp hf rfl) ?_
    exact ⟨_, rfl, H.bel, mk_bool⟩
end AT
