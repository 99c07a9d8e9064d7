/- The Go functions do what is told of them, by program (gen.py). -/
import Derived.Test.YtihidfnpcdefcaaW0
set_option linter.unusedVariables false
set_option linter.unusedSimpArgs false
set_option maxRecDepth 100000
namespace AT
open Go Go.RowKit Go.Proofs

/- loop.example/g00897/laws.eqFiber -/
set_option maxHeartbeats 1000000 in
theorem laws_eqFiber_ok {fu : Nat} {w0 : World} {S : Nat → Prop} {v0_ : Value} {v1_ : Value} {a' : Fiber} {b' : Fiber} {r : Bool} (h0 : VR w0 S v0_ a') (h1 : VR w0 S v1_ b') (hF : laws_eqFiber fu a' b' = some r) :
    Calls Try.prog 98 [v0_, v1_].toArray w0 fun e w' => ∃ v, e = .returned v ∧ (Below w0.heap.size w0 w' ∧ VR w' (St ⟨w0, []⟩ S [] [] [] true) v r) := by
 obtain rfl := Fiber_open h0
 obtain rfl := Fiber_open h1
 have H := Mem.start ⟨w0, []⟩ S
 refine enter Try.func98 rfl rfl (nle rfl) rfl fun a hf => ?_
 rw [laws_eqFiber] at hF
 refine sq (reg (wl0 rfl (op_box hf H rfl rfl (by decide) fun b2 a w hf H => ?_)))
 refine wl0 rfl (op_box hf H rfl rfl (by decide) fun b3 a w hf H => ?_)
 refine pr 1 hf rfl rfl fun a hf => ?_
 refine wl_end (then_n (sq (sq (reg (pr 1 hf rfl rfl fun a hf => ?_)))))
 refine wl0 rfl (op_q hf (rq_loadB hf H TF.ls3 1 rfl rfl rfl) rfl (by decide) fun a hf => ?_)
 refine pr 1 hf rfl rfl fun a hf => ?_
 refine wl0 rfl (op_q hf (rq_loadB hf H TF.ls3 0 rfl rfl rfl) rfl (by decide) fun a hf => ?_)
 refine pr 1 hf rfl rfl fun a hf => ?_
 refine wl_end (then_n (iteB hF (fun hc hF => cd_t hf rfl hc ?_) fun hc hF => cd_f hf rfl hc ?_))
 ·refine sq (reg (pr 1 hf rfl rfl fun a hf => ?_))
  refine wl_end (then_n (wp_ret (then_r (?_))))
  obtain rfl := Option.some.inj hF
  refine ret_1 (fn := Try.f98) (r := .tmp 4) hf rfl (rv_tmp hf rfl) ?_
  exact ⟨_, rfl, H.bel, mk_bool⟩
 ·refine wp_skip (then_n (sq (sq (reg (pr 1 hf rfl rfl fun a hf => ?_)))))
  refine wl0 rfl (op_q hf (rq_loadB hf H TF.ls3 1 rfl rfl rfl) rfl (by decide) fun a hf => ?_)
  refine pr 1 hf rfl rfl fun a hf => ?_
  refine wl0 rfl (op_q hf (rq_loadB hf H TF.ls3 0 rfl rfl rfl) rfl (by decide) fun a hf => ?_)
  refine pr 1 hf rfl rfl fun a hf => ?_
  refine wl_end (then_n (iteB hF (fun hc2 hF => cd_t hf rfl hc2 ?_) fun hc2 hF => cd_f hf rfl hc2 ?_))
  ·refine sq (reg (pr 1 hf rfl rfl fun a hf => ?_))
   have hf := hf.prune [4] rfl
   refine wl_end (then_n (wp_ret (then_r (?_))))
   obtain rfl := Option.some.inj hF
   refine ret_1 (fn := Try.f98) (r := .tmp 4) hf rfl (rv_tmp hf rfl) ?_
   exact ⟨_, rfl, H.bel, mk_bool⟩
  ·refine wp_skip (then_n (sq (sq (reg (pr 1 hf rfl rfl fun a hf => ?_)))))
   refine wl0 rfl (op_q hf (rq_loadB hf H TF.ls3 1 rfl rfl rfl) rfl (by decide) fun a hf => ?_)
   refine pr 1 hf rfl rfl fun a hf => ?_
   refine wl0 rfl (op_q hf (rq_loadB hf H TF.ls3 0 rfl rfl rfl) rfl (by decide) fun a hf => ?_)
   refine pr 1 hf rfl rfl fun a hf => ?_
   have hf := hf.prune [2, 3, 19] rfl
   refine wl_end (then_n (iteB hF (fun hc3 hF => cd_t hf rfl hc3 ?_) fun hc3 hF => cd_f hf rfl hc3 ?_))
   ·refine sq (reg (pr 1 hf rfl rfl fun a hf => ?_))
    refine wl_end (then_n (wp_ret (then_r (?_))))
    obtain rfl := Option.some.inj hF
    refine ret_1 (fn := Try.f98) (r := .tmp 4) hf rfl (rv_tmp hf rfl) ?_
    exact ⟨_, rfl, H.bel, mk_bool⟩
   ·refine wp_skip (then_n (sq (sq (reg (pr 1 hf rfl rfl fun a hf => ?_)))))
    refine wl0 rfl (op_q hf (rq_loadB hf H TF.ls3 1 rfl rfl rfl) rfl (by decide) fun a hf => ?_)
    refine pr 1 hf rfl rfl fun a hf => ?_
    refine wl0 rfl (op_q hf (rq_loadB hf H TF.ls3 0 rfl rfl rfl) rfl (by decide) fun a hf => ?_)
    refine pr 1 hf rfl rfl fun a hf => ?_
    refine wl_end (then_n (iteB hF (fun hc4 hF => cd_t hf rfl hc4 ?_) fun hc4 hF => cd_f hf rfl hc4 ?_))
    ·refine sq (reg (pr 1 hf rfl rfl fun a hf => ?_))
     refine wl_end (then_n (wp_ret (then_r (?_))))
     obtain rfl := Option.some.inj hF
     refine ret_1 (fn := Try.f98) (r := .tmp 4) hf rfl (rv_tmp hf rfl) ?_
     exact ⟨_, rfl, H.bel, mk_bool⟩
    ·refine wp_skip (then_n (sq (reg (pr 1 hf rfl rfl fun a hf => ?_))))
     refine wl_end (then_n (wp_ret (?_)))
     obtain rfl := Option.some.inj hF
     refine ret_1 (fn := Try.f98) (r := .tmp 4) hf rfl (rv_tmp hf rfl) ?_
     exact ⟨_, rfl, H.bel, mk_bool⟩

/- loop.example/g00897/laws.eqFiberS -/
set_option maxHeartbeats 1000000 in
theorem laws_eqFiberS_ok {fu : Nat} {w0 : World} {S : Nat → Prop} {v0_ : Value} {v1_ : Value} {a' : List Fiber} {b' : List Fiber} {r : Bool} (h0 : VR w0 S v0_ a') (h1 : VR w0 S v1_ b') (hF : laws_eqFiberS fu a' b' = some r) :
    Calls Try.prog 55 [v0_, v1_].toArray w0 fun e w' => ∃ v, e = .returned v ∧ (Below w0.heap.size w0 w' ∧ VR w' (St ⟨w0, []⟩ S [] [] [] true) v r) := by
 obtain ⟨A, c, rfl, hl⟩ := VR_list h0
 obtain ⟨A2, c2, rfl, hl2⟩ := VR_list h1
 have H := Mem.start ⟨w0, []⟩ S
 have H := H.pushArg (MP.val [(.slice A a'.length c)] a') hl
 have H := H.pushArg (MP.val [(.slice A2 b'.length c2)] b') hl2
 refine enter Try.func55 rfl rfl (nle rfl) rfl fun a hf => ?_
 rw [laws_eqFiberS] at hF
 refine sq (reg (pr 1 hf rfl rfl fun a hf => ?_))
 refine wl_end (then_n (sq (sq (reg (pr 5 hf rfl rfl fun a hf => ?_)))))
 refine wl_end (then_n (iteB hF (fun hc hF => cd_t hf rfl hc ?_) fun hc hF => cd_f hf rfl hc ?_))
 ·refine sq (reg (pr 1 hf rfl rfl fun a hf => ?_))
  refine wl_end (then_n (wp_ret (then_r (?_))))
  obtain rfl := Option.some.inj hF
  refine ret_1 (fn := Try.f55) (r := .tmp 4) hf rfl (rv_tmp hf rfl) ?_
  exact ⟨_, rfl, H.bel, mk_bool⟩
 ·refine wp_skip (then_n (sq (sq (reg (pr 1 hf rfl rfl fun a hf => ?_)))))
  refine wl_end (then_n ?_)
  obtain ⟨out', hB1, hF⟩ := bind_some hF
  have hf := hf.prune [0, 1, 5] rfl
  have H := H.let [] [] [] [0, 1]
  refine loopC (fun (s : Int) (a : Act) (w : World) => match s with | i => Fr a 27 [(0, (.slice A a'.length c)), (1, (.slice A2 b'.length c2)), (5, (.int .i64 i))] ∧ Mem ⟨w0, []⟩ S [] [] [] [(false, MP.val [(.slice A2 b'.length c2)] (b' : List Fiber)), (false, MP.val [(.slice A a'.length c)] (a' : List Fiber))] w) (fun k (s : Int) => laws_eqFiberS_L1 fu a' b' k s = some out') (fun s => out' = Out.next s) 0 fu hB1 ⟨hf, H⟩ (fun s h => by cases h) ?_ ?_
  ·rintro fk i a w hR1 hI
   replace hR1 : laws_eqFiberS_L1 fu a' b' (fk + 1) i = some out' := hR1
   rw [laws_eqFiberS_L1] at hR1
   obtain ⟨hf, H⟩ := hI
   refine sq (sq (reg (pr 4 hf rfl rfl fun a hf => ?_)))
   refine wl_end (then_n (iteB hR1 (fun hc2 hR1 => cd_t hf rfl hc2 ?_) fun hc2 hR1 => cd_f hf rfl hc2 ?_))
   ·refine wp_skip (then_n (sq (wp_block (sq (drawn [] (bs := [false, false, false, false, false, false, false, false, false, false]) (fuel := 10) (Checked.mixed Try.checked) rfl rfl fun w hb => ?_)))))
    have H := H.keep hb
    refine tp 0 rfl rfl hf (by kernel_rfl) (fun _ => trivial) rfl fun a hf => ?_
    refine tp 1 rfl rfl hf (by kernel_rfl) (fun _ => trivial) rfl fun a hf => ?_
    obtain ⟨e, he, hR1⟩ := bind_some hR1
    obtain ⟨p, o, cs, hx, hr, H⟩ := pre_iaddr H Try.underlying30 TF.sz83 1 rfl he
    refine tP 2 rfl rfl rfl rfl hf (by kernel_rfl) (fun _ => trivial) (fun w => rq_iaddrE hf rfl rfl rfl hx w) fun a hf => ?_
    obtain rfl := Fiber_cells hr
    refine strT H (fun w H => trivial) fun hS => ?_
    refine tS 3 [] rfl rfl rfl rfl hf (by kernel_rfl) (by kernel_rfl) hS (fun w H => rq_loadIN hf H TF.la83 0 0 rfl rfl rfl rfl) fun a hf => ?_
    refine tp 4 rfl rfl hf (by kernel_rfl) (fun _ => hS) rfl fun a hf => ?_
    refine tp 5 rfl rfl hf (by kernel_rfl) (fun _ => hS) rfl fun a hf => ?_
    obtain ⟨e2, he2, hR1⟩ := bind_some hR1
    obtain ⟨p2, o2, cs2, hx2, hr2, H⟩ := pre_iaddr H Try.underlying30 TF.sz83 1 rfl he2
    refine tP 6 rfl rfl rfl rfl hf (by kernel_rfl) (fun _ => hS) (fun w => rq_iaddrE hf rfl rfl rfl hx2 w) fun a hf => ?_
    obtain rfl := Fiber_cells hr2
    refine strT H (fun w H => H.let [] [] [] [1, 2, 3]) fun hS => ?_
    refine tS 7 [] rfl rfl rfl rfl hf (by kernel_rfl) (by kernel_rfl) hS (fun w H => rq_loadIN hf H TF.la83 0 0 rfl rfl rfl rfl) fun a hf => ?_
    obtain ⟨y, hy, hR1⟩ := bind_some hR1
    refine n1 8 (by kernel_rfl) rfl rfl (op_call hf TF.cl98 rfl (by decide) (laws_eqFiber_ok (S := fun _ => True) Fiber_mkv Fiber_mkv hy) fun v w a hp hf => ?_)
    obtain ⟨hb, hp⟩ := hp
    obtain rfl := VR_bool hp
    have H := H.keep hb
    have hS := H
    refine ⟨fun _ => hS, ?_⟩
    refine tp 9 rfl rfl hf (by kernel_rfl) (fun _ => hS) rfl fun a hf => ?_
    refine dn (by kernel_rfl) ?_
    have hf := hf.prune [0, 1, 5, 26] rfl
    refine then_n (iteB hR1 (fun hc3 hR1 => cd_t hf rfl hc3 ?_) fun hc3 hR1 => cd_f hf rfl hc3 ?_)
    ·refine sq (reg (pr 1 hf rfl rfl fun a hf => ?_))
     refine wl_end (then_n (wp_ret (blk_r (then_r (then_r (blk_r (then_r (then_r (?_)))))))))
     obtain rfl := Option.some.inj hR1
     replace hF := on_ret hF
     obtain rfl := Option.some.inj hF
     refine ret_1 (fn := Try.f55) (r := .tmp 4) hf rfl (rv_tmp hf rfl) ?_
     exact ⟨_, rfl, H.bel, mk_bool⟩
    ·refine wp_skip (blk_n (then_n (reg (pr 3 hf rfl rfl fun a hf => ?_))))
     refine wl_end ?_
     have hf := hf.prune [0, 1, 5] rfl
     have H := H.let [] [] [] [2, 3]
     exact then_n ⟨w64 (i + 1), hR1, hf, H⟩
   ·refine wp_exit (then_x (then_x (blk_e (?_))))
    have hf := hf.prune [0, 1, 5] rfl
    have H := H.let [] [] [] [0, 1]
    exact ⟨i, (Option.some.inj hR1).symm, hf, H⟩
  rintro a w ⟨i2, rfl, hf, H⟩
  replace hF := on_next hF
  refine then_n (sq (reg (pr 1 hf rfl rfl fun a hf => ?_)))
  refine wl_end (then_n (wp_ret (?_)))
  obtain rfl := Option.some.inj hF
  refine ret_1 (fn := Try.f55) (r := .tmp 4) hf rfl (rv_tmp hf rfl) ?_
  exact ⟨_, rfl, H.bel, mk_bool⟩

/- loop.example/g00897/laws.eqNetwork -/
set_option maxHeartbeats 1000000 in
theorem laws_eqNetwork_ok {fu : Nat} {w0 : World} {S : Nat → Prop} {v0_ : Value} {v1_ : Value} {a' : Network} {b' : Network} {r : Bool} (h0 : VR w0 S v0_ a') (h1 : VR w0 S v1_ b') (hF : laws_eqNetwork fu a' b' = some r) :
    Calls Try.prog 14 [v0_, v1_].toArray w0 fun e w' => ∃ v, e = .returned v ∧ (Below w0.heap.size w0 w' ∧ VR w' (St ⟨w0, []⟩ S [] [] [] true) v r) := by
 obtain ⟨A, c, A2, c2, rfl, hl, hl2⟩ := Network_open h0
 obtain ⟨A3, c3, A4, c4, rfl, hl3, hl4⟩ := Network_open h1
 have H := Mem.start ⟨w0, []⟩ S
 have H := H.pushArg (MP.val [(.slice A a'.Nodes.length c)] a'.Nodes) hl
 have H := H.pushArg (MP.val [(.slice A2 a'.Fibers.length c2)] a'.Fibers) hl2
 have H := H.pushArg (MP.val [(.slice A3 b'.Nodes.length c3)] b'.Nodes) hl3
 have H := H.pushArg (MP.val [(.slice A4 b'.Fibers.length c4)] b'.Fibers) hl4
 refine enter Try.func14 rfl rfl (nle rfl) rfl fun a hf => ?_
 rw [laws_eqNetwork] at hF
 refine sq (reg (wl0 rfl (op_box hf H rfl rfl (by decide) fun b2 a w hf H => ?_)))
 refine wl0 rfl (op_box hf H rfl rfl (by decide) fun b3 a w hf H => ?_)
 refine pr 1 hf rfl rfl fun a hf => ?_
 refine wl_end (then_n (sq (sq (reg (pr 1 hf rfl rfl fun a hf => ?_)))))
 refine wl0 rfl (op_q hf (rq_loadB hf H TF.ls22 1 rfl rfl rfl) rfl (by decide) fun a hf => ?_)
 refine pr 1 hf rfl rfl fun a hf => ?_
 refine wl0 rfl (op_q hf (rq_loadB hf H TF.ls22 0 rfl rfl rfl) rfl (by decide) fun a hf => ?_)
 obtain ⟨y, hy, hF⟩ := bind_some hF
 refine wl0 rfl (op_call hf TF.cl54 rfl (by decide) (laws_eqStringS_ok (S := fun _ => True) (mk_list (rep_true (α := List ByteArray) (H.get 3 rfl))) (mk_list (rep_true (α := List ByteArray) (H.get 1 rfl))) hy) fun v w a hp hf => ?_)
 obtain ⟨hb, hp⟩ := hp
 obtain rfl := VR_bool hp
 have H := H.keep hb
 refine pr 1 hf rfl rfl fun a hf => ?_
 refine wl_end (then_n (iteB hF (fun hc hF => cd_t hf rfl hc ?_) fun hc hF => cd_f hf rfl hc ?_))
 ·refine sq (reg (pr 1 hf rfl rfl fun a hf => ?_))
  refine wl_end (then_n (wp_ret (then_r (?_))))
  obtain rfl := Option.some.inj hF
  refine ret_1 (fn := Try.f14) (r := .tmp 4) hf rfl (rv_tmp hf rfl) ?_
  exact ⟨_, rfl, H.bel, mk_bool⟩
 ·refine wp_skip (then_n (sq (sq (reg (pr 1 hf rfl rfl fun a hf => ?_)))))
  refine wl0 rfl (op_q hf (rq_loadB hf H TF.ls30 1 rfl rfl rfl) rfl (by decide) fun a hf => ?_)
  refine pr 1 hf rfl rfl fun a hf => ?_
  refine wl0 rfl (op_q hf (rq_loadB hf H TF.ls30 0 rfl rfl rfl) rfl (by decide) fun a hf => ?_)
  obtain ⟨y2, hy2, hF⟩ := bind_some hF
  refine wl0 rfl (op_call hf TF.cl55 rfl (by decide) (laws_eqFiberS_ok (S := fun _ => True) (mk_list (rep_true (α := List Fiber) (H.get 2 rfl))) (mk_list (rep_true (α := List Fiber) (H.get 0 rfl))) hy2) fun v2 w a hp2 hf => ?_)
  obtain ⟨hb2, hp2⟩ := hp2
  obtain rfl := VR_bool hp2
  have H := H.keep hb2
  refine pr 1 hf rfl rfl fun a hf => ?_
  have hf := hf.prune [16] rfl
  refine wl_end (then_n (iteB hF (fun hc2 hF => cd_t hf rfl hc2 ?_) fun hc2 hF => cd_f hf rfl hc2 ?_))
  ·refine sq (reg (pr 1 hf rfl rfl fun a hf => ?_))
   refine wl_end (then_n (wp_ret (then_r (?_))))
   obtain rfl := Option.some.inj hF
   refine ret_1 (fn := Try.f14) (r := .tmp 4) hf rfl (rv_tmp hf rfl) ?_
   exact ⟨_, rfl, H.bel, mk_bool⟩
  ·refine wp_skip (then_n (sq (reg (pr 1 hf rfl rfl fun a hf => ?_))))
   refine wl_end (then_n (wp_ret (?_)))
   obtain rfl := Option.some.inj hF
   refine ret_1 (fn := Try.f14) (r := .tmp 4) hf rfl (rv_tmp hf rfl) ?_
   exact ⟨_, rfl, H.bel, mk_bool⟩

/- loop.example/g00897/laws.eqRoute -/
set_option maxHeartbeats 1000000 in
theorem laws_eqRoute_ok {fu : Nat} {w0 : World} {S : Nat → Prop} {v0_ : Value} {v1_ : Value} {a' : Route} {b' : Route} {r : Bool} (h0 : VR w0 S v0_ a') (h1 : VR w0 S v1_ b') (hF : laws_eqRoute fu a' b' = some r) :
    Calls Try.prog 20 [v0_, v1_].toArray w0 fun e w' => ∃ v, e = .returned v ∧ (Below w0.heap.size w0 w' ∧ VR w' (St ⟨w0, []⟩ S [] [] [] true) v r) := by
 obtain ⟨A, c, rfl, hl⟩ := Route_open h0
 obtain ⟨A2, c2, rfl, hl2⟩ := Route_open h1
 have H := Mem.start ⟨w0, []⟩ S
 have H := H.pushArg (MP.val [(.slice A a'.Fibers.length c)] a'.Fibers) hl
 have H := H.pushArg (MP.val [(.slice A2 b'.Fibers.length c2)] b'.Fibers) hl2
 refine enter Try.func20 rfl rfl (nle rfl) rfl fun a hf => ?_
 rw [laws_eqRoute] at hF
 refine sq (reg (wl0 rfl (op_box hf H rfl rfl (by decide) fun b2 a w hf H => ?_)))
 refine wl0 rfl (op_box hf H rfl rfl (by decide) fun b3 a w hf H => ?_)
 refine pr 1 hf rfl rfl fun a hf => ?_
 refine wl_end (then_n (sq (sq (reg (pr 1 hf rfl rfl fun a hf => ?_)))))
 refine wl0 rfl (op_q hf (rq_loadB hf H TF.ls3 1 rfl rfl rfl) rfl (by decide) fun a hf => ?_)
 refine pr 1 hf rfl rfl fun a hf => ?_
 refine wl0 rfl (op_q hf (rq_loadB hf H TF.ls3 0 rfl rfl rfl) rfl (by decide) fun a hf => ?_)
 refine pr 1 hf rfl rfl fun a hf => ?_
 refine wl_end (then_n (iteB hF (fun hc hF => cd_t hf rfl hc ?_) fun hc hF => cd_f hf rfl hc ?_))
 ·refine sq (reg (pr 1 hf rfl rfl fun a hf => ?_))
  refine wl_end (then_n (wp_ret (then_r (?_))))
  obtain rfl := Option.some.inj hF
  refine ret_1 (fn := Try.f20) (r := .tmp 4) hf rfl (rv_tmp hf rfl) ?_
  exact ⟨_, rfl, H.bel, mk_bool⟩
 ·refine wp_skip (then_n (sq (sq (reg (pr 1 hf rfl rfl fun a hf => ?_)))))
  refine wl0 rfl (op_q hf (rq_loadB hf H TF.ls26 1 rfl rfl rfl) rfl (by decide) fun a hf => ?_)
  refine pr 1 hf rfl rfl fun a hf => ?_
  refine wl0 rfl (op_q hf (rq_loadB hf H TF.ls26 0 rfl rfl rfl) rfl (by decide) fun a hf => ?_)
  obtain ⟨y, hy, hF⟩ := bind_some hF
  refine wl0 rfl (op_call hf TF.cl15 rfl (by decide) (laws_eqIntS_ok (S := fun _ => True) (mk_list (rep_true (α := List Int) (H.get 1 rfl))) (mk_list (rep_true (α := List Int) (H.get 0 rfl))) hy) fun v w a hp hf => ?_)
  obtain ⟨hb, hp⟩ := hp
  obtain rfl := VR_bool hp
  have H := H.keep hb
  refine pr 1 hf rfl rfl fun a hf => ?_
  have hf := hf.prune [15] rfl
  refine wl_end (then_n (iteB hF (fun hc2 hF => cd_t hf rfl hc2 ?_) fun hc2 hF => cd_f hf rfl hc2 ?_))
  ·refine sq (reg (pr 1 hf rfl rfl fun a hf => ?_))
   refine wl_end (then_n (wp_ret (then_r (?_))))
   obtain rfl := Option.some.inj hF
   refine ret_1 (fn := Try.f20) (r := .tmp 4) hf rfl (rv_tmp hf rfl) ?_
   exact ⟨_, rfl, H.bel, mk_bool⟩
  ·refine wp_skip (then_n (sq (reg (pr 1 hf rfl rfl fun a hf => ?_))))
   refine wl_end (then_n (wp_ret (?_)))
   obtain rfl := Option.some.inj hF
   refine ret_1 (fn := Try.f20) (r := .tmp 4) hf rfl (rv_tmp hf rfl) ?_
   exact ⟨_, rfl, H.bel, mk_bool⟩

/- loop.example/g00897/laws.markText -/
set_option maxHeartbeats 1000000 in
theorem laws_markText_ok {fu : Nat} {w0 : World} {S : Nat → Prop} {v0_ : Value} {k' : Int} {r : ByteArray} (h0 : VR w0 S v0_ k') (hF : laws_markText fu k' = some r) :
    Calls Try.prog 101 [v0_].toArray w0 fun e w' => ∃ v, e = .returned v ∧ (Below w0.heap.size w0 w' ∧ VR w' (St ⟨w0, []⟩ S [] [] [] true) v r) := by
 obtain rfl := VR_int h0
 have H := Mem.start ⟨w0, []⟩ S
 refine enter Try.func101 rfl rfl (nle rfl) rfl fun a hf => ?_
 rw [laws_markText] at hF
 refine sq (reg (pr 1 hf rfl rfl fun a hf => ?_))
 refine wl_end (then_n (sq (sq (reg (pr 2 hf rfl rfl fun a hf => ?_)))))
 refine wl_end (then_n (iteB hF (fun hc hF => cd_t hf rfl hc ?_) fun hc hF => cd_f hf rfl hc ?_))
 ·refine sq (reg (pr 1 hf rfl rfl fun a hf => ?_))
  refine wl_end (then_n (wp_ret (then_r (?_))))
  obtain rfl := Option.some.inj hF
  refine ret_1 (fn := Try.f101) (r := .tmp 2) hf rfl (rv_tmp hf rfl) ?_
  exact ⟨_, rfl, H.bel, mk_str⟩
 ·refine wp_skip (then_n (sq (reg (pr 1 hf rfl rfl fun a hf => ?_))))
  refine wl_end (then_n (sq ?_))
  obtain ⟨out2, hB1, hF⟩ := bind_some hF
  have hf := hf.prune [0, 3] rfl
  have H := H.let [] [] [] []
  refine loopC (fun (s : Int × ByteArray) (a : Act) (w : World) => match s with | (k2, out') => Fr a 20 [(0, (.int .i64 k2)), (3, (.string out'))] ∧ Mem ⟨w0, []⟩ S [] [] [] [] w) (fun k (s : Int × ByteArray) => laws_markText_L1 fu k s.1 s.2 = some out2) (fun s => out2 = s) (k', ByteArray.empty) fu hB1 ⟨hf, H⟩ (fun s h => by cases h) ?_ ?_
  ·rintro fk ⟨k2, out'⟩ a w hR1 hI
   replace hR1 : laws_markText_L1 fu (fk + 1) k2 out' = some out2 := hR1
   rw [laws_markText_L1] at hR1
   obtain ⟨hf, H⟩ := hI
   refine sq (sq (reg (pr 2 hf rfl rfl fun a hf => ?_)))
   refine wl_end (then_n (iteB hR1 (fun hc2 hR1 => cd_t hf rfl hc2 ?_) fun hc2 hR1 => cd_f hf rfl hc2 ?_))
   ·refine wp_skip (then_n (wp_block (sq (reg (pr 1 hf rfl rfl fun a hf => ?_)))))
    obtain ⟨q, hq, hR1⟩ := bind_some hR1
    refine wl0 rfl (op_q hf (rq_rem hf rfl rfl hq) rfl (by decide) fun a hf => ?_)
    refine pr 1 hf rfl rfl fun a hf => ?_
    refine wl0 rfl (op_q hf (rq_conv u8w Try.underlying3 Try.underlying5 hf rfl) rfl (by decide) fun a hf => ?_)
    refine wl0 rfl (op_bslice hf H (.sh true) rfl 5 ([(⟨wu8 (w64 (48 + q))⟩ : By)] : List By) [(.int .u8 (wu8 (w64 (48 + q))))] rfl (fun w => by kernel_rfl) rfl (by decide) rfl trivial (el1 (y := (⟨wu8 (w64 (48 + q))⟩ : By)) (rfl)) (by decide) fun A a w hf H => ?_)
    refine wl0 rfl (op_q hf (rq_convBS Try.underlying55 Try.underlying5 Try.underlying9 hf rfl (H.rowTrue 0 rfl)) rfl (by decide) fun a hf => ?_)
    refine pr 1 hf rfl rfl fun a hf => ?_
    obtain ⟨s', hs', hR1⟩ := bind_some hR1
    refine wl0 rfl (op_q hf (rq_scat hf rfl rfl hs') rfl (by decide) fun a hf => ?_)
    refine pr 1 hf rfl rfl fun a hf => ?_
    refine wl_end (then_n (reg (pr 1 hf rfl rfl fun a hf => ?_)))
    obtain ⟨q2, hq2, hR1⟩ := bind_some hR1
    refine wl0 rfl (op_q hf (rq_quo hf rfl rfl hq2) rfl (by decide) fun a hf => ?_)
    refine pr 1 hf rfl rfl fun a hf => ?_
    refine wl_end (blk_n ?_)
    have hf := hf.prune [0, 3] rfl
    have H := H.let [] [false] [] []
    exact then_n ⟨(q2, s'), hR1, hf, H⟩
   ·refine wp_exit (then_x (then_x (blk_e (?_))))
    have hf := hf.prune [0, 3] rfl
    have H := H.let [] [] [] []
    exact ⟨(k2, out'), (Option.some.inj hR1).symm, hf, H⟩
  rintro a w ⟨⟨k3, out3⟩, rfl, hf, H⟩
  dsimp only at hF
  refine then_n (sq (reg (pr 1 hf rfl rfl fun a hf => ?_)))
  obtain ⟨s2, hs2, hF⟩ := bind_some hF
  refine wl0 rfl (op_q hf (rq_scat hf rfl rfl hs2) rfl (by decide) fun a hf => ?_)
  refine pr 1 hf rfl rfl fun a hf => ?_
  refine wl_end (then_n (wp_ret (?_)))
  obtain rfl := Option.some.inj hF
  refine ret_1 (fn := Try.f101) (r := .tmp 2) hf rfl (rv_tmp hf rfl) ?_
  exact ⟨_, rfl, H.bel, mk_str⟩

/- loop.example/g00897/laws.markStringS -/
set_option maxHeartbeats 1000000 in
theorem laws_markStringS_ok {fu : Nat} {w0 : World} {S : Nat → Prop} {F : List Nat} {cs : List Value} {v1_ : Value} {a' : List ByteArray} {k' : Int} {r : Int × List ByteArray} (hO : GoTy.own w0 F cs a') (hn : F.Nodup) (h1 : VR w0 S v1_ k') (hF : laws_markStringS fu a' k' = some r) :
    Calls Try.prog 60 [(bif GoTy.agg (List ByteArray) then .agg cs.toArray else cs.headD undef), v1_].toArray w0 fun e w' => ∃ v, e = .returned v ∧ (Chg w0 w' F ∧ VR w' (fun _ => True) v r.1 ∧ ∃ F', GoTy.own w' F' cs r.2 ∧ Back w0 w' F F') := by
 obtain rfl := VR_int h1
 obtain ⟨A, c, rfl, hO⟩ := own_list hO
 have H := Mem.startG S hO hn
 obtain ⟨Fs, E, H, -⟩ := H.thaw rfl
 have H := H.rowSh 0 rfl
 refine enter Try.func60 rfl rfl (nle rfl) rfl fun a hf => ?_
 rw [laws_markStringS] at hF
 refine sq (reg (pr 1 hf rfl rfl fun a hf => ?_))
 refine wl_end (then_n (sq (sq (reg (pr 1 hf rfl rfl fun a hf => ?_)))))
 refine wl_end (then_n ?_)
 obtain ⟨out', hB1, hF⟩ := bind_some hF
 have hf := hf.prune [0, 1, 5] rfl
 have hf : Fr a 20 [(0, (.slice A a'.length c)), (1, (.int .i64 k')), (5, (.int .i64 0))] := by first | exact hf | (simp only [List.length_set] at hf; exact hf)
 have H := H.let [] [true] [] []
 refine loopC (fun (s : List ByteArray × Int × Int) (a : Act) (w : World) => match s with | (a2, k2, i) => a2.length = a'.length ∧ Fr a 20 [(0, (.slice A a'.length c)), (1, (.int .i64 k2)), (5, (.int .i64 i))] ∧ Mem ⟨w0, F⟩ S [] [⟨.sh true, E, A, c, (a2 : List ByteArray)⟩] [] [] w) (fun k (s : List ByteArray × Int × Int) => laws_markStringS_L1 fu k s.1 s.2.1 s.2.2 = some out') (fun s => out' = s) (a', k', 0) fu hB1 ⟨rfl, hf, H⟩ (fun s h => by cases h) ?_ ?_
 ·rintro fk ⟨a2, k2, i⟩ a w hR1 hI
  replace hR1 : laws_markStringS_L1 fu (fk + 1) a2 k2 i = some out' := hR1
  rw [laws_markStringS_L1] at hR1
  obtain ⟨hlen, hf, H⟩ := hI
  have hf : Fr a 20 [(0, (.slice A a2.length c)), (1, (.int .i64 k2)), (5, (.int .i64 i))] := by rw [hlen]; exact hf
  refine sq (sq (reg (pr 4 hf rfl rfl fun a hf => ?_)))
  refine wl_end (then_n (iteB hR1 (fun hc hR1 => cd_t hf rfl hc ?_) fun hc hR1 => cd_f hf rfl hc ?_))
  ·refine wp_skip (then_n (sq (wp_block (sq (reg (pr 3 hf rfl rfl fun a hf => ?_))))))
   obtain ⟨y, hy, hR1⟩ := bind_some hR1
   refine wl0 rfl (op_call hf TF.cl101 rfl (by decide) (laws_markText_ok (S := fun _ => True) mk_int hy) fun v w a hp hf => ?_)
   obtain ⟨hb, hp⟩ := hp
   obtain rfl := VR_str hp
   have H := H.keep hb
   obtain ⟨e, he, hR1⟩ := bind_some hR1
   refine wl0 rfl (op_iaddrR hf H Try.underlying22 TF.sz9 0 rfl rfl rfl he (by decide) fun p o cs a hf hA hr hk => ?_)
   obtain rfl := hr
   refine wl0 rfl (op_storeR (e' := y) hf H TF.sz9 0 rfl rfl rfl rfl rfl (nle rfl) rfl hA he (st_full rfl) fun w H => ?_)
   replace hf : Fr a 20 [(0, (.slice A a2.length c)), (1, (.int .i64 k2)), (5, (.int .i64 i)), (6, (.int .i64 i)), (7, (.slice A a2.length c)), (8, (.int .i64 (a2.length : Int))), (9, (.bool (decide (i < (a2.length : Int))))), (12, (.slice A a2.length c)), (13, (.int .i64 i)), (14, (.int .i64 k2)), (15, (.string y)), (16, (.pointer (some ⟨p, o + 0, none⟩)))] := hf.prune [0, 1, 5, 6, 7, 8, 9, 12, 13, 14, 15, 16] rfl
   replace hf : Fr a 20 [(0, (.slice A (a2.set (i).toNat y).length c)), (1, (.int .i64 k2)), (5, (.int .i64 i)), (6, (.int .i64 i)), (7, (.slice A (a2.set (i).toNat y).length c)), (8, (.int .i64 (a2.length : Int))), (9, (.bool (decide (i < (a2.length : Int))))), (12, (.slice A (a2.set (i).toNat y).length c)), (13, (.int .i64 i)), (14, (.int .i64 k2)), (15, (.string y)), (16, (.pointer (some ⟨p, o + 0, none⟩)))] := by simpa only [List.length_set, Nat.add_zero] using hf
   refine wl_end (then_n (reg (pr 3 hf rfl rfl fun a hf => ?_)))
   refine wl_end (blk_n (then_n (reg (pr 3 hf rfl rfl fun a hf => ?_))))
   have hf := hf.prune [0, 1, 5] rfl
   refine wl_end ?_
   have hf := hf.prune [0, 1, 5] rfl
   have hf : Fr a 20 [(0, (.slice A a'.length c)), (1, (.int .i64 (w64 (k2 + 1)))), (5, (.int .i64 (w64 (i + 1))))] := by first | exact hf | (simp only [List.length_set, hlen] at hf; exact hf)
   have H := H.let [] [true] [] []
   exact then_n ⟨(a2.set (i).toNat y, w64 (k2 + 1), w64 (i + 1)), hR1, (by simp only [List.length_set, hlen]), hf, H⟩
  ·refine wp_exit (then_x (then_x (blk_e (?_))))
   have hf := hf.prune [0, 1, 5] rfl
   have hf : Fr a 20 [(0, (.slice A a'.length c)), (1, (.int .i64 k2)), (5, (.int .i64 i))] := by first | exact hf | (simp only [List.length_set, hlen] at hf; exact hf)
   have H := H.let [] [true] [] []
   exact ⟨(a2, k2, i), (Option.some.inj hR1).symm, (by simp only [List.length_set, hlen]), hf, H⟩
 rintro a w ⟨⟨a3, k3, i2⟩, rfl, hlen, hf, H⟩
 try dsimp only at hlen
 have hf : Fr a 20 [(0, (.slice A a3.length c)), (1, (.int .i64 k3)), (5, (.int .i64 i2))] := by rw [hlen]; exact hf
 dsimp only at hF
 refine then_n (sq (reg (pr 2 hf rfl rfl fun a hf => ?_)))
 refine wl_end (then_n (wp_ret (?_)))
 have H := H.rowOwn 0 rfl rfl
 obtain ⟨F', H⟩ := H.freezeOwn 0 rfl
 rw [hlen] at H
 obtain rfl := Option.some.inj hF
 refine ret_1 (fn := Try.f60) (r := .tmp 4) hf rfl (rv_tmp hf rfl) ?_
 exact ⟨_, rfl, H.chg, mk_int, _, H.ownAt 0 rfl, H.back⟩

/- loop.example/g00897/laws.markFiberS -/
set_option maxHeartbeats 1000000 in
theorem laws_markFiberS_ok {fu : Nat} {w0 : World} {S : Nat → Prop} {F : List Nat} {cs : List Value} {v1_ : Value} {a' : List Fiber} {k' : Int} {r : Int × List Fiber} (hO : GoTy.own w0 F cs a') (hn : F.Nodup) (h1 : VR w0 S v1_ k') (hF : laws_markFiberS fu a' k' = some r) :
    Calls Try.prog 61 [(bif GoTy.agg (List Fiber) then .agg cs.toArray else cs.headD undef), v1_].toArray w0 fun e w' => ∃ v, e = .returned v ∧ (Chg w0 w' F ∧ VR w' (fun _ => True) v r.1 ∧ ∃ F', GoTy.own w' F' cs r.2 ∧ Back w0 w' F F') := by
 obtain rfl := VR_int h1
 obtain ⟨A, c, rfl, hO⟩ := own_list hO
 have H := Mem.startG S hO hn
 obtain ⟨Fs, E, H, -⟩ := H.thaw rfl
 have H := H.rowSh 0 rfl
 refine enter Try.func61 rfl rfl (nle rfl) rfl fun a hf => ?_
 rw [laws_markFiberS] at hF
 refine sq (reg (pr 1 hf rfl rfl fun a hf => ?_))
 refine wl_end (then_n (sq (sq (reg (pr 1 hf rfl rfl fun a hf => ?_)))))
 refine wl_end (then_n ?_)
 obtain ⟨out', hB1, hF⟩ := bind_some hF
 have hf := hf.prune [0, 1, 5] rfl
 have hf : Fr a 41 [(0, (.slice A a'.length c)), (1, (.int .i64 k')), (5, (.int .i64 0))] := by first | exact hf | (simp only [List.length_set] at hf; exact hf)
 have H := H.let [] [true] [] []
 refine loopC (fun (s : List Fiber × Int × Int) (a : Act) (w : World) => match s with | (a2, k2, i) => a2.length = a'.length ∧ Fr a 41 [(0, (.slice A a'.length c)), (1, (.int .i64 k2)), (5, (.int .i64 i))] ∧ Mem ⟨w0, F⟩ S [] [⟨.sh true, E, A, c, (a2 : List Fiber)⟩] [] [] w) (fun k (s : List Fiber × Int × Int) => laws_markFiberS_L1 fu k s.1 s.2.1 s.2.2 = some out') (fun s => out' = s) (a', k', 0) fu hB1 ⟨rfl, hf, H⟩ (fun s h => by cases h) ?_ ?_
 ·rintro fk ⟨a2, k2, i⟩ a w hR1 hI
  replace hR1 : laws_markFiberS_L1 fu (fk + 1) a2 k2 i = some out' := hR1
  rw [laws_markFiberS_L1] at hR1
  obtain ⟨hlen, hf, H⟩ := hI
  have hf : Fr a 41 [(0, (.slice A a2.length c)), (1, (.int .i64 k2)), (5, (.int .i64 i))] := by rw [hlen]; exact hf
  refine sq (sq (reg (pr 4 hf rfl rfl fun a hf => ?_)))
  refine wl_end (then_n (iteB hR1 (fun hc hR1 => cd_t hf rfl hc ?_) fun hc hR1 => cd_f hf rfl hc ?_))
  ·refine wp_skip (then_n (sq (wp_block (sq (reg (pr 3 hf rfl rfl fun a hf => ?_))))))
   obtain ⟨e, he, hR1⟩ := bind_some hR1
   refine wl0 rfl (op_iaddrR hf H Try.underlying30 TF.sz83 0 rfl rfl rfl he (by decide) fun p o cs a hf hA hr hk => ?_)
   obtain rfl := Fiber_cells hr
   refine pr 1 hf rfl rfl fun a hf => ?_
   refine wl0 rfl (op_storeR (e' := ({ A := k2, B := e.B, Length := e.Length, Risk := e.Risk } : Fiber)) hf H TF.sz3 0 rfl rfl rfl rfl rfl (nle rfl) rfl hA he (fun cs h => by obtain rfl := Fiber_cells h; exact Fiber_mk (x := ({ A := k2, B := e.B, Length := e.Length, Risk := e.Risk } : Fiber))) fun w H => ?_)
   replace hf : Fr a 41 [(0, (.slice A a2.length c)), (1, (.int .i64 k2)), (5, (.int .i64 i)), (6, (.int .i64 i)), (7, (.slice A a2.length c)), (8, (.int .i64 (a2.length : Int))), (9, (.bool (decide (i < (a2.length : Int))))), (12, (.slice A a2.length c)), (13, (.int .i64 i)), (14, (.int .i64 k2)), (15, (.pointer (some ⟨p, o + 0, none⟩))), (16, (.pointer (some ⟨p, o + 0, none⟩)))] := hf.prune [0, 1, 5, 6, 7, 8, 9, 12, 13, 14, 15, 16] rfl
   replace hf : Fr a 41 [(0, (.slice A (a2.set (i).toNat ({ A := k2, B := e.B, Length := e.Length, Risk := e.Risk } : Fiber)).length c)), (1, (.int .i64 k2)), (5, (.int .i64 i)), (6, (.int .i64 i)), (7, (.slice A (a2.set (i).toNat ({ A := k2, B := e.B, Length := e.Length, Risk := e.Risk } : Fiber)).length c)), (8, (.int .i64 (a2.length : Int))), (9, (.bool (decide (i < (a2.length : Int))))), (12, (.slice A (a2.set (i).toNat ({ A := k2, B := e.B, Length := e.Length, Risk := e.Risk } : Fiber)).length c)), (13, (.int .i64 i)), (14, (.int .i64 k2)), (15, (.pointer (some ⟨p, o + 0, none⟩))), (16, (.pointer (some ⟨p, o + 0, none⟩)))] := by simpa only [List.length_set, Nat.add_zero] using hf
   refine wl_end (then_n (sq (reg (pr 3 hf rfl rfl fun a hf => ?_))))
   refine wl_end (then_n (sq (reg (pr 3 hf rfl rfl fun a hf => ?_))))
   obtain ⟨e2, he2, hR1⟩ := bind_some hR1
   refine wl0 rfl (op_iaddrR hf H Try.underlying30 TF.sz83 0 rfl rfl rfl he2 (by decide) fun p2 o2 cs2 a hf hA2 hr2 hk2 => ?_)
   obtain rfl := Fiber_cells hr2
   refine pr 1 hf rfl rfl fun a hf => ?_
   refine wl0 rfl (op_storeR (e' := ({ A := e2.A, B := w64 (k2 + 1), Length := e2.Length, Risk := e2.Risk } : Fiber)) hf H TF.sz3 0 rfl rfl rfl rfl rfl (nle rfl) rfl hA2 he2 (fun cs h => by obtain rfl := Fiber_cells h; exact Fiber_mk (x := ({ A := e2.A, B := w64 (k2 + 1), Length := e2.Length, Risk := e2.Risk } : Fiber))) fun w H => ?_)
   replace hf : Fr a 41 [(0, (.slice A (a2.set (i).toNat ({ A := k2, B := e.B, Length := e.Length, Risk := e.Risk } : Fiber)).length c)), (1, (.int .i64 (w64 (k2 + 1)))), (5, (.int .i64 i)), (6, (.int .i64 i)), (7, (.slice A (a2.set (i).toNat ({ A := k2, B := e.B, Length := e.Length, Risk := e.Risk } : Fiber)).length c)), (8, (.int .i64 (a2.length : Int))), (9, (.bool (decide (i < (a2.length : Int))))), (12, (.slice A (a2.set (i).toNat ({ A := k2, B := e.B, Length := e.Length, Risk := e.Risk } : Fiber)).length c)), (13, (.int .i64 i)), (14, (.int .i64 k2)), (15, (.pointer (some ⟨p, o + 0, none⟩))), (16, (.pointer (some ⟨p, o + 0, none⟩))), (17, (.int .i64 k2)), (18, (.int .i64 (w64 (k2 + 1)))), (19, (.slice A (a2.set (i).toNat ({ A := k2, B := e.B, Length := e.Length, Risk := e.Risk } : Fiber)).length c)), (20, (.int .i64 i)), (21, (.int .i64 (w64 (k2 + 1)))), (22, (.pointer (some ⟨p2, o2 + 0, none⟩))), (23, (.pointer (some ⟨p2, o2 + 1, none⟩)))] := hf.prune [0, 1, 5, 6, 7, 8, 9, 12, 13, 14, 15, 16, 17, 18, 19, 20, 21, 22, 23] rfl
   replace hf : Fr a 41 [(0, (.slice A ((a2.set (i).toNat ({ A := k2, B := e.B, Length := e.Length, Risk := e.Risk } : Fiber)).set (i).toNat ({ A := e2.A, B := w64 (k2 + 1), Length := e2.Length, Risk := e2.Risk } : Fiber)).length c)), (1, (.int .i64 (w64 (k2 + 1)))), (5, (.int .i64 i)), (6, (.int .i64 i)), (7, (.slice A ((a2.set (i).toNat ({ A := k2, B := e.B, Length := e.Length, Risk := e.Risk } : Fiber)).set (i).toNat ({ A := e2.A, B := w64 (k2 + 1), Length := e2.Length, Risk := e2.Risk } : Fiber)).length c)), (8, (.int .i64 (a2.length : Int))), (9, (.bool (decide (i < (a2.length : Int))))), (12, (.slice A ((a2.set (i).toNat ({ A := k2, B := e.B, Length := e.Length, Risk := e.Risk } : Fiber)).set (i).toNat ({ A := e2.A, B := w64 (k2 + 1), Length := e2.Length, Risk := e2.Risk } : Fiber)).length c)), (13, (.int .i64 i)), (14, (.int .i64 k2)), (15, (.pointer (some ⟨p, o + 0, none⟩))), (16, (.pointer (some ⟨p, o + 0, none⟩))), (17, (.int .i64 k2)), (18, (.int .i64 (w64 (k2 + 1)))), (19, (.slice A ((a2.set (i).toNat ({ A := k2, B := e.B, Length := e.Length, Risk := e.Risk } : Fiber)).set (i).toNat ({ A := e2.A, B := w64 (k2 + 1), Length := e2.Length, Risk := e2.Risk } : Fiber)).length c)), (20, (.int .i64 i)), (21, (.int .i64 (w64 (k2 + 1)))), (22, (.pointer (some ⟨p2, o2 + 0, none⟩))), (23, (.pointer (some ⟨p2, o2 + 1, none⟩)))] := by simpa only [List.length_set, Nat.add_zero] using hf
   have hf := hf.prune [0, 1, 5] rfl
   refine wl_end (then_n (sq (reg (pr 3 hf rfl rfl fun a hf => ?_))))
   refine wl_end (then_n (sq (reg (pr 3 hf rfl rfl fun a hf => ?_))))
   obtain ⟨e3, he3, hR1⟩ := bind_some hR1
   refine wl0 rfl (op_iaddrR hf H Try.underlying30 TF.sz83 0 rfl rfl rfl he3 (by decide) fun p3 o3 cs3 a hf hA3 hr3 hk3 => ?_)
   obtain rfl := Fiber_cells hr3
   refine pr 1 hf rfl rfl fun a hf => ?_
   refine wl0 rfl (op_storeR (e' := ({ A := e3.A, B := e3.B, Length := w64 ((w64 (k2 + 1)) + 1), Risk := e3.Risk } : Fiber)) hf H TF.sz3 0 rfl rfl rfl rfl rfl (nle rfl) rfl hA3 he3 (fun cs h => by obtain rfl := Fiber_cells h; exact Fiber_mk (x := ({ A := e3.A, B := e3.B, Length := w64 ((w64 (k2 + 1)) + 1), Risk := e3.Risk } : Fiber))) fun w H => ?_)
   replace hf : Fr a 41 [(0, (.slice A ((a2.set (i).toNat ({ A := k2, B := e.B, Length := e.Length, Risk := e.Risk } : Fiber)).set (i).toNat ({ A := e2.A, B := w64 (k2 + 1), Length := e2.Length, Risk := e2.Risk } : Fiber)).length c)), (1, (.int .i64 (w64 ((w64 (k2 + 1)) + 1)))), (5, (.int .i64 i)), (24, (.int .i64 (w64 (k2 + 1)))), (25, (.int .i64 (w64 ((w64 (k2 + 1)) + 1)))), (26, (.slice A ((a2.set (i).toNat ({ A := k2, B := e.B, Length := e.Length, Risk := e.Risk } : Fiber)).set (i).toNat ({ A := e2.A, B := w64 (k2 + 1), Length := e2.Length, Risk := e2.Risk } : Fiber)).length c)), (27, (.int .i64 i)), (28, (.int .i64 (w64 ((w64 (k2 + 1)) + 1)))), (29, (.pointer (some ⟨p3, o3 + 0, none⟩))), (30, (.pointer (some ⟨p3, o3 + 2, none⟩)))] := hf.prune [0, 1, 5, 24, 25, 26, 27, 28, 29, 30] rfl
   replace hf : Fr a 41 [(0, (.slice A (((a2.set (i).toNat ({ A := k2, B := e.B, Length := e.Length, Risk := e.Risk } : Fiber)).set (i).toNat ({ A := e2.A, B := w64 (k2 + 1), Length := e2.Length, Risk := e2.Risk } : Fiber)).set (i).toNat ({ A := e3.A, B := e3.B, Length := w64 ((w64 (k2 + 1)) + 1), Risk := e3.Risk } : Fiber)).length c)), (1, (.int .i64 (w64 ((w64 (k2 + 1)) + 1)))), (5, (.int .i64 i)), (24, (.int .i64 (w64 (k2 + 1)))), (25, (.int .i64 (w64 ((w64 (k2 + 1)) + 1)))), (26, (.slice A (((a2.set (i).toNat ({ A := k2, B := e.B, Length := e.Length, Risk := e.Risk } : Fiber)).set (i).toNat ({ A := e2.A, B := w64 (k2 + 1), Length := e2.Length, Risk := e2.Risk } : Fiber)).set (i).toNat ({ A := e3.A, B := e3.B, Length := w64 ((w64 (k2 + 1)) + 1), Risk := e3.Risk } : Fiber)).length c)), (27, (.int .i64 i)), (28, (.int .i64 (w64 ((w64 (k2 + 1)) + 1)))), (29, (.pointer (some ⟨p3, o3 + 0, none⟩))), (30, (.pointer (some ⟨p3, o3 + 2, none⟩)))] := by simpa only [List.length_set, Nat.add_zero] using hf
   refine wl_end (then_n (sq (reg (pr 3 hf rfl rfl fun a hf => ?_))))
   refine wl_end (then_n (sq (reg (pr 3 hf rfl rfl fun a hf => ?_))))
   obtain ⟨e4, he4, hR1⟩ := bind_some hR1
   refine wl0 rfl (op_iaddrR hf H Try.underlying30 TF.sz83 0 rfl rfl rfl he4 (by decide) fun p4 o4 cs4 a hf hA4 hr4 hk4 => ?_)
   obtain rfl := Fiber_cells hr4
   refine pr 1 hf rfl rfl fun a hf => ?_
   refine wl0 rfl (op_storeR (e' := ({ A := e4.A, B := e4.B, Length := e4.Length, Risk := w64 ((w64 ((w64 (k2 + 1)) + 1)) + 1) } : Fiber)) hf H TF.sz3 0 rfl rfl rfl rfl rfl (nle rfl) rfl hA4 he4 (fun cs h => by obtain rfl := Fiber_cells h; exact Fiber_mk (x := ({ A := e4.A, B := e4.B, Length := e4.Length, Risk := w64 ((w64 ((w64 (k2 + 1)) + 1)) + 1) } : Fiber))) fun w H => ?_)
   replace hf : Fr a 41 [(0, (.slice A (((a2.set (i).toNat ({ A := k2, B := e.B, Length := e.Length, Risk := e.Risk } : Fiber)).set (i).toNat ({ A := e2.A, B := w64 (k2 + 1), Length := e2.Length, Risk := e2.Risk } : Fiber)).set (i).toNat ({ A := e3.A, B := e3.B, Length := w64 ((w64 (k2 + 1)) + 1), Risk := e3.Risk } : Fiber)).length c)), (1, (.int .i64 (w64 ((w64 ((w64 (k2 + 1)) + 1)) + 1)))), (5, (.int .i64 i)), (24, (.int .i64 (w64 (k2 + 1)))), (25, (.int .i64 (w64 ((w64 (k2 + 1)) + 1)))), (26, (.slice A (((a2.set (i).toNat ({ A := k2, B := e.B, Length := e.Length, Risk := e.Risk } : Fiber)).set (i).toNat ({ A := e2.A, B := w64 (k2 + 1), Length := e2.Length, Risk := e2.Risk } : Fiber)).set (i).toNat ({ A := e3.A, B := e3.B, Length := w64 ((w64 (k2 + 1)) + 1), Risk := e3.Risk } : Fiber)).length c)), (27, (.int .i64 i)), (28, (.int .i64 (w64 ((w64 (k2 + 1)) + 1)))), (29, (.pointer (some ⟨p3, o3 + 0, none⟩))), (30, (.pointer (some ⟨p3, o3 + 2, none⟩))), (31, (.int .i64 (w64 ((w64 (k2 + 1)) + 1)))), (32, (.int .i64 (w64 ((w64 ((w64 (k2 + 1)) + 1)) + 1)))), (33, (.slice A (((a2.set (i).toNat ({ A := k2, B := e.B, Length := e.Length, Risk := e.Risk } : Fiber)).set (i).toNat ({ A := e2.A, B := w64 (k2 + 1), Length := e2.Length, Risk := e2.Risk } : Fiber)).set (i).toNat ({ A := e3.A, B := e3.B, Length := w64 ((w64 (k2 + 1)) + 1), Risk := e3.Risk } : Fiber)).length c)), (34, (.int .i64 i)), (35, (.int .i64 (w64 ((w64 ((w64 (k2 + 1)) + 1)) + 1)))), (36, (.pointer (some ⟨p4, o4 + 0, none⟩))), (37, (.pointer (some ⟨p4, o4 + 3, none⟩)))] := hf.prune [0, 1, 5, 24, 25, 26, 27, 28, 29, 30, 31, 32, 33, 34, 35, 36, 37] rfl
   replace hf : Fr a 41 [(0, (.slice A ((((a2.set (i).toNat ({ A := k2, B := e.B, Length := e.Length, Risk := e.Risk } : Fiber)).set (i).toNat ({ A := e2.A, B := w64 (k2 + 1), Length := e2.Length, Risk := e2.Risk } : Fiber)).set (i).toNat ({ A := e3.A, B := e3.B, Length := w64 ((w64 (k2 + 1)) + 1), Risk := e3.Risk } : Fiber)).set (i).toNat ({ A := e4.A, B := e4.B, Length := e4.Length, Risk := w64 ((w64 ((w64 (k2 + 1)) + 1)) + 1) } : Fiber)).length c)), (1, (.int .i64 (w64 ((w64 ((w64 (k2 + 1)) + 1)) + 1)))), (5, (.int .i64 i)), (24, (.int .i64 (w64 (k2 + 1)))), (25, (.int .i64 (w64 ((w64 (k2 + 1)) + 1)))), (26, (.slice A ((((a2.set (i).toNat ({ A := k2, B := e.B, Length := e.Length, Risk := e.Risk } : Fiber)).set (i).toNat ({ A := e2.A, B := w64 (k2 + 1), Length := e2.Length, Risk := e2.Risk } : Fiber)).set (i).toNat ({ A := e3.A, B := e3.B, Length := w64 ((w64 (k2 + 1)) + 1), Risk := e3.Risk } : Fiber)).set (i).toNat ({ A := e4.A, B := e4.B, Length := e4.Length, Risk := w64 ((w64 ((w64 (k2 + 1)) + 1)) + 1) } : Fiber)).length c)), (27, (.int .i64 i)), (28, (.int .i64 (w64 ((w64 (k2 + 1)) + 1)))), (29, (.pointer (some ⟨p3, o3 + 0, none⟩))), (30, (.pointer (some ⟨p3, o3 + 2, none⟩))), (31, (.int .i64 (w64 ((w64 (k2 + 1)) + 1)))), (32, (.int .i64 (w64 ((w64 ((w64 (k2 + 1)) + 1)) + 1)))), (33, (.slice A ((((a2.set (i).toNat ({ A := k2, B := e.B, Length := e.Length, Risk := e.Risk } : Fiber)).set (i).toNat ({ A := e2.A, B := w64 (k2 + 1), Length := e2.Length, Risk := e2.Risk } : Fiber)).set (i).toNat ({ A := e3.A, B := e3.B, Length := w64 ((w64 (k2 + 1)) + 1), Risk := e3.Risk } : Fiber)).set (i).toNat ({ A := e4.A, B := e4.B, Length := e4.Length, Risk := w64 ((w64 ((w64 (k2 + 1)) + 1)) + 1) } : Fiber)).length c)), (34, (.int .i64 i)), (35, (.int .i64 (w64 ((w64 ((w64 (k2 + 1)) + 1)) + 1)))), (36, (.pointer (some ⟨p4, o4 + 0, none⟩))), (37, (.pointer (some ⟨p4, o4 + 3, none⟩)))] := by simpa only [List.length_set, Nat.add_zero] using hf
   have hf := hf.prune [0, 1, 5] rfl
   refine wl_end (then_n (reg (pr 3 hf rfl rfl fun a hf => ?_)))
   refine wl_end (blk_n (then_n (reg (pr 3 hf rfl rfl fun a hf => ?_))))
   refine wl_end ?_
   have hf := hf.prune [0, 1, 5] rfl
   have hf : Fr a 41 [(0, (.slice A a'.length c)), (1, (.int .i64 (w64 ((w64 ((w64 ((w64 (k2 + 1)) + 1)) + 1)) + 1)))), (5, (.int .i64 (w64 (i + 1))))] := by first | exact hf | (simp only [List.length_set, hlen] at hf; exact hf)
   have H := H.let [] [true] [] []
   exact then_n ⟨((((a2.set (i).toNat ({ A := k2, B := e.B, Length := e.Length, Risk := e.Risk } : Fiber)).set (i).toNat ({ A := e2.A, B := w64 (k2 + 1), Length := e2.Length, Risk := e2.Risk } : Fiber)).set (i).toNat ({ A := e3.A, B := e3.B, Length := w64 ((w64 (k2 + 1)) + 1), Risk := e3.Risk } : Fiber)).set (i).toNat ({ A := e4.A, B := e4.B, Length := e4.Length, Risk := w64 ((w64 ((w64 (k2 + 1)) + 1)) + 1) } : Fiber), w64 ((w64 ((w64 ((w64 (k2 + 1)) + 1)) + 1)) + 1), w64 (i + 1)), hR1, (by simp only [List.length_set, hlen]), hf, H⟩
  ·refine wp_exit (then_x (then_x (blk_e (?_))))
   have hf := hf.prune [0, 1, 5] rfl
   have hf : Fr a 41 [(0, (.slice A a'.length c)), (1, (.int .i64 k2)), (5, (.int .i64 i))] := by first | exact hf | (simp only [List.length_set, hlen] at hf; exact hf)
   have H := H.let [] [true] [] []
   exact ⟨(a2, k2, i), (Option.some.inj hR1).symm, (by simp only [List.length_set, hlen]), hf, H⟩
 rintro a w ⟨⟨a3, k3, i2⟩, rfl, hlen, hf, H⟩
 try dsimp only at hlen
 have hf : Fr a 41 [(0, (.slice A a3.length c)), (1, (.int .i64 k3)), (5, (.int .i64 i2))] := by rw [hlen]; exact hf
 dsimp only at hF
 refine then_n (sq (reg (pr 2 hf rfl rfl fun a hf => ?_)))
 refine wl_end (then_n (wp_ret (?_)))
 have H := H.rowOwn 0 rfl rfl
 obtain ⟨F', H⟩ := H.freezeOwn 0 rfl
 rw [hlen] at H
 obtain rfl := Option.some.inj hF
 refine ret_1 (fn := Try.f61) (r := .tmp 4) hf rfl (rv_tmp hf rfl) ?_
 exact ⟨_, rfl, H.chg, mk_int, _, H.ownAt 0 rfl, H.back⟩

/- loop.example/g00897/laws.markNetwork -/
set_option maxHeartbeats 1000000 in
theorem laws_markNetwork_ok {fu : Nat} {w0 : World} {S : Nat → Prop} {F : List Nat} {cs : List Value} {v1_ : Value} {a' : Network} {k' : Int} {r : Int × Network} (hO : GoTy.own w0 F cs a') (hn : F.Nodup) (h1 : VR w0 S v1_ k') (hF : laws_markNetwork fu a' k' = some r) :
    Calls Try.prog 21 [(bif GoTy.agg (Network) then .agg cs.toArray else cs.headD undef), v1_].toArray w0 fun e w' => ∃ v, e = .returned v ∧ (Chg w0 w' F ∧ VR w' (fun _ => True) v r.1 ∧ ∃ F', GoTy.own w' F' cs r.2 ∧ Back w0 w' F F') := by
 obtain rfl := VR_int h1
 obtain ⟨A1, c1, F1, A2, c2, F2, rfl, hFe, l1, l2⟩ := Network_own hO
 have H := Mem.startG S hO hn
 have H := H.recast (X := [(⟨F, MP.own F [(.slice A1 a'.Nodes.length c1), (.slice A2 a'.Fibers.length c2)] (a' : Network)⟩ : DI)]) (Y := [(⟨F1, MP.own F1 [(.slice A1 a'.Nodes.length c1)] (a'.Nodes : List ByteArray)⟩ : DI), (⟨F2, MP.own F2 [(.slice A2 a'.Fibers.length c2)] (a'.Fibers : List Fiber)⟩ : DI)]) (D := []) (List.Perm.of_eq (by simp [hFe])) fun _ => (ps1 l1 (ps1 l2 ps0))
 have H := H.lend 0 rfl
 have H := H.lend 1 rfl
 refine enter Try.func21 rfl rfl (nle rfl) rfl fun a hf => ?_
 rw [laws_markNetwork] at hF
 refine sq (reg (wl0 rfl (op_box hf H rfl rfl (by decide) fun b' a w hf H => ?_)))
 refine pr 1 hf rfl rfl fun a hf => ?_
 refine wl_end (then_n (sq (reg (pr 1 hf rfl rfl fun a hf => ?_))))
 refine wl0 rfl (op_q hf (rq_loadB hf H TF.ls22 0 rfl rfl rfl) rfl (by decide) fun a hf => ?_)
 refine pr 1 hf rfl rfl fun a hf => ?_
 obtain ⟨y, hy, hF⟩ := bind_some hF
 refine wl0 rfl (op_call hf TF.cl60 rfl (by decide) (laws_markStringS_ok (S := fun _ => True) (F := F1) (cs := [(.slice A1 a'.Nodes.length c1)]) (H.ownAt 0 rfl) H.diNd.1 mk_int hy) fun v w a hp hf => ?_)
 obtain ⟨hch, hv, F4, ho, hbk⟩ := hp
 obtain rfl := VR_int hv
 have H := H.wrote rfl hch ho hbk
 have H := H.lend 0 rfl
 have H := H.lend 1 rfl
 refine pr 1 hf rfl rfl fun a hf => ?_
 refine wl_end (then_n (sq (reg (pr 1 hf rfl rfl fun a hf => ?_))))
 refine wl0 rfl (op_q hf (rq_loadB hf H TF.ls30 0 rfl rfl rfl) rfl (by decide) fun a hf => ?_)
 refine pr 1 hf rfl rfl fun a hf => ?_
 have H := H.frontD 1 rfl
 obtain ⟨y2, hy2, hF⟩ := bind_some hF
 refine wl0 rfl (op_call hf TF.cl61 rfl (by decide) (laws_markFiberS_ok (S := fun _ => True) (F := F2) (cs := [(.slice A2 a'.Fibers.length c2)]) (H.ownAt 0 rfl) H.diNd.1 mk_int hy2) fun v2 w a hp2 hf => ?_)
 obtain ⟨hch2, hv2, F5, ho2, hbk2⟩ := hp2
 obtain rfl := VR_int hv2
 have H := H.wrote rfl hch2 ho2 hbk2
 have H := H.lend 0 rfl
 have H := H.lend 1 rfl
 refine pr 1 hf rfl rfl fun a hf => ?_
 refine wl_end (then_n (sq (reg (pr 2 hf rfl rfl fun a hf => ?_))))
 refine wl_end (then_n (wp_ret (?_)))
 have H := H.frontD 1 rfl
 have H := H.recast (X := [(⟨F4, MP.own F4 [(.slice A1 a'.Nodes.length c1)] (y.2 : List ByteArray)⟩ : DI), (⟨F5, MP.own F5 [(.slice A2 a'.Fibers.length c2)] (y2.2 : List Fiber)⟩ : DI)]) (Y := [(⟨(F4 ++ F5), MP.own (F4 ++ F5) [(.slice A1 a'.Nodes.length c1), (.slice A2 a'.Fibers.length c2)] (({ Nodes := y.2, Fibers := y2.2 } : Network) : Network)⟩ : DI)]) (List.Perm.of_eq (by simp)) fun _ => ps1 (Network_ownmk (x := ({ Nodes := y.2, Fibers := y2.2 } : Network)) (H.ownAt 0 rfl) (H.ownAt 1 rfl)) ps0
 obtain rfl := Option.some.inj hF
 refine ret_1 (fn := Try.f21) (r := .tmp 4) hf rfl (rv_tmp hf rfl) ?_
 exact ⟨_, rfl, H.chg, mk_int, _, H.ownAt 0 rfl, H.back⟩

/- loop.example/g00897/laws.markIntS -/
set_option maxHeartbeats 1000000 in
theorem laws_markIntS_ok {fu : Nat} {w0 : World} {S : Nat → Prop} {F : List Nat} {cs : List Value} {v1_ : Value} {a' : List Int} {k' : Int} {r : Int × List Int} (hO : GoTy.own w0 F cs a') (hn : F.Nodup) (h1 : VR w0 S v1_ k') (hF : laws_markIntS fu a' k' = some r) :
    Calls Try.prog 23 [(bif GoTy.agg (List Int) then .agg cs.toArray else cs.headD undef), v1_].toArray w0 fun e w' => ∃ v, e = .returned v ∧ (Chg w0 w' F ∧ VR w' (fun _ => True) v r.1 ∧ ∃ F', GoTy.own w' F' cs r.2 ∧ Back w0 w' F F') := by
 obtain rfl := VR_int h1
 obtain ⟨A, c, rfl, hO⟩ := own_list hO
 have H := Mem.startG S hO hn
 obtain ⟨Fs, E, H, -⟩ := H.thaw rfl
 have H := H.rowSh 0 rfl
 refine enter Try.func23 rfl rfl (nle rfl) rfl fun a hf => ?_
 rw [laws_markIntS] at hF
 refine sq (reg (pr 1 hf rfl rfl fun a hf => ?_))
 refine wl_end (then_n (sq (sq (reg (pr 1 hf rfl rfl fun a hf => ?_)))))
 refine wl_end (then_n ?_)
 obtain ⟨out', hB1, hF⟩ := bind_some hF
 have hf := hf.prune [0, 1, 5] rfl
 have hf : Fr a 19 [(0, (.slice A a'.length c)), (1, (.int .i64 k')), (5, (.int .i64 0))] := by first | exact hf | (simp only [List.length_set] at hf; exact hf)
 have H := H.let [] [true] [] []
 refine loopC (fun (s : List Int × Int × Int) (a : Act) (w : World) => match s with | (a2, k2, i) => a2.length = a'.length ∧ Fr a 19 [(0, (.slice A a'.length c)), (1, (.int .i64 k2)), (5, (.int .i64 i))] ∧ Mem ⟨w0, F⟩ S [] [⟨.sh true, E, A, c, (a2 : List Int)⟩] [] [] w) (fun k (s : List Int × Int × Int) => laws_markIntS_L1 fu k s.1 s.2.1 s.2.2 = some out') (fun s => out' = s) (a', k', 0) fu hB1 ⟨rfl, hf, H⟩ (fun s h => by cases h) ?_ ?_
 ·rintro fk ⟨a2, k2, i⟩ a w hR1 hI
  replace hR1 : laws_markIntS_L1 fu (fk + 1) a2 k2 i = some out' := hR1
  rw [laws_markIntS_L1] at hR1
  obtain ⟨hlen, hf, H⟩ := hI
  have hf : Fr a 19 [(0, (.slice A a2.length c)), (1, (.int .i64 k2)), (5, (.int .i64 i))] := by rw [hlen]; exact hf
  refine sq (sq (reg (pr 4 hf rfl rfl fun a hf => ?_)))
  refine wl_end (then_n (iteB hR1 (fun hc hR1 => cd_t hf rfl hc ?_) fun hc hR1 => cd_f hf rfl hc ?_))
  ·refine wp_skip (then_n (sq (wp_block (sq (reg (pr 3 hf rfl rfl fun a hf => ?_))))))
   obtain ⟨e, he, hR1⟩ := bind_some hR1
   refine wl0 rfl (op_iaddrR hf H Try.underlying26 TF.sz3 0 rfl rfl rfl he (by decide) fun p o cs a hf hA hr hk => ?_)
   obtain rfl := hr
   refine wl0 rfl (op_storeR (e' := k2) hf H TF.sz3 0 rfl rfl rfl rfl rfl (nle rfl) rfl hA he (st_full rfl) fun w H => ?_)
   replace hf : Fr a 19 [(0, (.slice A a2.length c)), (1, (.int .i64 k2)), (5, (.int .i64 i)), (6, (.int .i64 i)), (7, (.slice A a2.length c)), (8, (.int .i64 (a2.length : Int))), (9, (.bool (decide (i < (a2.length : Int))))), (12, (.slice A a2.length c)), (13, (.int .i64 i)), (14, (.int .i64 k2)), (15, (.pointer (some ⟨p, o + 0, none⟩)))] := hf.prune [0, 1, 5, 6, 7, 8, 9, 12, 13, 14, 15] rfl
   replace hf : Fr a 19 [(0, (.slice A (a2.set (i).toNat k2).length c)), (1, (.int .i64 k2)), (5, (.int .i64 i)), (6, (.int .i64 i)), (7, (.slice A (a2.set (i).toNat k2).length c)), (8, (.int .i64 (a2.length : Int))), (9, (.bool (decide (i < (a2.length : Int))))), (12, (.slice A (a2.set (i).toNat k2).length c)), (13, (.int .i64 i)), (14, (.int .i64 k2)), (15, (.pointer (some ⟨p, o + 0, none⟩)))] := by simpa only [List.length_set, Nat.add_zero] using hf
   refine wl_end (then_n (reg (pr 3 hf rfl rfl fun a hf => ?_)))
   refine wl_end (blk_n (then_n (reg (pr 3 hf rfl rfl fun a hf => ?_))))
   refine wl_end ?_
   have hf := hf.prune [0, 1, 5] rfl
   have hf : Fr a 19 [(0, (.slice A a'.length c)), (1, (.int .i64 (w64 (k2 + 1)))), (5, (.int .i64 (w64 (i + 1))))] := by first | exact hf | (simp only [List.length_set, hlen] at hf; exact hf)
   have H := H.let [] [true] [] []
   exact then_n ⟨(a2.set (i).toNat k2, w64 (k2 + 1), w64 (i + 1)), hR1, (by simp only [List.length_set, hlen]), hf, H⟩
  ·refine wp_exit (then_x (then_x (blk_e (?_))))
   have hf := hf.prune [0, 1, 5] rfl
   have hf : Fr a 19 [(0, (.slice A a'.length c)), (1, (.int .i64 k2)), (5, (.int .i64 i))] := by first | exact hf | (simp only [List.length_set, hlen] at hf; exact hf)
   have H := H.let [] [true] [] []
   exact ⟨(a2, k2, i), (Option.some.inj hR1).symm, (by simp only [List.length_set, hlen]), hf, H⟩
 rintro a w ⟨⟨a3, k3, i2⟩, rfl, hlen, hf, H⟩
 try dsimp only at hlen
 have hf : Fr a 19 [(0, (.slice A a3.length c)), (1, (.int .i64 k3)), (5, (.int .i64 i2))] := by rw [hlen]; exact hf
 dsimp only at hF
 refine then_n (sq (reg (pr 2 hf rfl rfl fun a hf => ?_)))
 refine wl_end (then_n (wp_ret (?_)))
 have H := H.rowOwn 0 rfl rfl
 obtain ⟨F', H⟩ := H.freezeOwn 0 rfl
 rw [hlen] at H
 obtain rfl := Option.some.inj hF
 refine ret_1 (fn := Try.f23) (r := .tmp 4) hf rfl (rv_tmp hf rfl) ?_
 exact ⟨_, rfl, H.chg, mk_int, _, H.ownAt 0 rfl, H.back⟩

/- loop.example/g00897/laws.markRoute -/
set_option maxHeartbeats 1000000 in
theorem laws_markRoute_ok {fu : Nat} {w0 : World} {S : Nat → Prop} {F : List Nat} {cs : List Value} {v1_ : Value} {a' : Route} {k' : Int} {r : Int × Route} (hO : GoTy.own w0 F cs a') (hn : F.Nodup) (h1 : VR w0 S v1_ k') (hF : laws_markRoute fu a' k' = some r) :
    Calls Try.prog 22 [(bif GoTy.agg (Route) then .agg cs.toArray else cs.headD undef), v1_].toArray w0 fun e w' => ∃ v, e = .returned v ∧ (Chg w0 w' F ∧ VR w' (fun _ => True) v r.1 ∧ ∃ F', GoTy.own w' F' cs r.2 ∧ Back w0 w' F F') := by
 obtain rfl := VR_int h1
 obtain ⟨A1, c1, F1, rfl, hFe, l1⟩ := Route_own hO
 have H := Mem.startG S hO hn
 have H := H.recast (X := [(⟨F, MP.own F [(.int .i64 a'.Start), (.slice A1 a'.Fibers.length c1)] (a' : Route)⟩ : DI)]) (Y := [(⟨F1, MP.own F1 [(.slice A1 a'.Fibers.length c1)] (a'.Fibers : List Int)⟩ : DI)]) (D := []) (List.Perm.of_eq (by simp [hFe])) fun _ => (ps1 l1 ps0)
 have H := H.lend 0 rfl
 refine enter Try.func22 rfl rfl (nle rfl) rfl fun a hf => ?_
 rw [laws_markRoute] at hF
 refine sq (reg (wl0 rfl (op_box hf H rfl rfl (by decide) fun b' a w hf H => ?_)))
 refine pr 1 hf rfl rfl fun a hf => ?_
 refine wl_end (then_n (sq (reg (pr 1 hf rfl rfl fun a hf => ?_))))
 refine wl0 rfl (op_q hf (rq_loadB hf H TF.ls26 0 rfl rfl rfl) rfl (by decide) fun a hf => ?_)
 refine pr 1 hf rfl rfl fun a hf => ?_
 obtain ⟨y, hy, hF⟩ := bind_some hF
 refine wl0 rfl (op_call hf TF.cl23 rfl (by decide) (laws_markIntS_ok (S := fun _ => True) (F := F1) (cs := [(.slice A1 a'.Fibers.length c1)]) (H.ownAt 0 rfl) H.diNd.1 mk_int hy) fun v w a hp hf => ?_)
 obtain ⟨hch, hv, F3, ho, hbk⟩ := hp
 obtain rfl := VR_int hv
 have H := H.wrote rfl hch ho hbk
 have H := H.lend 0 rfl
 refine pr 1 hf rfl rfl fun a hf => ?_
 refine wl_end (then_n (sq (reg (pr 2 hf rfl rfl fun a hf => ?_))))
 refine wl_end (then_n (wp_ret (?_)))
 have H := H.recast (X := [(⟨F3, MP.own F3 [(.slice A1 a'.Fibers.length c1)] (y.2 : List Int)⟩ : DI)]) (Y := [(⟨F3, MP.own F3 [(.int .i64 a'.Start), (.slice A1 a'.Fibers.length c1)] (({ Start := a'.Start, Fibers := y.2 } : Route) : Route)⟩ : DI)]) (List.Perm.of_eq (by simp)) fun _ => ps1 (Route_ownmk (x := ({ Start := a'.Start, Fibers := y.2 } : Route)) (H.ownAt 0 rfl)) ps0
 obtain rfl := Option.some.inj hF
 refine ret_1 (fn := Try.f22) (r := .tmp 4) hf rfl (rv_tmp hf rfl) ?_
 exact ⟨_, rfl, H.chg, mk_int, _, H.ownAt 0 rfl, H.back⟩

/- loop.example/g00897/laws.heldIntS -/
set_option maxHeartbeats 1000000 in
theorem laws_heldIntS_ok {fu : Nat} {w0 : World} {S : Nat → Prop} {v0_ : Value} {v1_ : Value} {a' : List Int} {k' : Int} {r : Int} (h0 : VR w0 S v0_ a') (h1 : VR w0 S v1_ k') (hF : laws_heldIntS fu a' k' = some r) :
    Calls Try.prog 24 [v0_, v1_].toArray w0 fun e w' => ∃ v, e = .returned v ∧ (Below w0.heap.size w0 w' ∧ VR w' (St ⟨w0, []⟩ S [] [] [] true) v r) := by
 obtain ⟨A, c, rfl, hl⟩ := VR_list h0
 obtain rfl := VR_int h1
 have H := Mem.start ⟨w0, []⟩ S
 have H := H.pushArg (MP.val [(.slice A a'.length c)] a') hl
 refine enter Try.func24 rfl rfl (nle rfl) rfl fun a hf => ?_
 rw [laws_heldIntS] at hF
 refine sq (reg (pr 1 hf rfl rfl fun a hf => ?_))
 refine wl_end (then_n (sq (sq (reg (pr 1 hf rfl rfl fun a hf => ?_)))))
 refine wl_end (then_n ?_)
 obtain ⟨out', hB1, hF⟩ := bind_some hF
 have hf := hf.prune [0, 1, 5] rfl
 have H := H.let [] [] [] [0]
 refine loopC (fun (s : Int × Int) (a : Act) (w : World) => match s with | (k2, i) => Fr a 21 [(0, (.slice A a'.length c)), (1, (.int .i64 k2)), (5, (.int .i64 i))] ∧ Mem ⟨w0, []⟩ S [] [] [] [(false, MP.val [(.slice A a'.length c)] (a' : List Int))] w) (fun k (s : Int × Int) => laws_heldIntS_L1 fu a' k s.1 s.2 = some out') (fun s => out' = Out.next s) (k', 0) fu hB1 ⟨hf, H⟩ (fun s h => by cases h) ?_ ?_
 ·rintro fk ⟨k2, i⟩ a w hR1 hI
  replace hR1 : laws_heldIntS_L1 fu a' (fk + 1) k2 i = some out' := hR1
  rw [laws_heldIntS_L1] at hR1
  obtain ⟨hf, H⟩ := hI
  refine sq (sq (reg (pr 4 hf rfl rfl fun a hf => ?_)))
  refine wl_end (then_n (iteB hR1 (fun hc hR1 => cd_t hf rfl hc ?_) fun hc hR1 => cd_f hf rfl hc ?_))
  ·refine wp_skip (then_n (sq (wp_block (sq (sq (reg (pr 2 hf rfl rfl fun a hf => ?_)))))))
   obtain ⟨e, he, hR1⟩ := bind_some hR1
   refine wl0 rfl (op_iaddr hf H Try.underlying26 TF.sz3 0 rfl rfl rfl he (by decide) fun p o cs a hf hr H => ?_)
   obtain rfl := hr
   refine wl0 rfl (op_q hf (rq_loadI hf H TF.ls3 0 0 rfl rfl rfl) rfl (by decide) fun a hf => ?_)
   refine pr 2 hf rfl rfl fun a hf => ?_
   refine wl_end (then_n (iteB hR1 (fun hc2 hR1 => cd_t hf rfl hc2 ?_) fun hc2 hR1 => cd_f hf rfl hc2 ?_))
   ·refine sq (reg (pr 1 hf rfl rfl fun a hf => ?_))
    have hf := hf.prune [4] rfl
    refine wl_end (then_n (wp_ret (then_r (blk_r (then_r (then_r (blk_r (then_r (then_r (?_))))))))))
    obtain rfl := Option.some.inj hR1
    replace hF := on_ret hF
    obtain rfl := Option.some.inj hF
    refine ret_1 (fn := Try.f24) (r := .tmp 4) hf rfl (rv_tmp hf rfl) ?_
    exact ⟨_, rfl, H.bel, mk_int⟩
   ·refine wp_skip (then_n (reg (pr 3 hf rfl rfl fun a hf => ?_)))
    refine wl_end (blk_n (then_n (reg (pr 3 hf rfl rfl fun a hf => ?_))))
    have hf := hf.prune [0, 1, 5] rfl
    refine wl_end ?_
    have hf := hf.prune [0, 1, 5] rfl
    have H := H.let [] [] [] [1]
    exact then_n ⟨(w64 (k2 + 1), w64 (i + 1)), hR1, hf, H⟩
  ·refine wp_exit (then_x (then_x (blk_e (?_))))
   have hf := hf.prune [0, 1, 5] rfl
   have H := H.let [] [] [] [0]
   exact ⟨(k2, i), (Option.some.inj hR1).symm, hf, H⟩
 rintro a w ⟨⟨k3, i2⟩, rfl, hf, H⟩
 replace hF := on_next hF
 dsimp only at hF
 refine then_n (sq (reg (pr 2 hf rfl rfl fun a hf => ?_)))
 refine wl_end (then_n (wp_ret (?_)))
 obtain rfl := Option.some.inj hF
 refine ret_1 (fn := Try.f24) (r := .tmp 4) hf rfl (rv_tmp hf rfl) ?_
 exact ⟨_, rfl, H.bel, mk_int⟩

/- loop.example/g00897/laws.FnExactSegmentLengths -/
set_option maxHeartbeats 1000000 in
theorem laws_FnExactSegmentLengths_ok {fu : Nat} {w0 : World} {S : Nat → Prop} {v0_ : Value} {v1_ : Value} {v2_ : Value} {aN : Network} {aR : Route} {aNodes : List Int} {r : Bool} (h0 : VR w0 S v0_ aN) (h1 : VR w0 S v1_ aR) (h2 : VR w0 S v2_ aNodes) (hF : laws_FnExactSegmentLengths fu aN aR aNodes = some r) :
    Calls Try.prog 4 [v0_, v1_, v2_].toArray w0 fun e w' => ∃ v, e = .returned v ∧ (Below w0.heap.size w0 w' ∧ VR w' (St ⟨w0, []⟩ S [] [] [] true) v r) := by
 obtain ⟨A, c, A2, c2, rfl, hl, hl2⟩ := Network_open h0
 obtain ⟨A3, c3, rfl, hl3⟩ := Route_open h1
 obtain ⟨A4, c4, rfl, hl4⟩ := VR_list h2
 have H := Mem.start ⟨w0, []⟩ S
 have H := H.pushArg (MP.val [(.slice A aN.Nodes.length c)] aN.Nodes) hl
 have H := H.pushArg (MP.val [(.slice A2 aN.Fibers.length c2)] aN.Fibers) hl2
 have H := H.pushArg (MP.val [(.slice A3 aR.Fibers.length c3)] aR.Fibers) hl3
 have H := H.pushArg (MP.val [(.slice A4 aNodes.length c4)] aNodes) hl4
 refine enter Try.func4 rfl rfl (nle rfl) rfl fun a hf => ?_
 rw [laws_FnExactSegmentLengths] at hF
 refine sq (reg (wl0 rfl (op_box hf H rfl rfl (by decide) fun b' a w hf H => ?_)))
 refine wl0 rfl (op_box hf H rfl rfl (by decide) fun b2 a w hf H => ?_)
 refine pr 1 hf rfl rfl fun a hf => ?_
 refine wl_end (then_n (sq (sq (reg (pr 3 hf rfl rfl fun a hf => ?_)))))
 refine wl_end (then_n (iteB hF (fun hc hF => cd_t hf rfl hc ?_) fun hc hF => cd_f hf rfl hc ?_))
 ·refine sq (reg (pr 1 hf rfl rfl fun a hf => ?_))
  refine wl_end (then_n (wp_ret (then_r (?_))))
  obtain rfl := Option.some.inj hF
  refine ret_1 (fn := Try.f4) (r := .tmp 6) hf rfl (rv_tmp hf rfl) ?_
  exact ⟨_, rfl, H.bel, mk_bool⟩
 ·refine wp_skip (then_n (sq (reg (pr 1 hf rfl rfl fun a hf => ?_))))
  refine wl_end (then_n (sq (reg (wl0 rfl (op_q hf (rq_loadBN hf H TF.la25 1 rfl rfl rfl rfl) rfl (by decide) fun a hf => ?_)))))
  refine pr 1 hf rfl rfl fun a hf => ?_
  obtain ⟨y, hy, hF⟩ := bind_some hF
  refine wl0 rfl (op_call hf TF.cl9 rfl (by decide) (laws_szNetwork_ok (S := fun _ => True) (Network_mkv (x := aN) (rep_true (α := List ByteArray) (H.get 3 rfl)) (rep_true (α := List Fiber) (H.get 2 rfl))) mk_int hy) fun v w a hp hf => ?_)
  obtain ⟨hb, hp⟩ := hp
  obtain rfl := VR_int hp
  have H := H.keep hb
  refine pr 1 hf rfl rfl fun a hf => ?_
  refine wl_end (then_n (sq (sq (reg (pr 2 hf rfl rfl fun a hf => ?_)))))
  refine wl_end (then_n (iteB hF (fun hc2 hF => cd_t hf rfl hc2 ?_) fun hc2 hF => cd_f hf rfl hc2 ?_))
  ·refine sq (reg (pr 1 hf rfl rfl fun a hf => ?_))
   have hf := hf.prune [6] rfl
   refine wl_end (then_n (wp_ret (then_r (?_))))
   obtain rfl := Option.some.inj hF
   refine ret_1 (fn := Try.f4) (r := .tmp 6) hf rfl (rv_tmp hf rfl) ?_
   exact ⟨_, rfl, H.bel, mk_bool⟩
  ·refine wp_skip (then_n (sq (reg (wl0 rfl (op_q hf (rq_loadBN hf H TF.la39 0 rfl rfl rfl rfl) rfl (by decide) fun a hf => ?_)))))
   refine pr 1 hf rfl rfl fun a hf => ?_
   obtain ⟨y2, hy2, hF⟩ := bind_some hF
   refine wl0 rfl (op_call hf TF.cl16 rfl (by decide) (laws_szRoute_ok (S := fun _ => True) (Route_mkv (x := aR) (rep_true (α := List Int) (H.get 1 rfl))) mk_int hy2) fun v2 w a hp2 hf => ?_)
   obtain ⟨hb2, hp2⟩ := hp2
   obtain rfl := VR_int hp2
   have H := H.keep hb2
   refine pr 1 hf rfl rfl fun a hf => ?_
   have hf := hf.prune [2, 3, 4, 7] rfl
   refine wl_end (then_n (sq (sq (reg (pr 2 hf rfl rfl fun a hf => ?_)))))
   refine wl_end (then_n (iteB hF (fun hc3 hF => cd_t hf rfl hc3 ?_) fun hc3 hF => cd_f hf rfl hc3 ?_))
   ·refine sq (reg (pr 1 hf rfl rfl fun a hf => ?_))
    refine wl_end (then_n (wp_ret (then_r (?_))))
    obtain rfl := Option.some.inj hF
    refine ret_1 (fn := Try.f4) (r := .tmp 6) hf rfl (rv_tmp hf rfl) ?_
    exact ⟨_, rfl, H.bel, mk_bool⟩
   ·refine wp_skip (then_n (sq (drawn [] (bs := [false, false, false, false, false, false, false, false, false, false, false, false]) (fuel := 12) (Checked.mixed Try.checked) rfl rfl fun w hb => ?_)))
    have H := H.keep hb
    refine strT H (fun w H => trivial) fun hS => ?_
    refine tS 0 [] rfl rfl rfl rfl hf (by kernel_rfl) (by kernel_rfl) hS (fun w H => rq_loadBN hf H TF.la25 1 rfl rfl rfl rfl) fun a hf => ?_
    refine tS 2 [] rfl rfl rfl rfl hf (by kernel_rfl) (by kernel_rfl) hS (fun w H => rq_loadBN hf H TF.la39 0 rfl rfl rfl rfl) fun a hf => ?_
    refine tp 4 rfl rfl hf (by kernel_rfl) (fun _ => hS) rfl fun a hf => ?_
    obtain ⟨y3, hy3, hF⟩ := bind_some hF
    refine n1 1 (by kernel_rfl) rfl rfl (op_call hf TF.cl11 rfl (by decide) (laws_toNetwork_ok (S := fun _ => True) (Network_mkv (x := aN) (rep_true (α := List ByteArray) (H.get 3 rfl)) (rep_true (α := List Fiber) (H.get 2 rfl))) hy3) fun v3 w a hp3 hf => ?_)
    obtain ⟨hb3, F, hp4, hN⟩ := hp3
    obtain ⟨A5, c5, F2, A6, c6, F3, rfl, rfl, hl5, hl6⟩ := Network_vo hp4
    have H := H.addOwn hb3 (X := [(⟨F2, MP.own F2 [(.slice A5 y3.Nodes.length c5)] (y3.Nodes : List ByteArray)⟩ : DI), (⟨F3, MP.own F3 [(.slice A6 y3.Fibers.length c6)] (y3.Fibers : List Fiber)⟩ : DI)]) (by simpa using hN.1) (ps1 hl5 (ps1 hl6 ps0)) (by simpa using hN.2)
    have H := H.lend 0 rfl
    have H := H.lend 1 rfl
    have hS := H.let [true, true] [] [false, false] [2, 3, 4, 5]
    refine ⟨fun _ => hS, ?_⟩
    obtain ⟨y4, hy4, hF⟩ := bind_some hF
    refine n1 3 (by kernel_rfl) rfl rfl (op_call hf TF.cl18 rfl (by decide) (laws_toRoute_ok (S := fun _ => True) (Route_mkv (x := aR) (rep_true (α := List Int) (H.get 3 rfl))) hy4) fun v4 w a hp5 hf => ?_)
    obtain ⟨hb4, F4, hp6, hN2⟩ := hp5
    obtain ⟨A7, c7, F5, rfl, rfl, hl7⟩ := Route_vo hp6
    have H := H.addOwn hb4 (X := [(⟨F5, MP.own F5 [(.slice A7 y4.Fibers.length c7)] (y4.Fibers : List Int)⟩ : DI)]) (by simpa using hN2.1) (ps1 hl7 ps0) (by simpa using hN2.2)
    have H := H.lend 0 rfl
    have hS := H.let [true, true] [] [false, false, false] [3, 4, 5, 6]
    refine ⟨fun _ => hS, ?_⟩
    obtain ⟨y5, hy5, hF⟩ := bind_some hF
    refine n1 5 (by kernel_rfl) rfl rfl (op_call hf TF.cl12 rfl (by decide) (laws_toIntS_ok (S := fun _ => True) (mk_list (rep_true (α := List Int) (H.get 3 rfl))) hy5) fun v5 w a hp7 hf => ?_)
    obtain ⟨hb5, F6, hp8, hN3⟩ := hp7
    obtain ⟨A8, c8, rfl, hl8⟩ := VO_list hp8
    have H := H.addOwn hb5 (X := [(⟨F6, MP.own F6 [(.slice A8 y5.length c8)] (y5 : List Int)⟩ : DI)]) (by simpa using hN3.1) (ps1 hl8 ps0) (by simpa using hN3.2)
    have H := H.lend 0 rfl
    have hS := H.let [true, true] [] [false, false, false, false] [4, 5, 6, 7]
    refine ⟨fun _ => hS, ?_⟩
    obtain ⟨y6, hy6, hF⟩ := bind_some hF
    refine n1 6 (by kernel_rfl) rfl rfl (op_call hf TF.cl17 rfl (by decide) (spec_SegmentLengths_ok (S := fun _ => True) (Network_mkv (x := y3) (rep_true (α := List ByteArray) (H.get 3 rfl)) (rep_true (α := List Fiber) (H.get 2 rfl))) (Route_mkv (x := y4) (rep_true (α := List Int) (H.get 1 rfl))) (mk_list (rep_true (α := List Int) (H.get 0 rfl))) hy6) fun v6 w a hp9 hf => ?_)
    obtain ⟨hb6, F8, v7, v8, rfl, hp10, hp11, hN4⟩ := hp9
    obtain ⟨A9, c9, rfl, hl9⟩ := VO_list hp10
    obtain rfl := VR_bool hp11
    have H := H.addOwn hb6 (X := [(⟨F8, MP.own F8 [(.slice A9 y6.1.length c9)] (y6.1 : List Int)⟩ : DI)]) (by simpa using hN4.1) (ps1 hl9 ps0) (by simpa using hN4.2)
    have H := H.lend 0 rfl
    have hS := H.let [true, true] [] [false, false, false, false, false] [5, 6, 7, 8]
    refine ⟨fun _ => hS, ?_⟩
    refine tp 7 rfl rfl hf (by kernel_rfl) (fun _ => hS) rfl fun a hf => ?_
    refine tp 8 rfl rfl hf (by kernel_rfl) (fun _ => hS) rfl fun a hf => ?_
    refine tp 9 rfl rfl hf (by kernel_rfl) (fun _ => hS) rfl fun a hf => ?_
    refine tp 10 rfl rfl hf (by kernel_rfl) (fun _ => hS) rfl fun a hf => ?_
    refine tp 11 rfl rfl hf (by kernel_rfl) (fun _ => hS) rfl fun a hf => ?_
    refine dn (by kernel_rfl) ?_
    have hf := hf.prune [2, 3, 4, 8, 9] rfl
    refine then_n (sq (reg (wl0 rfl (op_q hf (rq_loadBN hf H TF.la25 1 rfl rfl rfl rfl) rfl (by decide) fun a hf => ?_))))
    obtain ⟨y7, hy7, hF⟩ := bind_some hF
    refine wl0 rfl (op_call hf TF.cl11 rfl (by decide) (laws_toNetwork_ok (S := fun _ => True) (Network_mkv (x := aN) (rep_true (α := List ByteArray) (H.get 8 rfl)) (rep_true (α := List Fiber) (H.get 7 rfl))) hy7) fun v9 w a hp12 hf => ?_)
    obtain ⟨hb7, F10, hp13, hN5⟩ := hp12
    obtain ⟨A10, c10, F11, A11, c11, F12, rfl, rfl, hl10, hl11⟩ := Network_vo hp13
    have H := H.addOwn hb7 (X := [(⟨F11, MP.own F11 [(.slice A10 y7.Nodes.length c10)] (y7.Nodes : List ByteArray)⟩ : DI), (⟨F12, MP.own F12 [(.slice A11 y7.Fibers.length c11)] (y7.Fibers : List Fiber)⟩ : DI)]) (by simpa using hN5.1) (ps1 hl10 (ps1 hl11 ps0)) (by simpa using hN5.2)
    have H := H.lend 0 rfl
    have H := H.lend 1 rfl
    refine wl0 rfl (op_alloc hf H TF.zv32 rfl (by decide) fun b3 a w hf H => ?_)
    refine wl0 rfl (op_storeB hf H 0 TF.sz32 rfl rfl rfl rfl rfl rfl (nle rfl) fun w H => ?_)
    refine wl_end (then_n (sq (reg (wl0 rfl (op_q hf (rq_loadBN hf H TF.la39 1 rfl rfl rfl rfl) rfl (by decide) fun a hf => ?_)))))
    obtain ⟨y8, hy8, hF⟩ := bind_some hF
    refine wl0 rfl (op_call hf TF.cl18 rfl (by decide) (laws_toRoute_ok (S := fun _ => True) (Route_mkv (x := aR) (rep_true (α := List Int) (H.get 8 rfl))) hy8) fun v10 w a hp14 hf => ?_)
    obtain ⟨hb8, F13, hp15, hN6⟩ := hp14
    obtain ⟨A12, c12, F14, rfl, rfl, hl12⟩ := Route_vo hp15
    have H := H.addOwn hb8 (X := [(⟨F14, MP.own F14 [(.slice A12 y8.Fibers.length c12)] (y8.Fibers : List Int)⟩ : DI)]) (by simpa using hN6.1) (ps1 hl12 ps0) (by simpa using hN6.2)
    have H := H.lend 0 rfl
    refine wl0 rfl (op_alloc hf H TF.zv43 rfl (by decide) fun b4 a w hf H => ?_)
    refine wl0 rfl (op_storeB hf H 0 TF.sz43 rfl rfl rfl rfl rfl rfl (nle rfl) fun w H => ?_)
    refine wl_end (then_n (sq (reg (pr 1 hf rfl rfl fun a hf => ?_))))
    obtain ⟨y9, hy9, hF⟩ := bind_some hF
    refine wl0 rfl (op_call hf TF.cl12 rfl (by decide) (laws_toIntS_ok (S := fun _ => True) (mk_list (rep_true (α := List Int) (H.get 8 rfl))) hy9) fun v11 w a hp16 hf => ?_)
    obtain ⟨hb9, F15, hp17, hN7⟩ := hp16
    obtain ⟨A13, c13, rfl, hl13⟩ := VO_list hp17
    have H := H.addOwn hb9 (X := [(⟨F15, MP.own F15 [(.slice A13 y9.length c13)] (y9 : List Int)⟩ : DI)]) (by simpa using hN7.1) (ps1 hl13 ps0) (by simpa using hN7.2)
    have H := H.lend 0 rfl
    refine pr 1 hf rfl rfl fun a hf => ?_
    refine wl_end (then_n (sq (reg (wl0 rfl (op_q hf (rq_loadBN hf H TF.la32 1 rfl rfl rfl rfl) rfl (by decide) fun a hf => ?_)))))
    refine wl0 rfl (op_q hf (rq_loadBN hf H TF.la43 0 rfl rfl rfl rfl) rfl (by decide) fun a hf => ?_)
    refine pr 1 hf rfl rfl fun a hf => ?_
    obtain ⟨y10, hy10, hF⟩ := bind_some hF
    refine wl0 rfl (op_call hf TF.cl19 rfl (by decide) (impl_SegmentLengths_ok (S := fun _ => True) (Network_mkv (x := y7) (rep_true (α := List ByteArray) (H.get 3 rfl)) (rep_true (α := List Fiber) (H.get 2 rfl))) (Route_mkv (x := y8) (rep_true (α := List Int) (H.get 1 rfl))) (mk_list (rep_true (α := List Int) (H.get 0 rfl))) hy10) fun v12 w a hp18 hf => ?_)
    obtain ⟨hb10, F17, v13, v14, rfl, hp19, hp20, hN8⟩ := hp18
    obtain ⟨A14, c14, rfl, hl14⟩ := VO_list hp19
    obtain rfl := VR_bool hp20
    have H := H.addOwn hb10 (X := [(⟨F17, MP.own F17 [(.slice A14 y10.1.length c14)] (y10.1 : List Int)⟩ : DI)]) (by simpa using hN8.1) (ps1 hl14 ps0) (by simpa using hN8.2)
    have H := H.lend 0 rfl
    refine pr 5 hf rfl rfl fun a hf => ?_
    have hf := hf.prune [2, 3, 4, 8, 9, 10, 11, 12, 13, 14] rfl
    refine wl_end (then_n (sq (sq ?_)))
    obtain ⟨c15, hGc15, hF⟩ := bind_some hF
    have fh := hf.prune [2, 3, 4, 8, 9, 10, 11, 12, 13, 14] rfl
    have Hm := H.let [true, true, true, true] [] [true, true, true, true, true, true, false, false, false, false] [0, 1, 2, 3, 4, 5, 10, 11, 12, 13]
    refine midF 64 (.bool c15) fh Hm ?_ fun a w hf H => ?_
    ·refine reg (pr 2 hf rfl rfl fun a hf => ?_)
     obtain ⟨y11, hy11, hGc15⟩ := bind_some hGc15
     refine wl0 rfl (op_call hf TF.cl15 rfl (by decide) (laws_eqIntS_ok (S := fun _ => True) (mk_list (rep_true (α := List Int) (H.get 0 rfl))) (mk_list (rep_true (α := List Int) (H.get 5 rfl))) hy11) fun v15 w a hp21 hf => ?_)
     obtain ⟨hb11, hp21⟩ := hp21
     obtain rfl := VR_bool hp21
     have H := H.keep hb11
     refine pr 2 hf rfl rfl fun a hf => ?_
     refine iteB hGc15 (fun hc4 hGc15 => ?_) fun hc4 hGc15 => ?_
     ·have hf := hf.lit 60 rfl hc4
      refine pr 4 hf rfl rfl fun a hf => ?_
      obtain rfl := Option.some.inj hGc15
      have hf := hf.prune [64, 2, 3, 4, 8, 9, 10, 11, 12, 13, 14] rfl
      have H := H.let [true, true, true, true] [] [true, true, true, true, true, true, false, false, false, false] [0, 1, 2, 3, 4, 5, 10, 11, 12, 13]
      exact wl_end ⟨hf, H⟩
     ·have hf := hf.lit 60 rfl hc4
      refine pr 4 hf rfl rfl fun a hf => ?_
      obtain rfl := Option.some.inj hGc15
      have hf := hf.prune [64, 2, 3, 4, 8, 9, 10, 11, 12, 13, 14] rfl
      have H := H.let [true, true, true, true] [] [true, true, true, true, true, true, false, false, false, false] [0, 1, 2, 3, 4, 5, 10, 11, 12, 13]
      exact wl_end ⟨hf, H⟩
    refine then_n (iteB hF (fun hc5 hF => cd_t hf rfl hc5 ?_) fun hc5 hF => cd_f hf rfl hc5 ?_)
    ·refine sq (reg (pr 1 hf rfl rfl fun a hf => ?_))
     refine wl_end (then_n (wp_ret (then_r (?_))))
     obtain rfl := Option.some.inj hF
     refine ret_1 (fn := Try.f4) (r := .tmp 6) hf rfl (rv_tmp hf rfl) ?_
     exact ⟨_, rfl, H.bel, mk_bool⟩
    ·refine wp_skip (then_n (sq (sq (drawn [] (bs := [false, false, false, false, false]) (fuel := 5) (Checked.mixed Try.checked) rfl rfl fun w hb => ?_))))
     have H := H.keep hb
     refine strT H (fun w H => trivial) fun hS => ?_
     refine tS 0 [] rfl rfl rfl rfl hf (by kernel_rfl) (by kernel_rfl) hS (fun w H => rq_loadBN hf H TF.la32 1 rfl rfl rfl rfl) fun a hf => ?_
     refine tS 1 [] rfl rfl rfl rfl hf (by kernel_rfl) (by kernel_rfl) hS (fun w H => rq_loadBN hf H TF.la25 3 rfl rfl rfl rfl) fun a hf => ?_
     obtain ⟨y12, hy12, hF⟩ := bind_some hF
     refine n1 2 (by kernel_rfl) rfl rfl (op_call hf TF.cl11 rfl (by decide) (laws_toNetwork_ok (S := fun _ => True) (Network_mkv (x := aN) (rep_true (α := List ByteArray) (H.get 9 rfl)) (rep_true (α := List Fiber) (H.get 8 rfl))) hy12) fun v16 w a hp22 hf => ?_)
     obtain ⟨hb12, F19, hp23, hN9⟩ := hp22
     obtain ⟨A15, c16, F20, A16, c17, F21, rfl, rfl, hl15, hl16⟩ := Network_vo hp23
     have H := H.addOwn hb12 (X := [(⟨F20, MP.own F20 [(.slice A15 y12.Nodes.length c16)] (y12.Nodes : List ByteArray)⟩ : DI), (⟨F21, MP.own F21 [(.slice A16 y12.Fibers.length c17)] (y12.Fibers : List Fiber)⟩ : DI)]) (by simpa using hN9.1) (ps1 hl15 (ps1 hl16 ps0)) (by simpa using hN9.2)
     have H := H.lend 0 rfl
     have H := H.lend 1 rfl
     have hS := H.let [true, true, true, true] [] [false, false, true, true, true, true, true, true] [2, 3, 4, 5, 6, 7, 8, 9, 10, 11]
     refine ⟨fun _ => hS, ?_⟩
     obtain ⟨y13, hy13, hF⟩ := bind_some hF
     refine n1 3 (by kernel_rfl) rfl rfl (op_call hf TF.cl14 rfl (by decide) (laws_eqNetwork_ok (S := fun _ => True) (Network_mkv (x := y7) (rep_true (α := List ByteArray) (H.get 6 rfl)) (rep_true (α := List Fiber) (H.get 5 rfl))) (Network_mkv (x := y12) (rep_true (α := List ByteArray) (H.get 1 rfl)) (rep_true (α := List Fiber) (H.get 0 rfl))) hy13) fun v17 w a hp24 hf => ?_)
     obtain ⟨hb13, hp24⟩ := hp24
     obtain rfl := VR_bool hp24
     have H := H.keep hb13
     have hS := H.let [true, true, true, true] [] [false, false, true, true, true, true, true, true] [2, 3, 4, 5, 6, 7, 8, 9, 10, 11]
     refine ⟨fun _ => hS, ?_⟩
     refine tp 4 rfl rfl hf (by kernel_rfl) (fun _ => hS) rfl fun a hf => ?_
     refine dn (by kernel_rfl) ?_
     refine then_n (iteB hF (fun hc6 hF => cd_t hf rfl hc6 ?_) fun hc6 hF => cd_f hf rfl hc6 ?_)
     ·refine sq (reg (pr 1 hf rfl rfl fun a hf => ?_))
      have hf := hf.prune [6] rfl
      refine wl_end (then_n (wp_ret (then_r (?_))))
      obtain rfl := Option.some.inj hF
      refine ret_1 (fn := Try.f4) (r := .tmp 6) hf rfl (rv_tmp hf rfl) ?_
      exact ⟨_, rfl, H.bel, mk_bool⟩
     ·refine wp_skip (then_n (sq (sq (drawn [] (bs := [false, false, false, false, false]) (fuel := 5) (Checked.mixed Try.checked) rfl rfl fun w hb => ?_))))
      have H := H.keep hb
      refine strT H (fun w H => trivial) fun hS => ?_
      refine tS 0 [] rfl rfl rfl rfl hf (by kernel_rfl) (by kernel_rfl) hS (fun w H => rq_loadBN hf H TF.la43 0 rfl rfl rfl rfl) fun a hf => ?_
      refine tS 1 [] rfl rfl rfl rfl hf (by kernel_rfl) (by kernel_rfl) hS (fun w H => rq_loadBN hf H TF.la39 2 rfl rfl rfl rfl) fun a hf => ?_
      obtain ⟨y14, hy14, hF⟩ := bind_some hF
      refine n1 2 (by kernel_rfl) rfl rfl (op_call hf TF.cl18 rfl (by decide) (laws_toRoute_ok (S := fun _ => True) (Route_mkv (x := aR) (rep_true (α := List Int) (H.get 9 rfl))) hy14) fun v18 w a hp25 hf => ?_)
      obtain ⟨hb14, F22, hp26, hN10⟩ := hp25
      obtain ⟨A17, c18, F23, rfl, rfl, hl17⟩ := Route_vo hp26
      have H := H.addOwn hb14 (X := [(⟨F23, MP.own F23 [(.slice A17 y14.Fibers.length c18)] (y14.Fibers : List Int)⟩ : DI)]) (by simpa using hN10.1) (ps1 hl17 ps0) (by simpa using hN10.2)
      have H := H.lend 0 rfl
      have hS := H.let [true, true, true, true] [] [false, true, true, true, true, true, true, true, true] [1, 2, 3, 4, 5, 6, 7, 8, 9, 10, 11, 12]
      refine ⟨fun _ => hS, ?_⟩
      obtain ⟨y15, hy15, hF⟩ := bind_some hF
      refine n1 3 (by kernel_rfl) rfl rfl (op_call hf TF.cl20 rfl (by decide) (laws_eqRoute_ok (S := fun _ => True) (Route_mkv (x := y8) (rep_true (α := List Int) (H.get 5 rfl))) (Route_mkv (x := y14) (rep_true (α := List Int) (H.get 0 rfl))) hy15) fun v19 w a hp27 hf => ?_)
      obtain ⟨hb15, hp27⟩ := hp27
      obtain rfl := VR_bool hp27
      have H := H.keep hb15
      have hS := H.let [true, true, true, true] [] [false, true, true, true, true, true, true, true, true] [1, 2, 3, 4, 5, 6, 7, 8, 9, 10, 11, 12]
      refine ⟨fun _ => hS, ?_⟩
      refine tp 4 rfl rfl hf (by kernel_rfl) (fun _ => hS) rfl fun a hf => ?_
      refine dn (by kernel_rfl) ?_
      refine then_n (iteB hF (fun hc7 hF => cd_t hf rfl hc7 ?_) fun hc7 hF => cd_f hf rfl hc7 ?_)
      ·refine sq (reg (pr 1 hf rfl rfl fun a hf => ?_))
       have hf := hf.prune [6] rfl
       refine wl_end (then_n (wp_ret (then_r (?_))))
       obtain rfl := Option.some.inj hF
       refine ret_1 (fn := Try.f4) (r := .tmp 6) hf rfl (rv_tmp hf rfl) ?_
       exact ⟨_, rfl, H.bel, mk_bool⟩
      ·refine wp_skip (then_n (sq (sq (reg (pr 2 hf rfl rfl fun a hf => ?_)))))
       obtain ⟨y16, hy16, hF⟩ := bind_some hF
       refine wl0 rfl (op_call hf TF.cl12 rfl (by decide) (laws_toIntS_ok (S := fun _ => True) (mk_list (rep_true (α := List Int) (H.get 9 rfl))) hy16) fun v20 w a hp28 hf => ?_)
       obtain ⟨hb16, F24, hp29, hN11⟩ := hp28
       obtain ⟨A18, c19, rfl, hl18⟩ := VO_list hp29
       have H := H.addOwn hb16 (X := [(⟨F24, MP.own F24 [(.slice A18 y16.length c19)] (y16 : List Int)⟩ : DI)]) (by simpa using hN11.1) (ps1 hl18 ps0) (by simpa using hN11.2)
       have H := H.lend 0 rfl
       obtain ⟨y17, hy17, hF⟩ := bind_some hF
       refine wl0 rfl (op_call hf TF.cl15 rfl (by decide) (laws_eqIntS_ok (S := fun _ => True) (mk_list (rep_true (α := List Int) (H.get 5 rfl))) (mk_list (rep_true (α := List Int) (H.get 0 rfl))) hy17) fun v21 w a hp30 hf => ?_)
       obtain ⟨hb17, hp30⟩ := hp30
       obtain rfl := VR_bool hp30
       have H := H.keep hb17
       refine pr 1 hf rfl rfl fun a hf => ?_
       have hf := hf.prune [2, 3, 4, 8, 9, 10, 11, 12, 13, 14, 79] rfl
       refine wl_end (then_n (iteB hF (fun hc8 hF => cd_t hf rfl hc8 ?_) fun hc8 hF => cd_f hf rfl hc8 ?_))
       ·refine sq (reg (pr 1 hf rfl rfl fun a hf => ?_))
        refine wl_end (then_n (wp_ret (then_r (?_))))
        obtain rfl := Option.some.inj hF
        refine ret_1 (fn := Try.f4) (r := .tmp 6) hf rfl (rv_tmp hf rfl) ?_
        exact ⟨_, rfl, H.bel, mk_bool⟩
       ·refine wp_skip (then_n (sq (reg (pr 1 hf rfl rfl fun a hf => ?_))))
        refine wl_end (then_n (sq (reg (wl0 rfl (op_q hf (rq_loadBN hf H TF.la32 1 rfl rfl rfl rfl) rfl (by decide) fun a hf => ?_)))))
        refine pr 1 hf rfl rfl fun a hf => ?_
        have H := H.frontD 8 rfl
        have H := H.frontD 8 rfl
        have H := H.recast (X := [(⟨F11, MP.own F11 [(.slice A10 y7.Nodes.length c10)] (y7.Nodes : List ByteArray)⟩ : DI), (⟨F12, MP.own F12 [(.slice A11 y7.Fibers.length c11)] (y7.Fibers : List Fiber)⟩ : DI)]) (Y := [(⟨(F11 ++ F12), MP.own (F11 ++ F12) [(.slice A10 y7.Nodes.length c10), (.slice A11 y7.Fibers.length c11)] (y7 : Network)⟩ : DI)]) (List.Perm.of_eq (by simp)) fun _ => ps1 (Network_ownmk (x := y7) (H.ownAt 0 rfl) (H.ownAt 1 rfl)) ps0
        obtain ⟨y18, hy18, hF⟩ := bind_some hF
        refine wl0 rfl (op_call hf TF.cl21 rfl (by decide) (laws_markNetwork_ok (S := fun _ => True) (F := (F11 ++ F12)) (cs := [(.slice A10 y7.Nodes.length c10), (.slice A11 y7.Fibers.length c11)]) (H.ownAt 0 rfl) H.diNd.1 mk_int hy18) fun v22 w a hp31 hf => ?_)
        obtain ⟨hch, hv, F26, ho, hbk⟩ := hp31
        obtain rfl := VR_int hv
        have H := H.wrote rfl hch ho hbk
        obtain ⟨F27, F28, hFe, hl19, hl20⟩ := Network_ownc (H.ownAt 0 rfl)
        have H := H.recast (X := [(⟨F26, MP.own F26 [(.slice A10 y7.Nodes.length c10), (.slice A11 y7.Fibers.length c11)] (y18.2 : Network)⟩ : DI)]) (Y := [(⟨F27, MP.own F27 [(.slice A10 y7.Nodes.length c10)] (y18.2.Nodes : List ByteArray)⟩ : DI), (⟨F28, MP.own F28 [(.slice A11 y7.Fibers.length c11)] (y18.2.Fibers : List Fiber)⟩ : DI)]) (List.Perm.of_eq (by simp [hFe])) fun _ => (ps1 hl19 (ps1 hl20 ps0))
        have H := H.arg (p := MP.val [(.slice A aN.Nodes.length c)] aN.Nodes) hl
        have H := H.arg (p := MP.val [(.slice A2 aN.Fibers.length c2)] aN.Fibers) hl2
        have H := H.arg (p := MP.val [(.slice A3 aR.Fibers.length c3)] aR.Fibers) hl3
        have H := H.arg (p := MP.val [(.slice A4 aNodes.length c4)] aNodes) hl4
        have H := H.lend 0 rfl
        have H := H.lend 1 rfl
        have H := H.lend 2 rfl
        have H := H.lend 3 rfl
        have H := H.lend 4 rfl
        have H := H.lend 5 rfl
        have H := H.lend 6 rfl
        have H := H.lend 7 rfl
        have H := H.lend 8 rfl
        have H := H.lend 9 rfl
        refine pr 1 hf rfl rfl fun a hf => ?_
        refine wl_end (then_n (sq (reg (wl0 rfl (op_q hf (rq_loadBN hf H TF.la43 0 rfl rfl rfl rfl) rfl (by decide) fun a hf => ?_)))))
        refine pr 1 hf rfl rfl fun a hf => ?_
        have H := H.frontD 8 rfl
        have H := H.recast (X := [(⟨F14, MP.own F14 [(.slice A12 y8.Fibers.length c12)] (y8.Fibers : List Int)⟩ : DI)]) (Y := [(⟨F14, MP.own F14 [(.int .i64 y8.Start), (.slice A12 y8.Fibers.length c12)] (y8 : Route)⟩ : DI)]) (List.Perm.of_eq (by simp)) fun _ => ps1 (Route_ownmk (x := y8) (H.ownAt 0 rfl)) ps0
        obtain ⟨y19, hy19, hF⟩ := bind_some hF
        refine wl0 rfl (op_call hf TF.cl22 rfl (by decide) (laws_markRoute_ok (S := fun _ => True) (F := F14) (cs := [(.int .i64 y8.Start), (.slice A12 y8.Fibers.length c12)]) (H.ownAt 0 rfl) H.diNd.1 mk_int hy19) fun v23 w a hp32 hf => ?_)
        obtain ⟨hch2, hv2, F29, ho2, hbk2⟩ := hp32
        obtain rfl := VR_int hv2
        have H := H.wrote rfl hch2 ho2 hbk2
        obtain ⟨F30, hFe2, hl21⟩ := Route_ownc (H.ownAt 0 rfl)
        have H := H.recast (X := [(⟨F29, MP.own F29 [(.int .i64 y8.Start), (.slice A12 y8.Fibers.length c12)] (y19.2 : Route)⟩ : DI)]) (Y := [(⟨F30, MP.own F30 [(.slice A12 y8.Fibers.length c12)] (y19.2.Fibers : List Int)⟩ : DI)]) (List.Perm.of_eq (by simp [hFe2])) fun _ => (ps1 hl21 ps0)
        have H := H.arg (p := MP.val [(.slice A aN.Nodes.length c)] aN.Nodes) hl
        have H := H.arg (p := MP.val [(.slice A2 aN.Fibers.length c2)] aN.Fibers) hl2
        have H := H.arg (p := MP.val [(.slice A3 aR.Fibers.length c3)] aR.Fibers) hl3
        have H := H.arg (p := MP.val [(.slice A4 aNodes.length c4)] aNodes) hl4
        have H := H.lend 0 rfl
        have H := H.lend 1 rfl
        have H := H.lend 2 rfl
        have H := H.lend 3 rfl
        have H := H.lend 4 rfl
        have H := H.lend 5 rfl
        have H := H.lend 6 rfl
        have H := H.lend 7 rfl
        have H := H.lend 8 rfl
        have H := H.lend 9 rfl
        refine pr 1 hf rfl rfl fun a hf => ?_
        refine wl_end (then_n (sq (reg (pr 2 hf rfl rfl fun a hf => ?_))))
        have H := H.frontD 8 rfl
        obtain ⟨y20, hy20, hF⟩ := bind_some hF
        refine wl0 rfl (op_call hf TF.cl23 rfl (by decide) (laws_markIntS_ok (S := fun _ => True) (F := F15) (cs := [(.slice A13 y9.length c13)]) (H.ownAt 0 rfl) H.diNd.1 mk_int hy20) fun v24 w a hp33 hf => ?_)
        obtain ⟨hch3, hv3, F31, ho3, hbk3⟩ := hp33
        obtain rfl := VR_int hv3
        have H := H.wrote rfl hch3 ho3 hbk3
        have H := H.arg (p := MP.val [(.slice A aN.Nodes.length c)] aN.Nodes) hl
        have H := H.arg (p := MP.val [(.slice A2 aN.Fibers.length c2)] aN.Fibers) hl2
        have H := H.arg (p := MP.val [(.slice A3 aR.Fibers.length c3)] aR.Fibers) hl3
        have H := H.arg (p := MP.val [(.slice A4 aNodes.length c4)] aNodes) hl4
        have H := H.lend 0 rfl
        have H := H.lend 1 rfl
        have H := H.lend 2 rfl
        have H := H.lend 3 rfl
        have H := H.lend 4 rfl
        have H := H.lend 5 rfl
        have H := H.lend 6 rfl
        have H := H.lend 7 rfl
        have H := H.lend 8 rfl
        have H := H.lend 9 rfl
        refine pr 1 hf rfl rfl fun a hf => ?_
        have hf := hf.prune [2, 3, 4, 8, 9, 13, 14, 15] rfl
        refine wl_end (then_n (sq (sq ?_)))
        obtain ⟨c20, hGc20, hF⟩ := bind_some hF
        have fh2 := hf.prune [2, 3, 4, 8, 9, 13] rfl
        have Hm2 := H.let [false, false, true, true] [] [false, false, false, false, false, false, false, false, true, true] [0, 1, 10, 11, 12, 13]
        refine midF 101 (.bool c20) fh2 Hm2 ?_ fun a w hf H => ?_
        ·refine reg (pr 3 hf rfl rfl fun a hf => ?_)
         refine iteB hGc20 (fun hc9 hGc20 => ?_) fun hc9 hGc20 => ?_
         ·have hf := hf.lit 91 rfl hc9
          refine pr 10 hf rfl rfl fun a hf => ?_
          obtain rfl := Option.some.inj hGc20
          have hf := hf.prune [101, 2, 3, 4, 8, 9, 13] rfl
          have H := H.let [false, false, true, true] [] [false, false, false, false, false, false, false, false, true, true] [0, 1, 10, 11, 12, 13]
          exact wl_end ⟨hf, H⟩
         ·have hf := hf.lit 91 rfl hc9
          refine pr 2 hf rfl rfl fun a hf => ?_
          obtain ⟨y21, hy21, hGc20⟩ := bind_some hGc20
          refine wlg hf rfl rfl rfl (op_call hf TF.cl15 rfl (by decide) (laws_eqIntS_ok (S := fun _ => True) (mk_list (rep_true (α := List Int) (H.get 1 rfl))) (mk_list (rep_true (α := List Int) (H.get 0 rfl))) hy21) fun v25 w a hp34 hf => ?_)
          obtain ⟨hb18, hp34⟩ := hp34
          obtain rfl := VR_bool hp34
          have H := H.keep hb18
          refine pr 3 hf rfl rfl fun a hf => ?_
          refine iteB hGc20 (fun hc10 hGc20 => ?_) fun hc10 hGc20 => ?_
          ·have hf := hf.lit 97 rfl hc10
           refine pr 4 hf rfl rfl fun a hf => ?_
           obtain rfl := Option.some.inj hGc20
           have hf := hf.prune [101, 2, 3, 4, 8, 9, 13] rfl
           have H := H.let [false, false, true, true] [] [false, false, false, false, false, false, false, false, true, true] [0, 1, 10, 11, 12, 13]
           exact wl_end ⟨hf, H⟩
          ·have hf := hf.lit 97 rfl hc10
           refine pr 4 hf rfl rfl fun a hf => ?_
           obtain rfl := Option.some.inj hGc20
           have hf := hf.prune [101, 2, 3, 4, 8, 9, 13] rfl
           have H := H.let [false, false, true, true] [] [false, false, false, false, false, false, false, false, true, true] [0, 1, 10, 11, 12, 13]
           exact wl_end ⟨hf, H⟩
        refine then_n (iteB hF (fun hc11 hF => cd_t hf rfl hc11 ?_) fun hc11 hF => cd_f hf rfl hc11 ?_)
        ·refine sq (reg (pr 1 hf rfl rfl fun a hf => ?_))
         refine wl_end (then_n (wp_ret (then_r (?_))))
         obtain rfl := Option.some.inj hF
         refine ret_1 (fn := Try.f4) (r := .tmp 6) hf rfl (rv_tmp hf rfl) ?_
         exact ⟨_, rfl, H.bel, mk_bool⟩
        ·refine wp_skip (then_n (sq (reg (pr 1 hf rfl rfl fun a hf => ?_))))
         refine wl_end (then_n (sq (reg (pr 2 hf rfl rfl fun a hf => ?_))))
         obtain ⟨y22, hy22, hF⟩ := bind_some hF
         refine wl0 rfl (op_call hf TF.cl23 rfl (by decide) (laws_markIntS_ok (S := fun _ => True) (F := F17) (cs := [(.slice A14 y10.1.length c14)]) (H.ownAt 0 rfl) H.diNd.1 mk_int hy22) fun v26 w a hp35 hf => ?_)
         obtain ⟨hch4, hv4, F32, ho4, hbk4⟩ := hp35
         obtain rfl := VR_int hv4
         have H := H.wrote rfl hch4 ho4 hbk4
         have H := H.arg (p := MP.val [(.slice A aN.Nodes.length c)] aN.Nodes) hl
         have H := H.arg (p := MP.val [(.slice A2 aN.Fibers.length c2)] aN.Fibers) hl2
         have H := H.arg (p := MP.val [(.slice A3 aR.Fibers.length c3)] aR.Fibers) hl3
         have H := H.arg (p := MP.val [(.slice A4 aNodes.length c4)] aNodes) hl4
         have H := H.lend 0 rfl
         have H := H.lend 1 rfl
         refine pr 1 hf rfl rfl fun a hf => ?_
         refine wl_end (then_n (sq (reg (pr 1 hf rfl rfl fun a hf => ?_))))
         refine wl_end (then_n (sq (reg (pr 2 hf rfl rfl fun a hf => ?_))))
         obtain ⟨y23, hy23, hF⟩ := bind_some hF
         refine wl0 rfl (op_call hf TF.cl24 rfl (by decide) (laws_heldIntS_ok (S := fun _ => True) (mk_list (rep_true (α := List Int) (H.get 1 rfl))) mk_int hy23) fun v27 w a hp36 hf => ?_)
         obtain ⟨hb19, hp36⟩ := hp36
         obtain rfl := VR_int hp36
         have H := H.keep hb19
         refine pr 1 hf rfl rfl fun a hf => ?_
         refine wl_end (then_n (sq (sq (reg (pr 2 hf rfl rfl fun a hf => ?_)))))
         refine wl_end (then_n (iteB hF (fun hc12 hF => cd_t hf rfl hc12 ?_) fun hc12 hF => cd_f hf rfl hc12 ?_))
         ·refine sq (reg (pr 1 hf rfl rfl fun a hf => ?_))
          have hf := hf.prune [6] rfl
          refine wl_end (then_n (wp_ret (then_r (?_))))
          obtain rfl := Option.some.inj hF
          refine ret_1 (fn := Try.f4) (r := .tmp 6) hf rfl (rv_tmp hf rfl) ?_
          exact ⟨_, rfl, H.bel, mk_bool⟩
         ·refine wp_skip (then_n (sq (sq (reg (pr 3 hf rfl rfl fun a hf => ?_)))))
          refine wl_end (then_n (iteB hF (fun hc13 hF => cd_t hf rfl hc13 ?_) fun hc13 hF => cd_f hf rfl hc13 ?_))
          ·refine sq (reg (pr 1 hf rfl rfl fun a hf => ?_))
           have hf := hf.prune [6] rfl
           refine wl_end (then_n (wp_ret (then_r (?_))))
           obtain rfl := Option.some.inj hF
           refine ret_1 (fn := Try.f4) (r := .tmp 6) hf rfl (rv_tmp hf rfl) ?_
           exact ⟨_, rfl, H.bel, mk_bool⟩
          ·refine wp_skip (then_n (sq (drawn [] (bs := [false, false, false, false, false, false, false, false, false, false, false, false]) (fuel := 12) (Checked.mixed Try.checked) rfl rfl fun w hb => ?_)))
           have H := H.keep hb
           refine strT H (fun w H => trivial) fun hS => ?_
           refine tS 0 [] rfl rfl rfl rfl hf (by kernel_rfl) (by kernel_rfl) hS (fun w H => rq_loadBN hf H TF.la25 1 rfl rfl rfl rfl) fun a hf => ?_
           refine tS 2 [] rfl rfl rfl rfl hf (by kernel_rfl) (by kernel_rfl) hS (fun w H => rq_loadBN hf H TF.la39 0 rfl rfl rfl rfl) fun a hf => ?_
           refine tp 4 rfl rfl hf (by kernel_rfl) (fun _ => hS) rfl fun a hf => ?_
           obtain ⟨y24, hy24, hF⟩ := bind_some hF
           refine n1 1 (by kernel_rfl) rfl rfl (op_call hf TF.cl11 rfl (by decide) (laws_toNetwork_ok (S := fun _ => True) (Network_mkv (x := aN) (rep_true (α := List ByteArray) (H.get 5 rfl)) (rep_true (α := List Fiber) (H.get 4 rfl))) hy24) fun v28 w a hp37 hf => ?_)
           obtain ⟨hb20, F33, hp38, hN12⟩ := hp37
           obtain ⟨A19, c21, F34, A20, c22, F35, rfl, rfl, hl22, hl23⟩ := Network_vo hp38
           have H := H.addOwn hb20 (X := [(⟨F34, MP.own F34 [(.slice A19 y24.Nodes.length c21)] (y24.Nodes : List ByteArray)⟩ : DI), (⟨F35, MP.own F35 [(.slice A20 y24.Fibers.length c22)] (y24.Fibers : List Fiber)⟩ : DI)]) (by simpa using hN12.1) (ps1 hl22 (ps1 hl23 ps0)) (by simpa using hN12.2)
           have H := H.lend 0 rfl
           have H := H.lend 1 rfl
           have hS := H.let [true, true] [] [false, false, true, true] [2, 3, 4, 5, 6, 7]
           refine ⟨fun _ => hS, ?_⟩
           obtain ⟨y25, hy25, hF⟩ := bind_some hF
           refine n1 3 (by kernel_rfl) rfl rfl (op_call hf TF.cl18 rfl (by decide) (laws_toRoute_ok (S := fun _ => True) (Route_mkv (x := aR) (rep_true (α := List Int) (H.get 5 rfl))) hy25) fun v29 w a hp39 hf => ?_)
           obtain ⟨hb21, F36, hp40, hN13⟩ := hp39
           obtain ⟨A21, c23, F37, rfl, rfl, hl24⟩ := Route_vo hp40
           have H := H.addOwn hb21 (X := [(⟨F37, MP.own F37 [(.slice A21 y25.Fibers.length c23)] (y25.Fibers : List Int)⟩ : DI)]) (by simpa using hN13.1) (ps1 hl24 ps0) (by simpa using hN13.2)
           have H := H.lend 0 rfl
           have hS := H.let [true, true] [] [false, false, false, true, true] [3, 4, 5, 6, 7, 8]
           refine ⟨fun _ => hS, ?_⟩
           obtain ⟨y26, hy26, hF⟩ := bind_some hF
           refine n1 5 (by kernel_rfl) rfl rfl (op_call hf TF.cl12 rfl (by decide) (laws_toIntS_ok (S := fun _ => True) (mk_list (rep_true (α := List Int) (H.get 5 rfl))) hy26) fun v30 w a hp41 hf => ?_)
           obtain ⟨hb22, F38, hp42, hN14⟩ := hp41
           obtain ⟨A22, c24, rfl, hl25⟩ := VO_list hp42
           have H := H.addOwn hb22 (X := [(⟨F38, MP.own F38 [(.slice A22 y26.length c24)] (y26 : List Int)⟩ : DI)]) (by simpa using hN14.1) (ps1 hl25 ps0) (by simpa using hN14.2)
           have H := H.lend 0 rfl
           have hS := H.let [true, true] [] [false, false, false, false, true, true] [4, 5, 6, 7, 8, 9]
           refine ⟨fun _ => hS, ?_⟩
           obtain ⟨y27, hy27, hF⟩ := bind_some hF
           refine n1 6 (by kernel_rfl) rfl rfl (op_call hf TF.cl19 rfl (by decide) (impl_SegmentLengths_ok (S := fun _ => True) (Network_mkv (x := y24) (rep_true (α := List ByteArray) (H.get 3 rfl)) (rep_true (α := List Fiber) (H.get 2 rfl))) (Route_mkv (x := y25) (rep_true (α := List Int) (H.get 1 rfl))) (mk_list (rep_true (α := List Int) (H.get 0 rfl))) hy27) fun v31 w a hp43 hf => ?_)
           obtain ⟨hb23, F40, v32, v33, rfl, hp44, hp45, hN15⟩ := hp43
           obtain ⟨A23, c25, rfl, hl26⟩ := VO_list hp44
           obtain rfl := VR_bool hp45
           have H := H.addOwn hb23 (X := [(⟨F40, MP.own F40 [(.slice A23 y27.1.length c25)] (y27.1 : List Int)⟩ : DI)]) (by simpa using hN15.1) (ps1 hl26 ps0) (by simpa using hN15.2)
           have H := H.lend 0 rfl
           have hS := H.let [true, true] [] [false, false, false, false, false, true, true] [5, 6, 7, 8, 9, 10]
           refine ⟨fun _ => hS, ?_⟩
           refine tp 7 rfl rfl hf (by kernel_rfl) (fun _ => hS) rfl fun a hf => ?_
           refine tp 8 rfl rfl hf (by kernel_rfl) (fun _ => hS) rfl fun a hf => ?_
           refine tp 9 rfl rfl hf (by kernel_rfl) (fun _ => hS) rfl fun a hf => ?_
           refine tp 10 rfl rfl hf (by kernel_rfl) (fun _ => hS) rfl fun a hf => ?_
           refine tp 11 rfl rfl hf (by kernel_rfl) (fun _ => hS) rfl fun a hf => ?_
           refine dn (by kernel_rfl) ?_
           have hf := hf.prune [8, 9, 13, 16, 18, 19] rfl
           refine then_n (sq (sq ?_))
           obtain ⟨c26, hGc26, hF⟩ := bind_some hF
           have fh3 := hf.prune [13, 16] rfl
           have Hm3 := H.let [false, false] [] [false, false, false, false, false, true, false] [6]
           refine midF 131 (.bool c26) fh3 Hm3 ?_ fun a w hf H => ?_
           ·refine reg (pr 2 hf rfl rfl fun a hf => ?_)
            obtain ⟨y28, hy28, hGc26⟩ := bind_some hGc26
            refine wl0 rfl (op_call hf TF.cl15 rfl (by decide) (laws_eqIntS_ok (S := fun _ => True) (mk_list (rep_true (α := List Int) (H.get 0 rfl))) (mk_list (rep_true (α := List Int) (H.get 5 rfl))) hy28) fun v34 w a hp46 hf => ?_)
            obtain ⟨hb24, hp46⟩ := hp46
            obtain rfl := VR_bool hp46
            have H := H.keep hb24
            refine pr 2 hf rfl rfl fun a hf => ?_
            refine iteB hGc26 (fun hc14 hGc26 => ?_) fun hc14 hGc26 => ?_
            ·have hf := hf.lit 127 rfl hc14
             refine pr 4 hf rfl rfl fun a hf => ?_
             obtain rfl := Option.some.inj hGc26
             have hf := hf.prune [131, 13, 16] rfl
             have H := H.let [false, false] [] [false, false, false, false, false, true, false] [6]
             exact wl_end ⟨hf, H⟩
            ·have hf := hf.lit 127 rfl hc14
             refine pr 4 hf rfl rfl fun a hf => ?_
             obtain rfl := Option.some.inj hGc26
             have hf := hf.prune [131, 13, 16] rfl
             have H := H.let [false, false] [] [false, false, false, false, false, true, false] [6]
             exact wl_end ⟨hf, H⟩
           refine then_n (iteB hF (fun hc15 hF => cd_t hf rfl hc15 ?_) fun hc15 hF => cd_f hf rfl hc15 ?_)
           ·refine sq (reg (pr 1 hf rfl rfl fun a hf => ?_))
            refine wl_end (then_n (wp_ret (then_r (?_))))
            obtain rfl := Option.some.inj hF
            refine ret_1 (fn := Try.f4) (r := .tmp 6) hf rfl (rv_tmp hf rfl) ?_
            exact ⟨_, rfl, H.bel, mk_bool⟩
           ·refine wp_skip (then_n (sq (reg (pr 1 hf rfl rfl fun a hf => ?_))))
            refine wl_end (then_n (sq (reg (pr 2 hf rfl rfl fun a hf => ?_))))
            obtain ⟨y29, hy29, hF⟩ := bind_some hF
            refine wl0 rfl (op_call hf TF.cl24 rfl (by decide) (laws_heldIntS_ok (S := fun _ => True) (mk_list (rep_true (α := List Int) (H.get 0 rfl))) mk_int hy29) fun v35 w a hp47 hf => ?_)
            obtain ⟨hb25, hp47⟩ := hp47
            obtain rfl := VR_int hp47
            have H := H.keep hb25
            refine pr 1 hf rfl rfl fun a hf => ?_
            refine wl_end (then_n (sq (sq (reg (pr 2 hf rfl rfl fun a hf => ?_)))))
            refine wl_end (then_n (iteB hF (fun hc16 hF => cd_t hf rfl hc16 ?_) fun hc16 hF => cd_f hf rfl hc16 ?_))
            ·refine sq (reg (pr 1 hf rfl rfl fun a hf => ?_))
             refine wl_end (then_n (wp_ret (then_r (?_))))
             obtain rfl := Option.some.inj hF
             refine ret_1 (fn := Try.f4) (r := .tmp 6) hf rfl (rv_tmp hf rfl) ?_
             exact ⟨_, rfl, H.bel, mk_bool⟩
            ·refine wp_skip (then_n (sq (sq (reg (pr 3 hf rfl rfl fun a hf => ?_)))))
             refine wl_end (then_n (iteB hF (fun hc17 hF => cd_t hf rfl hc17 ?_) fun hc17 hF => cd_f hf rfl hc17 ?_))
             ·refine sq (reg (pr 1 hf rfl rfl fun a hf => ?_))
              refine wl_end (then_n (wp_ret (then_r (?_))))
              obtain rfl := Option.some.inj hF
              refine ret_1 (fn := Try.f4) (r := .tmp 6) hf rfl (rv_tmp hf rfl) ?_
              exact ⟨_, rfl, H.bel, mk_bool⟩
             ·refine wp_skip (then_n (sq (reg (pr 1 hf rfl rfl fun a hf => ?_))))
              refine wl_end (then_n (wp_ret (?_)))
              obtain rfl := Option.some.inj hF
              refine ret_1 (fn := Try.f4) (r := .tmp 6) hf rfl (rv_tmp hf rfl) ?_
              exact ⟨_, rfl, H.bel, mk_bool⟩
end AT
