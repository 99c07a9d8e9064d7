/- The Go functions do what is told of them, by program (gen.py). -/
import Derived.Test.YtiedecncmihbeaaGreatWFnExactApplyActions0
set_option linter.unusedVariables false
set_option linter.unusedSimpArgs false
set_option maxRecDepth 100000
set_option maxHeartbeats 1000000
namespace AT
open Go Go.RowKit Go.Proofs
variable {fu : Nat} {w0 : World}

theorem laws_eqRoute_ok {S : Nat → Prop} {v0_ : Value} {v1_ : Value} {a' : Route} {b' : Route} {r : Bool} (h0 : VR w0 S v0_ a') (h1 : VR w0 S v1_ b') (hF : laws_eqRoute fu a' b' = some r) :
    Calls Tryz.prog 132 [v0_, v1_].toArray w0 fun e w' => ∃ v, e = .returned v ∧ (Below w0.heap.size w0 w' ∧ VR w' (St ⟨w0, []⟩ S [] [] [] true) v r) := by
 obtain ⟨A, c, rfl, hl⟩ := Route_open h0
 obtain ⟨A2, c2, rfl, hl2⟩ := Route_open h1
 have H := Mem.start ⟨w0, []⟩ S
 have H := H.pushArg (MP.val [(.slice A a'.Fibers.length c)] a'.Fibers) hl
 have H := H.pushArg (MP.val [(.slice A2 b'.Fibers.length c2)] b'.Fibers) hl2
 refine en Tryz.func132 fun a hf => ?_
 rw [laws_eqRoute] at hF
 refine sq (reg (wl0 rfl (op_box hf H rfl rfl (by decide) fun b2 a w hf H => ?_)))
 refine wl0 rfl (op_box hf H rfl rfl (by decide) fun b3 a w hf H => ?_)
 refine pz 1 hf fun a hf => ?_
 refine wl_end (then_n (sq (sqz (pz 1 hf fun a hf => ?_))))
 refine oq hf (rq_loadB hf H TF.ls3 1 rfl rfl rfl) fun a hf => ?_
 refine pz 1 hf fun a hf => ?_
 refine oq hf (rq_loadB hf H TF.ls3 0 rfl rfl rfl) fun a hf => ?_
 refine pz 1 hf fun a hf => ?_
 refine wl_end (then_n (ib hF hf (fun hc hF => ?_) fun hc hF => ?_))
 ·refine sqz (pz 1 hf fun a hf => ?_)
  refine wl_end (then_n (wp_ret (then_r (?_))))
  obtain rfl := Option.some.inj hF
  refine ret_1 hf rfl (rv_tmp hf rfl) ?_
  exact ⟨_, rfl, H.bel, mk_bool⟩
 ·refine wp_skip (then_n (sq (sqz (pz 1 hf fun a hf => ?_))))
  refine oq hf (rq_loadB hf H TF.ls29 1 rfl rfl rfl) fun a hf => ?_
  refine pz 1 hf fun a hf => ?_
  refine oq hf (rq_loadB hf H TF.ls29 0 rfl rfl rfl) fun a hf => ?_
  obtain ⟨y, hy, hF⟩ := bind_some hF
  refine oc hf TF.cl174 (laws_eqIntS_ok (S := TT) (mk_list (H.rt 1 rfl)) (mk_list (H.rt 0 rfl)) hy) fun v w a hp hf => ?_
  obtain ⟨hb, hp⟩ := hp
  obtain rfl := VR_bool hp
  have H := H.keep hb
  refine pz 1 hf fun a hf => ?_
  have hf := hf.pn [15]
  refine wl_end (then_n (ib hF hf (fun hc2 hF => ?_) fun hc2 hF => ?_))
  ·refine sqz (pz 1 hf fun a hf => ?_)
   refine wl_end (then_n (wp_ret (then_r (?_))))
   obtain rfl := Option.some.inj hF
   refine ret_1 hf rfl (rv_tmp hf rfl) ?_
   exact ⟨_, rfl, H.bel, mk_bool⟩
  ·refine wp_skip (then_n (sqz (pz 1 hf fun a hf => ?_)))
   refine wl_end (then_n (wp_ret (?_)))
   obtain rfl := Option.some.inj hF
   refine ret_1 hf rfl (rv_tmp hf rfl) ?_
   exact ⟨_, rfl, H.bel, mk_bool⟩

theorem laws_eqBlock_ok {S : Nat → Prop} {v0_ : Value} {v1_ : Value} {a' : Block} {b' : Block} {r : Bool} (h0 : VR w0 S v0_ a') (h1 : VR w0 S v1_ b') (hF : laws_eqBlock fu a' b' = some r) :
    Calls Tryz.prog 133 [v0_, v1_].toArray w0 fun e w' => ∃ v, e = .returned v ∧ (Below w0.heap.size w0 w' ∧ VR w' (St ⟨w0, []⟩ S [] [] [] true) v r) := by
 obtain rfl := Block_open h0
 obtain rfl := Block_open h1
 have H := Mem.start ⟨w0, []⟩ S
 refine en Tryz.func133 fun a hf => ?_
 rw [laws_eqBlock] at hF
 refine sq (reg (wl0 rfl (op_box hf H rfl rfl (by decide) fun b2 a w hf H => ?_)))
 refine wl0 rfl (op_box hf H rfl rfl (by decide) fun b3 a w hf H => ?_)
 refine pz 1 hf fun a hf => ?_
 refine wl_end (then_n (sq (sqz (pz 1 hf fun a hf => ?_))))
 refine oq hf (rq_loadB hf H TF.ls3 1 rfl rfl rfl) fun a hf => ?_
 refine pz 1 hf fun a hf => ?_
 refine oq hf (rq_loadB hf H TF.ls3 0 rfl rfl rfl) fun a hf => ?_
 refine pz 1 hf fun a hf => ?_
 refine wl_end (then_n (ib hF hf (fun hc hF => ?_) fun hc hF => ?_))
 ·refine sqz (pz 1 hf fun a hf => ?_)
  refine wl_end (then_n (wp_ret (then_r (?_))))
  obtain rfl := Option.some.inj hF
  refine ret_1 hf rfl (rv_tmp hf rfl) ?_
  exact ⟨_, rfl, H.bel, mk_bool⟩
 ·refine wp_skip (then_n (sq (sqz (pz 1 hf fun a hf => ?_))))
  refine oq hf (rq_loadB hf H TF.ls3 1 rfl rfl rfl) fun a hf => ?_
  refine pz 1 hf fun a hf => ?_
  refine oq hf (rq_loadB hf H TF.ls3 0 rfl rfl rfl) fun a hf => ?_
  refine pz 1 hf fun a hf => ?_
  have hf := hf.pn [14]
  refine wl_end (then_n (ib hF hf (fun hc2 hF => ?_) fun hc2 hF => ?_))
  ·refine sqz (pz 1 hf fun a hf => ?_)
   refine wl_end (then_n (wp_ret (then_r (?_))))
   obtain rfl := Option.some.inj hF
   refine ret_1 hf rfl (rv_tmp hf rfl) ?_
   exact ⟨_, rfl, H.bel, mk_bool⟩
  ·refine wp_skip (then_n (sqz (pz 1 hf fun a hf => ?_)))
   refine wl_end (then_n (wp_ret (?_)))
   obtain rfl := Option.some.inj hF
   refine ret_1 hf rfl (rv_tmp hf rfl) ?_
   exact ⟨_, rfl, H.bel, mk_bool⟩

theorem laws_eqLight_ok {S : Nat → Prop} {v0_ : Value} {v1_ : Value} {a' : Light} {b' : Light} {r : Bool} (h0 : VR w0 S v0_ a') (h1 : VR w0 S v1_ b') (hF : laws_eqLight fu a' b' = some r) :
    Calls Tryz.prog 71 [v0_, v1_].toArray w0 fun e w' => ∃ v, e = .returned v ∧ (Below w0.heap.size w0 w' ∧ VR w' (St ⟨w0, []⟩ S [] [] [] true) v r) := by
 obtain ⟨A, c, rfl, hl⟩ := Light_open h0
 obtain ⟨A2, c2, rfl, hl2⟩ := Light_open h1
 have H := Mem.start ⟨w0, []⟩ S
 have H := H.pushArg (MP.val [(.slice A a'.Route.Fibers.length c)] a'.Route.Fibers) hl
 have H := H.pushArg (MP.val [(.slice A2 b'.Route.Fibers.length c2)] b'.Route.Fibers) hl2
 refine en Tryz.func71 fun a hf => ?_
 rw [laws_eqLight] at hF
 refine sq (reg (wl0 rfl (op_box hf H rfl rfl (by decide) fun b2 a w hf H => ?_)))
 refine wl0 rfl (op_box hf H rfl rfl (by decide) fun b3 a w hf H => ?_)
 refine pz 1 hf fun a hf => ?_
 refine wl_end (then_n (sq (sqz (pz 1 hf fun a hf => ?_))))
 refine oq hf (rq_loadB hf H TF.ls3 1 rfl rfl rfl) fun a hf => ?_
 refine pz 1 hf fun a hf => ?_
 refine oq hf (rq_loadB hf H TF.ls3 0 rfl rfl rfl) fun a hf => ?_
 refine pz 1 hf fun a hf => ?_
 refine wl_end (then_n (ib hF hf (fun hc hF => ?_) fun hc hF => ?_))
 ·refine sqz (pz 1 hf fun a hf => ?_)
  refine wl_end (then_n (wp_ret (then_r (?_))))
  obtain rfl := Option.some.inj hF
  refine ret_1 hf rfl (rv_tmp hf rfl) ?_
  exact ⟨_, rfl, H.bel, mk_bool⟩
 ·refine wp_skip (then_n (sq (sqz (pz 1 hf fun a hf => ?_))))
  refine oq hf (rq_loadBN hf H TF.la49 1 rfl rfl rfl rfl) fun a hf => ?_
  refine pz 1 hf fun a hf => ?_
  refine oq hf (rq_loadBN hf H TF.la49 0 rfl rfl rfl rfl) fun a hf => ?_
  obtain ⟨y, hy, hF⟩ := bind_some hF
  refine oc hf TF.cl132 (laws_eqRoute_ok (S := TT) (Route_mkv (x := a'.Route) (H.rt 1 rfl)) (Route_mkv (x := b'.Route) (H.rt 0 rfl)) hy) fun v w a hp hf => ?_
  obtain ⟨hb, hp⟩ := hp
  obtain rfl := VR_bool hp
  have H := H.keep hb
  refine pz 1 hf fun a hf => ?_
  have hf := hf.pn [2, 3, 15]
  refine wl_end (then_n (ib hF hf (fun hc2 hF => ?_) fun hc2 hF => ?_))
  ·refine sqz (pz 1 hf fun a hf => ?_)
   refine wl_end (then_n (wp_ret (then_r (?_))))
   obtain rfl := Option.some.inj hF
   refine ret_1 hf rfl (rv_tmp hf rfl) ?_
   exact ⟨_, rfl, H.bel, mk_bool⟩
  ·refine wp_skip (then_n (sq (sqz (pz 1 hf fun a hf => ?_))))
   refine oq hf (rq_loadBN hf H TF.la50 1 rfl rfl rfl rfl) fun a hf => ?_
   refine pz 1 hf fun a hf => ?_
   refine oq hf (rq_loadBN hf H TF.la50 0 rfl rfl rfl rfl) fun a hf => ?_
   obtain ⟨y2, hy2, hF⟩ := bind_some hF
   refine oc hf TF.cl133 (laws_eqBlock_ok (S := TT) Block_mkv Block_mkv hy2) fun v2 w a hp2 hf => ?_
   obtain ⟨hb2, hp2⟩ := hp2
   obtain rfl := VR_bool hp2
   have H := H.keep hb2
   refine pz 1 hf fun a hf => ?_
   refine wl_end (then_n (ib hF hf (fun hc3 hF => ?_) fun hc3 hF => ?_))
   ·refine sqz (pz 1 hf fun a hf => ?_)
    refine wl_end (then_n (wp_ret (then_r (?_))))
    obtain rfl := Option.some.inj hF
    refine ret_1 hf rfl (rv_tmp hf rfl) ?_
    exact ⟨_, rfl, H.bel, mk_bool⟩
   ·refine wp_skip (then_n (sqz (pz 1 hf fun a hf => ?_)))
    refine wl_end (then_n (wp_ret (?_)))
    obtain rfl := Option.some.inj hF
    refine ret_1 hf rfl (rv_tmp hf rfl) ?_
    exact ⟨_, rfl, H.bel, mk_bool⟩

theorem laws_eqLightS_ok {S : Nat → Prop} {v0_ : Value} {v1_ : Value} {a' : List Light} {b' : List Light} {r : Bool} (h0 : VR w0 S v0_ a') (h1 : VR w0 S v1_ b') (hF : laws_eqLightS fu a' b' = some r) :
    Calls Tryz.prog 70 [v0_, v1_].toArray w0 fun e w' => ∃ v, e = .returned v ∧ (Below w0.heap.size w0 w' ∧ VR w' (St ⟨w0, []⟩ S [] [] [] true) v r) := by
 obtain ⟨A, c, rfl, hl⟩ := VR_list h0
 obtain ⟨A2, c2, rfl, hl2⟩ := VR_list h1
 have H := Mem.start ⟨w0, []⟩ S
 have H := H.pushArg (MP.val [(.slice A a'.length c)] a') hl
 have H := H.pushArg (MP.val [(.slice A2 b'.length c2)] b') hl2
 refine en Tryz.func70 fun a hf => ?_
 rw [laws_eqLightS] at hF
 refine sqz (pz 1 hf fun a hf => ?_)
 refine wl_end (then_n (sq (sqz (pz 5 hf fun a hf => ?_))))
 refine wl_end (then_n (ib hF hf (fun hc hF => ?_) fun hc hF => ?_))
 ·refine sqz (pz 1 hf fun a hf => ?_)
  refine wl_end (then_n (wp_ret (then_r (?_))))
  obtain rfl := Option.some.inj hF
  refine ret_1 hf rfl (rv_tmp hf rfl) ?_
  exact ⟨_, rfl, H.bel, mk_bool⟩
 ·refine wp_skip (then_n (sq (sqz (pz 1 hf fun a hf => ?_))))
  refine wl_end (then_n ?_)
  obtain ⟨out', hB1, hF⟩ := bind_some hF
  have hf := hf.pn [0, 1, 5]
  have H := H.lt_ [] [] [] [0, 1]
  refine loopC (fun (s : Int) (a : Act) (w : World) => match s with | i => Fr a 27 [(0, (.slice A a'.length c)), (1, (.slice A2 b'.length c2)), (5, (.int .i64 i))] ∧ Mem ⟨w0, []⟩ S [] [] [] [(false, MP.val [(.slice A2 b'.length c2)] (b' : List Light)), (false, MP.val [(.slice A a'.length c)] (a' : List Light))] w) (fun k (s : Int) => laws_eqLightS_L1 fu a' b' k s = some out') (fun s => out' = Out.next s) 0 fu hB1 ⟨hf, H⟩ (fun s h => by cases h) ?_ ?_
  ·rintro fk i a w hR1 hI
   replace hR1 : laws_eqLightS_L1 fu a' b' (fk + 1) i = some out' := hR1
   rw [laws_eqLightS_L1] at hR1
   obtain ⟨hf, H⟩ := hI
   refine sq (sqz (pz 4 hf fun a hf => ?_))
   refine wl_end (then_n (ib hR1 hf (fun hc2 hR1 => ?_) fun hc2 hR1 => ?_))
   ·refine wp_skip (then_n (sq (wp_block (sq (drawn [] (bs := [false, false, false, false, false, false, false, false, false, false]) (fuel := 10) (Checked.mixed Tryz.checked) rfl rfl fun w hb => ?_)))))
    have H := H.keep hb
    refine zp 0 hf trivial fun a hf => ?_
    refine zp 1 hf trivial fun a hf => ?_
    obtain ⟨e, he, hR1⟩ := bind_some hR1
    obtain ⟨p, o, cs, hx, hr, H⟩ := pre_iaddr H Tryz.underlying43 TF.sz52 1 rfl he
    refine tP 2 rfl rfl rfl rfl hf (by kernel_rfl) (fun _ => trivial) (fun w => rq_iaddrE hf rfl rfl rfl hx w) fun a hf => ?_
    obtain ⟨A3, c3, rfl, hl3⟩ := Light_cells hr
    have H := H.push (false, MP.val [(.slice A3 e.Route.Fibers.length c3)] e.Route.Fibers) hl3
    refine strT (H.let [] [] [] [1] rfl rfl rfl rfl) (fun w H => trivial) fun hS => ?_
    refine tS 3 [] rfl rfl rfl rfl hf (by kernel_rfl) (by kernel_rfl) hS (fun w H => rq_loadIN hf H TF.la52 0 0 rfl rfl rfl rfl) fun a hf => ?_
    refine zp 4 hf hS fun a hf => ?_
    refine zp 5 hf hS fun a hf => ?_
    obtain ⟨e2, he2, hR1⟩ := bind_some hR1
    obtain ⟨p2, o2, cs2, hx2, hr2, H⟩ := pre_iaddr H Tryz.underlying43 TF.sz52 2 rfl he2
    refine tP 6 rfl rfl rfl rfl hf (by kernel_rfl) (fun _ => hS) (fun w => rq_iaddrE hf rfl rfl rfl hx2 w) fun a hf => ?_
    obtain ⟨A4, c4, rfl, hl4⟩ := Light_cells hr2
    have H := H.push (false, MP.val [(.slice A4 e2.Route.Fibers.length c4)] e2.Route.Fibers) hl4
    refine strT (H.let [] [] [] [1, 3] rfl rfl rfl rfl) (fun w H => H.let [] [] [] [1] rfl rfl rfl rfl) fun hS => ?_
    refine tS 7 [] rfl rfl rfl rfl hf (by kernel_rfl) (by kernel_rfl) hS (fun w H => rq_loadIN hf H TF.la52 0 0 rfl rfl rfl rfl) fun a hf => ?_
    obtain ⟨y, hy, hR1⟩ := bind_some hR1
    refine n1 8 (by kernel_rfl) rfl rfl (op_call hf TF.cl71 rfl (by decide) (laws_eqLight_ok (S := TT) (Light_mkv (x := e) (H.rt 2 rfl)) (Light_mkv (x := e2) (H.rt 0 rfl)) hy) fun v w a hp hf => ?_)
    obtain ⟨hb, hp⟩ := hp
    obtain rfl := VR_bool hp
    have H := H.keep hb
    have hS := H.lt_ [] [] [] [1, 3]
    refine ⟨fun _ => hS, ?_⟩
    refine zp 9 hf hS fun a hf => ?_
    refine dn (by kernel_rfl) ?_
    have hf := hf.pn [0, 1, 5, 26]
    refine then_n (ib hR1 hf (fun hc3 hR1 => ?_) fun hc3 hR1 => ?_)
    ·refine sqz (pz 1 hf fun a hf => ?_)
     refine wl_end (then_n (wp_ret (blk_r (then_r (then_r (blk_r (then_r (then_r (?_)))))))))
     obtain rfl := Option.some.inj hR1
     replace hF := on_ret hF
     obtain rfl := Option.some.inj hF
     refine ret_1 hf rfl (rv_tmp hf rfl) ?_
     exact ⟨_, rfl, H.bel, mk_bool⟩
    ·refine wp_skip (blk_n (then_n (reg (pz 3 hf fun a hf => ?_))))
     refine wl_end ?_
     have hf := hf.pn [0, 1, 5]
     have H := H.lt_ [] [] [] [4, 5]
     exact then_n ⟨w64 (i + 1), hR1, hf, H⟩
   ·refine wp_exit (then_x (then_x (blk_e (?_))))
    have hf := hf.pn [0, 1, 5]
    have H := H.lt_ [] [] [] [0, 1]
    exact ⟨i, (Option.some.inj hR1).symm, hf, H⟩
  rintro a w ⟨i2, rfl, hf, H⟩
  replace hF := on_next hF
  refine then_n (sqz (pz 1 hf fun a hf => ?_))
  refine wl_end (then_n (wp_ret (?_)))
  obtain rfl := Option.some.inj hF
  refine ret_1 hf rfl (rv_tmp hf rfl) ?_
  exact ⟨_, rfl, H.bel, mk_bool⟩

theorem laws_eqPlan_ok {S : Nat → Prop} {v0_ : Value} {v1_ : Value} {a' : Plan} {b' : Plan} {r : Bool} (h0 : VR w0 S v0_ a') (h1 : VR w0 S v1_ b') (hF : laws_eqPlan fu a' b' = some r) :
    Calls Tryz.prog 17 [v0_, v1_].toArray w0 fun e w' => ∃ v, e = .returned v ∧ (Below w0.heap.size w0 w' ∧ VR w' (St ⟨w0, []⟩ S [] [] [] true) v r) := by
 obtain ⟨A, c, A2, c2, A3, c3, rfl, hl, hl2, hl3⟩ := Plan_open h0
 obtain ⟨A4, c4, A5, c5, A6, c6, rfl, hl4, hl5, hl6⟩ := Plan_open h1
 have H := Mem.start ⟨w0, []⟩ S
 have H := H.pushArg (MP.val [(.slice A a'.Network.Nodes.length c)] a'.Network.Nodes) hl
 have H := H.pushArg (MP.val [(.slice A2 a'.Network.Fibers.length c2)] a'.Network.Fibers) hl2
 have H := H.pushArg (MP.val [(.slice A3 a'.Lights.length c3)] a'.Lights) hl3
 have H := H.pushArg (MP.val [(.slice A4 b'.Network.Nodes.length c4)] b'.Network.Nodes) hl4
 have H := H.pushArg (MP.val [(.slice A5 b'.Network.Fibers.length c5)] b'.Network.Fibers) hl5
 have H := H.pushArg (MP.val [(.slice A6 b'.Lights.length c6)] b'.Lights) hl6
 refine en Tryz.func17 fun a hf => ?_
 rw [laws_eqPlan] at hF
 refine sq (reg (wl0 rfl (op_box hf H rfl rfl (by decide) fun b2 a w hf H => ?_)))
 refine wl0 rfl (op_box hf H rfl rfl (by decide) fun b3 a w hf H => ?_)
 refine pz 1 hf fun a hf => ?_
 refine wl_end (then_n (sq (sqz (pz 1 hf fun a hf => ?_))))
 refine oq hf (rq_loadBN hf H TF.la42 1 rfl rfl rfl rfl) fun a hf => ?_
 refine pz 1 hf fun a hf => ?_
 refine oq hf (rq_loadBN hf H TF.la42 0 rfl rfl rfl rfl) fun a hf => ?_
 obtain ⟨y, hy, hF⟩ := bind_some hF
 refine oc hf TF.cl69 (laws_eqNetwork_ok (S := TT) (Network_mkv (x := a'.Network) (H.rt 5 rfl) (H.rt 4 rfl)) (Network_mkv (x := b'.Network) (H.rt 2 rfl) (H.rt 1 rfl)) hy) fun v w a hp hf => ?_
 obtain ⟨hb, hp⟩ := hp
 obtain rfl := VR_bool hp
 have H := H.keep hb
 refine pz 1 hf fun a hf => ?_
 refine wl_end (then_n (ib hF hf (fun hc hF => ?_) fun hc hF => ?_))
 ·refine sqz (pz 1 hf fun a hf => ?_)
  refine wl_end (then_n (wp_ret (then_r (?_))))
  obtain rfl := Option.some.inj hF
  refine ret_1 hf rfl (rv_tmp hf rfl) ?_
  exact ⟨_, rfl, H.bel, mk_bool⟩
 ·refine wp_skip (then_n (sq (sqz (pz 1 hf fun a hf => ?_))))
  refine oq hf (rq_loadB hf H TF.ls43 1 rfl rfl rfl) fun a hf => ?_
  refine pz 1 hf fun a hf => ?_
  refine oq hf (rq_loadB hf H TF.ls43 0 rfl rfl rfl) fun a hf => ?_
  obtain ⟨y2, hy2, hF⟩ := bind_some hF
  refine oc hf TF.cl70 (laws_eqLightS_ok (S := TT) (mk_list (H.rt 3 rfl)) (mk_list (H.rt 0 rfl)) hy2) fun v2 w a hp2 hf => ?_
  obtain ⟨hb2, hp2⟩ := hp2
  obtain rfl := VR_bool hp2
  have H := H.keep hb2
  refine pz 1 hf fun a hf => ?_
  have hf := hf.pn [16]
  refine wl_end (then_n (ib hF hf (fun hc2 hF => ?_) fun hc2 hF => ?_))
  ·refine sqz (pz 1 hf fun a hf => ?_)
   refine wl_end (then_n (wp_ret (then_r (?_))))
   obtain rfl := Option.some.inj hF
   refine ret_1 hf rfl (rv_tmp hf rfl) ?_
   exact ⟨_, rfl, H.bel, mk_bool⟩
  ·refine wp_skip (then_n (sqz (pz 1 hf fun a hf => ?_)))
   refine wl_end (then_n (wp_ret (?_)))
   obtain rfl := Option.some.inj hF
   refine ret_1 hf rfl (rv_tmp hf rfl) ?_
   exact ⟨_, rfl, H.bel, mk_bool⟩

theorem laws_eqAction_ok {S : Nat → Prop} {v0_ : Value} {v1_ : Value} {a' : Action} {b' : Action} {r : Bool} (h0 : VR w0 S v0_ a') (h1 : VR w0 S v1_ b') (hF : laws_eqAction fu a' b' = some r) :
    Calls Tryz.prog 18 [v0_, v1_].toArray w0 fun e w' => ∃ v, e = .returned v ∧ (Below w0.heap.size w0 w' ∧ VR w' (St ⟨w0, []⟩ S [] [] [] true) v r) := by
 obtain ⟨A, c, rfl, hl⟩ := Action_open h0
 obtain ⟨A2, c2, rfl, hl2⟩ := Action_open h1
 have H := Mem.start ⟨w0, []⟩ S
 have H := H.pushArg (MP.val [(.slice A a'.Light.Route.Fibers.length c)] a'.Light.Route.Fibers) hl
 have H := H.pushArg (MP.val [(.slice A2 b'.Light.Route.Fibers.length c2)] b'.Light.Route.Fibers) hl2
 refine en Tryz.func18 fun a hf => ?_
 rw [laws_eqAction] at hF
 refine sq (reg (wl0 rfl (op_box hf H rfl rfl (by decide) fun b2 a w hf H => ?_)))
 refine wl0 rfl (op_box hf H rfl rfl (by decide) fun b3 a w hf H => ?_)
 refine pz 1 hf fun a hf => ?_
 refine wl_end (then_n (sq (sqz (pz 1 hf fun a hf => ?_))))
 refine oq hf (rq_loadB hf H TF.ls3 1 rfl rfl rfl) fun a hf => ?_
 refine pz 1 hf fun a hf => ?_
 refine oq hf (rq_loadB hf H TF.ls3 0 rfl rfl rfl) fun a hf => ?_
 refine pz 1 hf fun a hf => ?_
 refine wl_end (then_n (ib hF hf (fun hc hF => ?_) fun hc hF => ?_))
 ·refine sqz (pz 1 hf fun a hf => ?_)
  refine wl_end (then_n (wp_ret (then_r (?_))))
  obtain rfl := Option.some.inj hF
  refine ret_1 hf rfl (rv_tmp hf rfl) ?_
  exact ⟨_, rfl, H.bel, mk_bool⟩
 ·refine wp_skip (then_n (sq (sqz (pz 1 hf fun a hf => ?_))))
  refine oq hf (rq_loadBN hf H TF.la52 1 rfl rfl rfl rfl) fun a hf => ?_
  refine pz 1 hf fun a hf => ?_
  refine oq hf (rq_loadBN hf H TF.la52 0 rfl rfl rfl rfl) fun a hf => ?_
  obtain ⟨y, hy, hF⟩ := bind_some hF
  refine oc hf TF.cl71 (laws_eqLight_ok (S := TT) (Light_mkv (x := a'.Light) (H.rt 1 rfl)) (Light_mkv (x := b'.Light) (H.rt 0 rfl)) hy) fun v w a hp hf => ?_
  obtain ⟨hb, hp⟩ := hp
  obtain rfl := VR_bool hp
  have H := H.keep hb
  refine pz 1 hf fun a hf => ?_
  have hf := hf.pn [15]
  refine wl_end (then_n (ib hF hf (fun hc2 hF => ?_) fun hc2 hF => ?_))
  ·refine sqz (pz 1 hf fun a hf => ?_)
   refine wl_end (then_n (wp_ret (then_r (?_))))
   obtain rfl := Option.some.inj hF
   refine ret_1 hf rfl (rv_tmp hf rfl) ?_
   exact ⟨_, rfl, H.bel, mk_bool⟩
  ·refine wp_skip (then_n (sqz (pz 1 hf fun a hf => ?_)))
   refine wl_end (then_n (wp_ret (?_)))
   obtain rfl := Option.some.inj hF
   refine ret_1 hf rfl (rv_tmp hf rfl) ?_
   exact ⟨_, rfl, H.bel, mk_bool⟩

theorem laws_markText_ok {S : Nat → Prop} {v0_ : Value} {k' : Int} {r : ByteArray} (h0 : VR w0 S v0_ k') (hF : laws_markText fu k' = some r) :
    Calls Tryz.prog 175 [v0_].toArray w0 fun e w' => ∃ v, e = .returned v ∧ (Below w0.heap.size w0 w' ∧ VR w' (St ⟨w0, []⟩ S [] [] [] true) v r) := by
 obtain rfl := VR_int h0
 have H := Mem.start ⟨w0, []⟩ S
 refine en Tryz.func175 fun a hf => ?_
 rw [laws_markText] at hF
 refine sqz (pz 1 hf fun a hf => ?_)
 refine wl_end (then_n (sq (sqz (pz 2 hf fun a hf => ?_))))
 refine wl_end (then_n (ib hF hf (fun hc hF => ?_) fun hc hF => ?_))
 ·refine sqz (pz 1 hf fun a hf => ?_)
  refine wl_end (then_n (wp_ret (then_r (?_))))
  obtain rfl := Option.some.inj hF
  refine ret_1 hf rfl (rv_tmp hf rfl) ?_
  exact ⟨_, rfl, H.bel, mk_str⟩
 ·refine wp_skip (then_n (sqz (pz 1 hf fun a hf => ?_)))
  refine wl_end (then_n (sq ?_))
  obtain ⟨out2, hB1, hF⟩ := bind_some hF
  have hf := hf.pn [0, 3]
  have H := H.lt_ [] [] [] []
  refine loopC (fun (s : Int × ByteArray) (a : Act) (w : World) => match s with | (k2, out') => Fr a 20 [(0, (.int .i64 k2)), (3, (.string out'))] ∧ Mem ⟨w0, []⟩ S [] [] [] [] w) (fun k (s : Int × ByteArray) => laws_markText_L1 fu k s.1 s.2 = some out2) (fun s => out2 = s) (k', ByteArray.empty) fu hB1 ⟨hf, H⟩ (fun s h => by cases h) ?_ ?_
  ·rintro fk ⟨k2, out'⟩ a w hR1 hI
   replace hR1 : laws_markText_L1 fu (fk + 1) k2 out' = some out2 := hR1
   rw [laws_markText_L1] at hR1
   obtain ⟨hf, H⟩ := hI
   refine sq (sqz (pz 2 hf fun a hf => ?_))
   refine wl_end (then_n (ib hR1 hf (fun hc2 hR1 => ?_) fun hc2 hR1 => ?_))
   ·refine wp_skip (then_n (wp_block (sqz (pz 1 hf fun a hf => ?_))))
    obtain ⟨q, hq, hR1⟩ := bind_some hR1
    refine oq hf (rq_rem hf rfl rfl hq) fun a hf => ?_
    refine pz 1 hf fun a hf => ?_
    refine oq hf (rq_conv u8w Tryz.underlying3 Tryz.underlying5 hf rfl) fun a hf => ?_
    refine wl0 rfl (op_bslice hf H (.sh true) rfl 5 ([(⟨wu8 (w64 (48 + q))⟩ : By)] : List By) [(.int .u8 (wu8 (w64 (48 + q))))] rfl (fun w => by kernel_rfl) rfl (by decide) rfl trivial (el1 (y := (⟨wu8 (w64 (48 + q))⟩ : By)) (rfl)) (by decide) fun A a w hf H => ?_)
    refine oq hf (rq_convBS Tryz.underlying85 Tryz.underlying5 Tryz.underlying9 hf rfl (H.rowTrue 0 rfl)) fun a hf => ?_
    refine pz 1 hf fun a hf => ?_
    obtain ⟨s', hs', hR1⟩ := bind_some hR1
    refine oq hf (rq_scat hf rfl rfl hs') fun a hf => ?_
    refine pz 1 hf fun a hf => ?_
    refine wl_end (then_n (reg (pz 1 hf fun a hf => ?_)))
    obtain ⟨q2, hq2, hR1⟩ := bind_some hR1
    refine oq hf (rq_quo hf rfl rfl hq2) fun a hf => ?_
    refine pz 1 hf fun a hf => ?_
    refine wl_end (blk_n ?_)
    have hf := hf.pn [0, 3]
    have H := H.lt_ [] [false] [] []
    exact then_n ⟨(q2, s'), hR1, hf, H⟩
   ·refine wp_exit (then_x (then_x (blk_e (?_))))
    have hf := hf.pn [0, 3]
    have H := H.lt_ [] [] [] []
    exact ⟨(k2, out'), (Option.some.inj hR1).symm, hf, H⟩
  rintro a w ⟨⟨k3, out3⟩, rfl, hf, H⟩
  try dsimp only at hF
  refine then_n (sqz (pz 1 hf fun a hf => ?_))
  obtain ⟨s2, hs2, hF⟩ := bind_some hF
  refine oq hf (rq_scat hf rfl rfl hs2) fun a hf => ?_
  refine pz 1 hf fun a hf => ?_
  refine wl_end (then_n (wp_ret (?_)))
  obtain rfl := Option.some.inj hF
  refine ret_1 hf rfl (rv_tmp hf rfl) ?_
  exact ⟨_, rfl, H.bel, mk_str⟩

theorem laws_markStringS_ok {S : Nat → Prop} {F : List Nat} {cs : List Value} {v1_ : Value} {a' : List ByteArray} {k' : Int} {r : Int × List ByteArray} (hO : GoTy.own w0 F cs a') (hn : F.Nodup) (h1 : VR w0 S v1_ k') (hF : laws_markStringS fu a' k' = some r) :
    Calls Tryz.prog 134 [(bif GoTy.agg (List ByteArray) then .agg cs.toArray else cs.headD undef), v1_].toArray w0 fun e w' => ∃ v, e = .returned v ∧ (Chg w0 w' F ∧ VR w' (fun _ => True) v r.1 ∧ ∃ F', GoTy.own w' F' cs r.2 ∧ Back w0 w' F F') := by
 obtain rfl := VR_int h1
 obtain ⟨A, c, rfl, hO⟩ := own_list hO
 have H := Mem.startG S hO hn
 obtain ⟨Fs, E, H, -⟩ := H.thaw rfl
 have H := H.rowSh 0 rfl
 refine en Tryz.func134 fun a hf => ?_
 rw [laws_markStringS] at hF
 refine sqz (pz 1 hf fun a hf => ?_)
 refine wl_end (then_n (sq (sqz (pz 1 hf fun a hf => ?_))))
 refine wl_end (then_n ?_)
 obtain ⟨out', hB1, hF⟩ := bind_some hF
 have hf := hf.pn [0, 1, 5]
 have hf : Fr a 20 [(0, (.slice A a'.length c)), (1, (.int .i64 k')), (5, (.int .i64 0))] := by first | exact hf | (simp only [List.length_set] at hf; exact hf)
 have H := H.lt_ [] [true] [] []
 refine loopC (fun (s : List ByteArray × Int × Int) (a : Act) (w : World) => match s with | (a2, k2, i) => a2.length = a'.length ∧ Fr a 20 [(0, (.slice A a'.length c)), (1, (.int .i64 k2)), (5, (.int .i64 i))] ∧ Mem ⟨w0, F⟩ S [] [⟨.sh true, E, A, c, (a2 : List ByteArray)⟩] [] [] w) (fun k (s : List ByteArray × Int × Int) => laws_markStringS_L1 fu k s.1 s.2.1 s.2.2 = some out') (fun s => out' = s) (a', k', 0) fu hB1 ⟨rfl, hf, H⟩ (fun s h => by cases h) ?_ ?_
 ·rintro fk ⟨a2, k2, i⟩ a w hR1 hI
  replace hR1 : laws_markStringS_L1 fu (fk + 1) a2 k2 i = some out' := hR1
  rw [laws_markStringS_L1] at hR1
  obtain ⟨hlen, hf, H⟩ := hI
  have hf : Fr a 20 [(0, (.slice A a2.length c)), (1, (.int .i64 k2)), (5, (.int .i64 i))] := by rw [hlen]; exact hf
  refine sq (sqz (pz 4 hf fun a hf => ?_))
  refine wl_end (then_n (ib hR1 hf (fun hc hR1 => ?_) fun hc hR1 => ?_))
  ·refine wp_skip (then_n (sq (wp_block (sqz (pz 3 hf fun a hf => ?_)))))
   obtain ⟨y, hy, hR1⟩ := bind_some hR1
   refine oc hf TF.cl175 (laws_markText_ok (S := TT) mk_int hy) fun v w a hp hf => ?_
   obtain ⟨hb, hp⟩ := hp
   obtain rfl := VR_str hp
   have H := H.keep hb
   obtain ⟨e, he, hR1⟩ := bind_some hR1
   refine wl0 rfl (op_iaddrR hf H Tryz.underlying22 TF.sz9 0 rfl rfl rfl he (by decide) fun p o cs a hf hA hr hk => ?_)
   obtain rfl := hr
   refine wl0 rfl (op_storeR (e' := y) (o := o) (off := 0) hf H TF.sz9 0 rfl rfl rfl rfl rfl (nle rfl) rfl hA he (st_full rfl) fun w H => ?_)
   replace hf : Fr a 20 [(0, (.slice A a2.length c)), (1, (.int .i64 k2)), (5, (.int .i64 i)), (12, (.slice A a2.length c)), (13, (.int .i64 i)), (14, (.int .i64 k2)), (15, (.string y)), (16, (.pointer (some ⟨p, o + 0, none⟩)))] := hf.prune [0, 1, 5, 12, 13, 14, 15, 16] rfl
   replace hf : Fr a 20 [(0, (.slice A (a2.set (i : Int).toNat y).length c)), (1, (.int .i64 k2)), (5, (.int .i64 i)), (12, (.slice A (a2.set (i : Int).toNat y).length c)), (13, (.int .i64 i)), (14, (.int .i64 k2)), (15, (.string y)), (16, (.pointer (some ⟨p, o + 0, none⟩)))] := by simpa only [List.length_set, Nat.add_zero] using hf
   refine wl_end (then_n (reg (pz 3 hf fun a hf => ?_)))
   refine wl_end (blk_n (then_n (reg (pz 3 hf fun a hf => ?_))))
   refine wl_end ?_
   have hf := hf.pn [0, 1, 5]
   have hf : Fr a 20 [(0, (.slice A a'.length c)), (1, (.int .i64 (w64 (k2 + 1)))), (5, (.int .i64 (w64 (i + 1))))] := by first | exact hf | (simp only [List.length_set, hlen] at hf; exact hf)
   have H := H.lt_ [] [true] [] []
   exact then_n ⟨(a2.set (i : Int).toNat y, w64 (k2 + 1), w64 (i + 1)), hR1, (by simp only [List.length_set, hlen]), hf, H⟩
  ·refine wp_exit (then_x (then_x (blk_e (?_))))
   have hf := hf.pn [0, 1, 5]
   have hf : Fr a 20 [(0, (.slice A a'.length c)), (1, (.int .i64 k2)), (5, (.int .i64 i))] := by first | exact hf | (simp only [List.length_set, hlen] at hf; exact hf)
   have H := H.lt_ [] [true] [] []
   exact ⟨(a2, k2, i), (Option.some.inj hR1).symm, (by simp only [List.length_set, hlen]), hf, H⟩
 rintro a w ⟨⟨a3, k3, i2⟩, rfl, hlen, hf, H⟩
 try dsimp only at hlen
 have hf : Fr a 20 [(0, (.slice A a3.length c)), (1, (.int .i64 k3)), (5, (.int .i64 i2))] := by rw [hlen]; exact hf
 try dsimp only at hF
 refine then_n (sqz (pz 2 hf fun a hf => ?_))
 refine wl_end (then_n (wp_ret (?_)))
 have H := H.rowOwn 0 rfl rfl
 obtain ⟨F', H⟩ := H.freezeOwn 0 rfl
 rw [hlen] at H
 obtain rfl := Option.some.inj hF
 refine ret_1 hf rfl (rv_tmp hf rfl) ?_
 exact ⟨_, rfl, H.chg, mk_int, _, H.ownAt 0 rfl, H.back⟩

theorem laws_markFiberS_ok {S : Nat → Prop} {F : List Nat} {cs : List Value} {v1_ : Value} {a' : List Fiber} {k' : Int} {r : Int × List Fiber} (hO : GoTy.own w0 F cs a') (hn : F.Nodup) (h1 : VR w0 S v1_ k') (hF : laws_markFiberS fu a' k' = some r) :
    Calls Tryz.prog 135 [(bif GoTy.agg (List Fiber) then .agg cs.toArray else cs.headD undef), v1_].toArray w0 fun e w' => ∃ v, e = .returned v ∧ (Chg w0 w' F ∧ VR w' (fun _ => True) v r.1 ∧ ∃ F', GoTy.own w' F' cs r.2 ∧ Back w0 w' F F') := by
 obtain rfl := VR_int h1
 obtain ⟨A, c, rfl, hO⟩ := own_list hO
 have H := Mem.startG S hO hn
 obtain ⟨Fs, E, H, -⟩ := H.thaw rfl
 have H := H.rowSh 0 rfl
 refine en Tryz.func135 fun a hf => ?_
 rw [laws_markFiberS] at hF
 refine sqz (pz 1 hf fun a hf => ?_)
 refine wl_end (then_n (sq (sqz (pz 1 hf fun a hf => ?_))))
 refine wl_end (then_n ?_)
 obtain ⟨out', hB1, hF⟩ := bind_some hF
 have hf := hf.pn [0, 1, 5]
 have hf : Fr a 41 [(0, (.slice A a'.length c)), (1, (.int .i64 k')), (5, (.int .i64 0))] := by first | exact hf | (simp only [List.length_set] at hf; exact hf)
 have H := H.lt_ [] [true] [] []
 refine loopC (fun (s : List Fiber × Int × Int) (a : Act) (w : World) => match s with | (a2, k2, i) => a2.length = a'.length ∧ Fr a 41 [(0, (.slice A a'.length c)), (1, (.int .i64 k2)), (5, (.int .i64 i))] ∧ Mem ⟨w0, F⟩ S [] [⟨.sh true, E, A, c, (a2 : List Fiber)⟩] [] [] w) (fun k (s : List Fiber × Int × Int) => laws_markFiberS_L1 fu k s.1 s.2.1 s.2.2 = some out') (fun s => out' = s) (a', k', 0) fu hB1 ⟨rfl, hf, H⟩ (fun s h => by cases h) ?_ ?_
 ·rintro fk ⟨a2, k2, i⟩ a w hR1 hI
  replace hR1 : laws_markFiberS_L1 fu (fk + 1) a2 k2 i = some out' := hR1
  rw [laws_markFiberS_L1] at hR1
  obtain ⟨hlen, hf, H⟩ := hI
  have hf : Fr a 41 [(0, (.slice A a2.length c)), (1, (.int .i64 k2)), (5, (.int .i64 i))] := by rw [hlen]; exact hf
  refine sq (sqz (pz 4 hf fun a hf => ?_))
  refine wl_end (then_n (ib hR1 hf (fun hc hR1 => ?_) fun hc hR1 => ?_))
  ·refine wp_skip (then_n (sq (wp_block (sqz (pz 3 hf fun a hf => ?_)))))
   obtain ⟨e, he, hR1⟩ := bind_some hR1
   refine wl0 rfl (op_iaddrR hf H Tryz.underlying40 TF.sz164 0 rfl rfl rfl he (by decide) fun p o cs a hf hA hr hk => ?_)
   obtain rfl := Fiber_cells hr
   refine pz 1 hf fun a hf => ?_
   refine wl0 rfl (op_storeR (e' := ({ A := k2, B := e.B, Length := e.Length, Risk := e.Risk } : Fiber)) (o := o) (off := 0) hf H TF.sz3 0 rfl rfl rfl rfl rfl (nle rfl) rfl hA he (fun cs h => by obtain rfl := Fiber_cells h; exact Fiber_mk (x := ({ A := k2, B := e.B, Length := e.Length, Risk := e.Risk } : Fiber))) fun w H => ?_)
   replace hf : Fr a 41 [(0, (.slice A a2.length c)), (1, (.int .i64 k2)), (5, (.int .i64 i)), (12, (.slice A a2.length c)), (13, (.int .i64 i)), (14, (.int .i64 k2)), (15, (.pointer (some ⟨p, o + 0, none⟩))), (16, (.pointer (some ⟨p, o + 0, none⟩)))] := hf.prune [0, 1, 5, 12, 13, 14, 15, 16] rfl
   replace hf : Fr a 41 [(0, (.slice A (a2.set (i : Int).toNat ({ A := k2, B := e.B, Length := e.Length, Risk := e.Risk } : Fiber)).length c)), (1, (.int .i64 k2)), (5, (.int .i64 i)), (12, (.slice A (a2.set (i : Int).toNat ({ A := k2, B := e.B, Length := e.Length, Risk := e.Risk } : Fiber)).length c)), (13, (.int .i64 i)), (14, (.int .i64 k2)), (15, (.pointer (some ⟨p, o + 0, none⟩))), (16, (.pointer (some ⟨p, o + 0, none⟩)))] := by simpa only [List.length_set, Nat.add_zero] using hf
   refine wr (pz 3 hf fun a hf => ?_)
   refine wr (pz 3 hf fun a hf => ?_)
   obtain ⟨e2, he2, hR1⟩ := bind_some hR1
   refine wl0 rfl (op_iaddrR hf H Tryz.underlying40 TF.sz164 0 rfl rfl rfl he2 (by decide) fun p2 o2 cs2 a hf hA2 hr2 hk2 => ?_)
   obtain rfl := Fiber_cells hr2
   refine pz 1 hf fun a hf => ?_
   refine wl0 rfl (op_storeR (e' := ({ A := e2.A, B := w64 (k2 + 1), Length := e2.Length, Risk := e2.Risk } : Fiber)) (o := o2) (off := 1) hf H TF.sz3 0 rfl rfl rfl rfl rfl (nle rfl) rfl hA2 he2 (fun cs h => by obtain rfl := Fiber_cells h; exact Fiber_mk (x := ({ A := e2.A, B := w64 (k2 + 1), Length := e2.Length, Risk := e2.Risk } : Fiber))) fun w H => ?_)
   replace hf : Fr a 41 [(0, (.slice A (a2.set (i : Int).toNat ({ A := k2, B := e.B, Length := e.Length, Risk := e.Risk } : Fiber)).length c)), (1, (.int .i64 (w64 (k2 + 1)))), (5, (.int .i64 i)), (19, (.slice A (a2.set (i : Int).toNat ({ A := k2, B := e.B, Length := e.Length, Risk := e.Risk } : Fiber)).length c)), (20, (.int .i64 i)), (21, (.int .i64 (w64 (k2 + 1)))), (22, (.pointer (some ⟨p2, o2 + 0, none⟩))), (23, (.pointer (some ⟨p2, o2 + 1, none⟩)))] := hf.prune [0, 1, 5, 19, 20, 21, 22, 23] rfl
   replace hf : Fr a 41 [(0, (.slice A ((a2.set (i : Int).toNat ({ A := k2, B := e.B, Length := e.Length, Risk := e.Risk } : Fiber)).set (i : Int).toNat ({ A := e2.A, B := w64 (k2 + 1), Length := e2.Length, Risk := e2.Risk } : Fiber)).length c)), (1, (.int .i64 (w64 (k2 + 1)))), (5, (.int .i64 i)), (19, (.slice A ((a2.set (i : Int).toNat ({ A := k2, B := e.B, Length := e.Length, Risk := e.Risk } : Fiber)).set (i : Int).toNat ({ A := e2.A, B := w64 (k2 + 1), Length := e2.Length, Risk := e2.Risk } : Fiber)).length c)), (20, (.int .i64 i)), (21, (.int .i64 (w64 (k2 + 1)))), (22, (.pointer (some ⟨p2, o2 + 0, none⟩))), (23, (.pointer (some ⟨p2, o2 + 1, none⟩)))] := by simpa only [List.length_set, Nat.add_zero] using hf
   refine wr (pz 3 hf fun a hf => ?_)
   refine wr (pz 3 hf fun a hf => ?_)
   obtain ⟨e3, he3, hR1⟩ := bind_some hR1
   refine wl0 rfl (op_iaddrR hf H Tryz.underlying40 TF.sz164 0 rfl rfl rfl he3 (by decide) fun p3 o3 cs3 a hf hA3 hr3 hk3 => ?_)
   obtain rfl := Fiber_cells hr3
   refine pz 1 hf fun a hf => ?_
   refine wl0 rfl (op_storeR (e' := ({ A := e3.A, B := e3.B, Length := w64 ((w64 (k2 + 1)) + 1), Risk := e3.Risk } : Fiber)) (o := o3) (off := 2) hf H TF.sz3 0 rfl rfl rfl rfl rfl (nle rfl) rfl hA3 he3 (fun cs h => by obtain rfl := Fiber_cells h; exact Fiber_mk (x := ({ A := e3.A, B := e3.B, Length := w64 ((w64 (k2 + 1)) + 1), Risk := e3.Risk } : Fiber))) fun w H => ?_)
   replace hf : Fr a 41 [(0, (.slice A ((a2.set (i : Int).toNat ({ A := k2, B := e.B, Length := e.Length, Risk := e.Risk } : Fiber)).set (i : Int).toNat ({ A := e2.A, B := w64 (k2 + 1), Length := e2.Length, Risk := e2.Risk } : Fiber)).length c)), (1, (.int .i64 (w64 ((w64 (k2 + 1)) + 1)))), (5, (.int .i64 i)), (26, (.slice A ((a2.set (i : Int).toNat ({ A := k2, B := e.B, Length := e.Length, Risk := e.Risk } : Fiber)).set (i : Int).toNat ({ A := e2.A, B := w64 (k2 + 1), Length := e2.Length, Risk := e2.Risk } : Fiber)).length c)), (27, (.int .i64 i)), (28, (.int .i64 (w64 ((w64 (k2 + 1)) + 1)))), (29, (.pointer (some ⟨p3, o3 + 0, none⟩))), (30, (.pointer (some ⟨p3, o3 + 2, none⟩)))] := hf.prune [0, 1, 5, 26, 27, 28, 29, 30] rfl
   replace hf : Fr a 41 [(0, (.slice A (((a2.set (i : Int).toNat ({ A := k2, B := e.B, Length := e.Length, Risk := e.Risk } : Fiber)).set (i : Int).toNat ({ A := e2.A, B := w64 (k2 + 1), Length := e2.Length, Risk := e2.Risk } : Fiber)).set (i : Int).toNat ({ A := e3.A, B := e3.B, Length := w64 ((w64 (k2 + 1)) + 1), Risk := e3.Risk } : Fiber)).length c)), (1, (.int .i64 (w64 ((w64 (k2 + 1)) + 1)))), (5, (.int .i64 i)), (26, (.slice A (((a2.set (i : Int).toNat ({ A := k2, B := e.B, Length := e.Length, Risk := e.Risk } : Fiber)).set (i : Int).toNat ({ A := e2.A, B := w64 (k2 + 1), Length := e2.Length, Risk := e2.Risk } : Fiber)).set (i : Int).toNat ({ A := e3.A, B := e3.B, Length := w64 ((w64 (k2 + 1)) + 1), Risk := e3.Risk } : Fiber)).length c)), (27, (.int .i64 i)), (28, (.int .i64 (w64 ((w64 (k2 + 1)) + 1)))), (29, (.pointer (some ⟨p3, o3 + 0, none⟩))), (30, (.pointer (some ⟨p3, o3 + 2, none⟩)))] := by simpa only [List.length_set, Nat.add_zero] using hf
   refine wr (pz 3 hf fun a hf => ?_)
   refine wr (pz 3 hf fun a hf => ?_)
   obtain ⟨e4, he4, hR1⟩ := bind_some hR1
   refine wl0 rfl (op_iaddrR hf H Tryz.underlying40 TF.sz164 0 rfl rfl rfl he4 (by decide) fun p4 o4 cs4 a hf hA4 hr4 hk4 => ?_)
   obtain rfl := Fiber_cells hr4
   refine pz 1 hf fun a hf => ?_
   refine wl0 rfl (op_storeR (e' := ({ A := e4.A, B := e4.B, Length := e4.Length, Risk := w64 ((w64 ((w64 (k2 + 1)) + 1)) + 1) } : Fiber)) (o := o4) (off := 3) hf H TF.sz3 0 rfl rfl rfl rfl rfl (nle rfl) rfl hA4 he4 (fun cs h => by obtain rfl := Fiber_cells h; exact Fiber_mk (x := ({ A := e4.A, B := e4.B, Length := e4.Length, Risk := w64 ((w64 ((w64 (k2 + 1)) + 1)) + 1) } : Fiber))) fun w H => ?_)
   replace hf : Fr a 41 [(0, (.slice A (((a2.set (i : Int).toNat ({ A := k2, B := e.B, Length := e.Length, Risk := e.Risk } : Fiber)).set (i : Int).toNat ({ A := e2.A, B := w64 (k2 + 1), Length := e2.Length, Risk := e2.Risk } : Fiber)).set (i : Int).toNat ({ A := e3.A, B := e3.B, Length := w64 ((w64 (k2 + 1)) + 1), Risk := e3.Risk } : Fiber)).length c)), (1, (.int .i64 (w64 ((w64 ((w64 (k2 + 1)) + 1)) + 1)))), (5, (.int .i64 i)), (33, (.slice A (((a2.set (i : Int).toNat ({ A := k2, B := e.B, Length := e.Length, Risk := e.Risk } : Fiber)).set (i : Int).toNat ({ A := e2.A, B := w64 (k2 + 1), Length := e2.Length, Risk := e2.Risk } : Fiber)).set (i : Int).toNat ({ A := e3.A, B := e3.B, Length := w64 ((w64 (k2 + 1)) + 1), Risk := e3.Risk } : Fiber)).length c)), (34, (.int .i64 i)), (35, (.int .i64 (w64 ((w64 ((w64 (k2 + 1)) + 1)) + 1)))), (36, (.pointer (some ⟨p4, o4 + 0, none⟩))), (37, (.pointer (some ⟨p4, o4 + 3, none⟩)))] := hf.prune [0, 1, 5, 33, 34, 35, 36, 37] rfl
   replace hf : Fr a 41 [(0, (.slice A ((((a2.set (i : Int).toNat ({ A := k2, B := e.B, Length := e.Length, Risk := e.Risk } : Fiber)).set (i : Int).toNat ({ A := e2.A, B := w64 (k2 + 1), Length := e2.Length, Risk := e2.Risk } : Fiber)).set (i : Int).toNat ({ A := e3.A, B := e3.B, Length := w64 ((w64 (k2 + 1)) + 1), Risk := e3.Risk } : Fiber)).set (i : Int).toNat ({ A := e4.A, B := e4.B, Length := e4.Length, Risk := w64 ((w64 ((w64 (k2 + 1)) + 1)) + 1) } : Fiber)).length c)), (1, (.int .i64 (w64 ((w64 ((w64 (k2 + 1)) + 1)) + 1)))), (5, (.int .i64 i)), (33, (.slice A ((((a2.set (i : Int).toNat ({ A := k2, B := e.B, Length := e.Length, Risk := e.Risk } : Fiber)).set (i : Int).toNat ({ A := e2.A, B := w64 (k2 + 1), Length := e2.Length, Risk := e2.Risk } : Fiber)).set (i : Int).toNat ({ A := e3.A, B := e3.B, Length := w64 ((w64 (k2 + 1)) + 1), Risk := e3.Risk } : Fiber)).set (i : Int).toNat ({ A := e4.A, B := e4.B, Length := e4.Length, Risk := w64 ((w64 ((w64 (k2 + 1)) + 1)) + 1) } : Fiber)).length c)), (34, (.int .i64 i)), (35, (.int .i64 (w64 ((w64 ((w64 (k2 + 1)) + 1)) + 1)))), (36, (.pointer (some ⟨p4, o4 + 0, none⟩))), (37, (.pointer (some ⟨p4, o4 + 3, none⟩)))] := by simpa only [List.length_set, Nat.add_zero] using hf
   refine wl_end (then_n (reg (pz 3 hf fun a hf => ?_)))
   refine wl_end (blk_n (then_n (reg (pz 3 hf fun a hf => ?_))))
   refine wl_end ?_
   have hf := hf.pn [0, 1, 5]
   have hf : Fr a 41 [(0, (.slice A a'.length c)), (1, (.int .i64 (w64 ((w64 ((w64 ((w64 (k2 + 1)) + 1)) + 1)) + 1)))), (5, (.int .i64 (w64 (i + 1))))] := by first | exact hf | (simp only [List.length_set, hlen] at hf; exact hf)
   have H := H.lt_ [] [true] [] []
   exact then_n ⟨((((a2.set (i : Int).toNat ({ A := k2, B := e.B, Length := e.Length, Risk := e.Risk } : Fiber)).set (i : Int).toNat ({ A := e2.A, B := w64 (k2 + 1), Length := e2.Length, Risk := e2.Risk } : Fiber)).set (i : Int).toNat ({ A := e3.A, B := e3.B, Length := w64 ((w64 (k2 + 1)) + 1), Risk := e3.Risk } : Fiber)).set (i : Int).toNat ({ A := e4.A, B := e4.B, Length := e4.Length, Risk := w64 ((w64 ((w64 (k2 + 1)) + 1)) + 1) } : Fiber), w64 ((w64 ((w64 ((w64 (k2 + 1)) + 1)) + 1)) + 1), w64 (i + 1)), hR1, (by simp only [List.length_set, hlen]), hf, H⟩
  ·refine wp_exit (then_x (then_x (blk_e (?_))))
   have hf := hf.pn [0, 1, 5]
   have hf : Fr a 41 [(0, (.slice A a'.length c)), (1, (.int .i64 k2)), (5, (.int .i64 i))] := by first | exact hf | (simp only [List.length_set, hlen] at hf; exact hf)
   have H := H.lt_ [] [true] [] []
   exact ⟨(a2, k2, i), (Option.some.inj hR1).symm, (by simp only [List.length_set, hlen]), hf, H⟩
 rintro a w ⟨⟨a3, k3, i2⟩, rfl, hlen, hf, H⟩
 try dsimp only at hlen
 have hf : Fr a 41 [(0, (.slice A a3.length c)), (1, (.int .i64 k3)), (5, (.int .i64 i2))] := by rw [hlen]; exact hf
 try dsimp only at hF
 refine then_n (sqz (pz 2 hf fun a hf => ?_))
 refine wl_end (then_n (wp_ret (?_)))
 have H := H.rowOwn 0 rfl rfl
 obtain ⟨F', H⟩ := H.freezeOwn 0 rfl
 rw [hlen] at H
 obtain rfl := Option.some.inj hF
 refine ret_1 hf rfl (rv_tmp hf rfl) ?_
 exact ⟨_, rfl, H.chg, mk_int, _, H.ownAt 0 rfl, H.back⟩

theorem laws_markNetwork_ok {S : Nat → Prop} {F : List Nat} {cs : List Value} {v1_ : Value} {a' : Network} {k' : Int} {r : Int × Network} (hO : GoTy.own w0 F cs a') (hn : F.Nodup) (h1 : VR w0 S v1_ k') (hF : laws_markNetwork fu a' k' = some r) :
    Calls Tryz.prog 72 [(bif GoTy.agg (Network) then .agg cs.toArray else cs.headD undef), v1_].toArray w0 fun e w' => ∃ v, e = .returned v ∧ (Chg w0 w' F ∧ VR w' (fun _ => True) v r.1 ∧ ∃ F', GoTy.own w' F' cs r.2 ∧ Back w0 w' F F') := by
 obtain rfl := VR_int h1
 obtain ⟨A1, c1, F1, A2, c2, F2, rfl, hFe, l1, l2⟩ := Network_own hO
 have H := Mem.startG S hO hn
 have H := H.recast (X := [(⟨F, MP.own F [(.slice A1 a'.Nodes.length c1), (.slice A2 a'.Fibers.length c2)] (a' : Network)⟩ : DI)]) (Y := [(⟨F1, MP.own F1 [(.slice A1 a'.Nodes.length c1)] (a'.Nodes : List ByteArray)⟩ : DI), (⟨F2, MP.own F2 [(.slice A2 a'.Fibers.length c2)] (a'.Fibers : List Fiber)⟩ : DI)]) (D := []) (List.Perm.of_eq (by simp [hFe])) fun _ => (ps1 l1 (ps1 l2 ps0))
 have H := H.lend 0 rfl
 have H := H.lend 1 rfl
 refine en Tryz.func72 fun a hf => ?_
 rw [laws_markNetwork] at hF
 refine sq (reg (wl0 rfl (op_box hf H rfl rfl (by decide) fun b' a w hf H => ?_)))
 refine pz 1 hf fun a hf => ?_
 refine wr (pz 1 hf fun a hf => ?_)
 refine oq hf (rq_loadB hf H TF.ls22 0 rfl rfl rfl) fun a hf => ?_
 refine pz 1 hf fun a hf => ?_
 obtain ⟨y, hy, hF⟩ := bind_some hF
 refine oc hf TF.cl134 (laws_markStringS_ok (S := TT) (F := F1) (cs := [(.slice A1 a'.Nodes.length c1)]) (H.ownAt 0 rfl) H.diNd.1 mk_int hy) fun v w a hp hf => ?_
 obtain ⟨hch, hv, F4, ho, hbk⟩ := hp
 obtain rfl := VR_int hv
 have H := H.wrote rfl hch ho hbk
 have H := H.lend 0 rfl
 have H := H.lend 1 rfl
 refine pz 1 hf fun a hf => ?_
 refine wr (pz 1 hf fun a hf => ?_)
 refine oq hf (rq_loadB hf H TF.ls40 0 rfl rfl rfl) fun a hf => ?_
 refine pz 1 hf fun a hf => ?_
 have H := H.frontD 1 rfl
 obtain ⟨y2, hy2, hF⟩ := bind_some hF
 refine oc hf TF.cl135 (laws_markFiberS_ok (S := TT) (F := F2) (cs := [(.slice A2 a'.Fibers.length c2)]) (H.ownAt 0 rfl) H.diNd.1 mk_int hy2) fun v2 w a hp2 hf => ?_
 obtain ⟨hch2, hv2, F5, ho2, hbk2⟩ := hp2
 obtain rfl := VR_int hv2
 have H := H.wrote rfl hch2 ho2 hbk2
 have H := H.lend 0 rfl
 have H := H.lend 1 rfl
 refine pz 1 hf fun a hf => ?_
 refine wr (pz 2 hf fun a hf => ?_)
 refine wl_end (then_n (wp_ret (?_)))
 have H := H.frontD 1 rfl
 have H := H.recast (X := [(⟨F4, MP.own F4 [(.slice A1 a'.Nodes.length c1)] (y.2 : List ByteArray)⟩ : DI), (⟨F5, MP.own F5 [(.slice A2 a'.Fibers.length c2)] (y2.2 : List Fiber)⟩ : DI)]) (Y := [(⟨(F4 ++ F5), MP.own (F4 ++ F5) [(.slice A1 a'.Nodes.length c1), (.slice A2 a'.Fibers.length c2)] (({ Nodes := y.2, Fibers := y2.2 } : Network) : Network)⟩ : DI)]) (List.Perm.of_eq (by simp)) fun _ => ps1 (Network_ownmk (x := ({ Nodes := y.2, Fibers := y2.2 } : Network)) (H.ownAt 0 rfl) (H.ownAt 1 rfl)) ps0
 obtain rfl := Option.some.inj hF
 refine ret_1 hf rfl (rv_tmp hf rfl) ?_
 exact ⟨_, rfl, H.chg, mk_int, _, H.ownAt 0 rfl, H.back⟩

theorem laws_markIntS_ok {S : Nat → Prop} {F : List Nat} {cs : List Value} {v1_ : Value} {a' : List Int} {k' : Int} {r : Int × List Int} (hO : GoTy.own w0 F cs a') (hn : F.Nodup) (h1 : VR w0 S v1_ k') (hF : laws_markIntS fu a' k' = some r) :
    Calls Tryz.prog 84 [(bif GoTy.agg (List Int) then .agg cs.toArray else cs.headD undef), v1_].toArray w0 fun e w' => ∃ v, e = .returned v ∧ (Chg w0 w' F ∧ VR w' (fun _ => True) v r.1 ∧ ∃ F', GoTy.own w' F' cs r.2 ∧ Back w0 w' F F') := by
 obtain rfl := VR_int h1
 obtain ⟨A, c, rfl, hO⟩ := own_list hO
 have H := Mem.startG S hO hn
 obtain ⟨Fs, E, H, -⟩ := H.thaw rfl
 have H := H.rowSh 0 rfl
 refine en Tryz.func84 fun a hf => ?_
 rw [laws_markIntS] at hF
 refine sqz (pz 1 hf fun a hf => ?_)
 refine wl_end (then_n (sq (sqz (pz 1 hf fun a hf => ?_))))
 refine wl_end (then_n ?_)
 obtain ⟨out', hB1, hF⟩ := bind_some hF
 have hf := hf.pn [0, 1, 5]
 have hf : Fr a 19 [(0, (.slice A a'.length c)), (1, (.int .i64 k')), (5, (.int .i64 0))] := by first | exact hf | (simp only [List.length_set] at hf; exact hf)
 have H := H.lt_ [] [true] [] []
 refine loopC (fun (s : List Int × Int × Int) (a : Act) (w : World) => match s with | (a2, k2, i) => a2.length = a'.length ∧ Fr a 19 [(0, (.slice A a'.length c)), (1, (.int .i64 k2)), (5, (.int .i64 i))] ∧ Mem ⟨w0, F⟩ S [] [⟨.sh true, E, A, c, (a2 : List Int)⟩] [] [] w) (fun k (s : List Int × Int × Int) => laws_markIntS_L1 fu k s.1 s.2.1 s.2.2 = some out') (fun s => out' = s) (a', k', 0) fu hB1 ⟨rfl, hf, H⟩ (fun s h => by cases h) ?_ ?_
 ·rintro fk ⟨a2, k2, i⟩ a w hR1 hI
  replace hR1 : laws_markIntS_L1 fu (fk + 1) a2 k2 i = some out' := hR1
  rw [laws_markIntS_L1] at hR1
  obtain ⟨hlen, hf, H⟩ := hI
  have hf : Fr a 19 [(0, (.slice A a2.length c)), (1, (.int .i64 k2)), (5, (.int .i64 i))] := by rw [hlen]; exact hf
  refine sq (sqz (pz 4 hf fun a hf => ?_))
  refine wl_end (then_n (ib hR1 hf (fun hc hR1 => ?_) fun hc hR1 => ?_))
  ·refine wp_skip (then_n (sq (wp_block (sqz (pz 3 hf fun a hf => ?_)))))
   obtain ⟨e, he, hR1⟩ := bind_some hR1
   refine wl0 rfl (op_iaddrR hf H Tryz.underlying29 TF.sz3 0 rfl rfl rfl he (by decide) fun p o cs a hf hA hr hk => ?_)
   obtain rfl := hr
   refine wl0 rfl (op_storeR (e' := k2) (o := o) (off := 0) hf H TF.sz3 0 rfl rfl rfl rfl rfl (nle rfl) rfl hA he (st_full rfl) fun w H => ?_)
   replace hf : Fr a 19 [(0, (.slice A a2.length c)), (1, (.int .i64 k2)), (5, (.int .i64 i)), (12, (.slice A a2.length c)), (13, (.int .i64 i)), (14, (.int .i64 k2)), (15, (.pointer (some ⟨p, o + 0, none⟩)))] := hf.prune [0, 1, 5, 12, 13, 14, 15] rfl
   replace hf : Fr a 19 [(0, (.slice A (a2.set (i : Int).toNat k2).length c)), (1, (.int .i64 k2)), (5, (.int .i64 i)), (12, (.slice A (a2.set (i : Int).toNat k2).length c)), (13, (.int .i64 i)), (14, (.int .i64 k2)), (15, (.pointer (some ⟨p, o + 0, none⟩)))] := by simpa only [List.length_set, Nat.add_zero] using hf
   refine wl_end (then_n (reg (pz 3 hf fun a hf => ?_)))
   refine wl_end (blk_n (then_n (reg (pz 3 hf fun a hf => ?_))))
   refine wl_end ?_
   have hf := hf.pn [0, 1, 5]
   have hf : Fr a 19 [(0, (.slice A a'.length c)), (1, (.int .i64 (w64 (k2 + 1)))), (5, (.int .i64 (w64 (i + 1))))] := by first | exact hf | (simp only [List.length_set, hlen] at hf; exact hf)
   have H := H.lt_ [] [true] [] []
   exact then_n ⟨(a2.set (i : Int).toNat k2, w64 (k2 + 1), w64 (i + 1)), hR1, (by simp only [List.length_set, hlen]), hf, H⟩
  ·refine wp_exit (then_x (then_x (blk_e (?_))))
   have hf := hf.pn [0, 1, 5]
   have hf : Fr a 19 [(0, (.slice A a'.length c)), (1, (.int .i64 k2)), (5, (.int .i64 i))] := by first | exact hf | (simp only [List.length_set, hlen] at hf; exact hf)
   have H := H.lt_ [] [true] [] []
   exact ⟨(a2, k2, i), (Option.some.inj hR1).symm, (by simp only [List.length_set, hlen]), hf, H⟩
 rintro a w ⟨⟨a3, k3, i2⟩, rfl, hlen, hf, H⟩
 try dsimp only at hlen
 have hf : Fr a 19 [(0, (.slice A a3.length c)), (1, (.int .i64 k3)), (5, (.int .i64 i2))] := by rw [hlen]; exact hf
 try dsimp only at hF
 refine then_n (sqz (pz 2 hf fun a hf => ?_))
 refine wl_end (then_n (wp_ret (?_)))
 have H := H.rowOwn 0 rfl rfl
 obtain ⟨F', H⟩ := H.freezeOwn 0 rfl
 rw [hlen] at H
 obtain rfl := Option.some.inj hF
 refine ret_1 hf rfl (rv_tmp hf rfl) ?_
 exact ⟨_, rfl, H.chg, mk_int, _, H.ownAt 0 rfl, H.back⟩

theorem laws_markLightS_ok {S : Nat → Prop} {F : List Nat} {cs : List Value} {v1_ : Value} {a' : List Light} {k' : Int} {r : Int × List Light} (hO : GoTy.own w0 F cs a') (hn : F.Nodup) (h1 : VR w0 S v1_ k') (hF : laws_markLightS fu a' k' = some r) :
    Calls Tryz.prog 73 [(bif GoTy.agg (List Light) then .agg cs.toArray else cs.headD undef), v1_].toArray w0 fun e w' => ∃ v, e = .returned v ∧ (Chg w0 w' F ∧ VR w' (fun _ => True) v r.1 ∧ ∃ F', GoTy.own w' F' cs r.2 ∧ Back w0 w' F F') := by
 obtain rfl := VR_int h1
 obtain ⟨A, c, rfl, hO⟩ := own_list hO
 have H := Mem.startG S hO hn
 obtain ⟨Fs, E, H, -⟩ := H.thaw rfl
 refine en Tryz.func73 fun a hf => ?_
 rw [laws_markLightS] at hF
 refine sqz (pz 1 hf fun a hf => ?_)
 refine wl_end (then_n (sq (sqz (pz 1 hf fun a hf => ?_))))
 refine wl_end (then_n ?_)
 obtain ⟨out', hB1, hF⟩ := bind_some hF
 have hf := hf.pn [0, 1, 5]
 have hf : Fr a 52 [(0, (.slice A a'.length c)), (1, (.int .i64 k')), (5, (.int .i64 0))] := by first | exact hf | (simp only [List.length_set] at hf; exact hf)
 have H := H.lt_ [] [true] [] []
 refine loopC (fun (s : List Light × Int × Int) (a : Act) (w : World) => match s with | (a2, k2, i) => ∃ (Fs2 : List (List Nat)), a2.length = a'.length ∧ Fr a 52 [(0, (.slice A a'.length c)), (1, (.int .i64 k2)), (5, (.int .i64 i))] ∧ Mem ⟨w0, F⟩ S [] [⟨.ow Fs2, E, A, c, (a2 : List Light)⟩] [] [] w) (fun k (s : List Light × Int × Int) => laws_markLightS_L1 fu k s.1 s.2.1 s.2.2 = some out') (fun s => out' = s) (a', k', 0) fu hB1 ⟨Fs, rfl, hf, H⟩ (fun s h => by cases h) ?_ ?_
 ·rintro fk ⟨a2, k2, i⟩ a w hR1 hI
  replace hR1 : laws_markLightS_L1 fu (fk + 1) a2 k2 i = some out' := hR1
  rw [laws_markLightS_L1] at hR1
  obtain ⟨Fs2, hlen, hf, H⟩ := hI
  have hf : Fr a 52 [(0, (.slice A a2.length c)), (1, (.int .i64 k2)), (5, (.int .i64 i))] := by rw [hlen]; exact hf
  refine sq (sqz (pz 4 hf fun a hf => ?_))
  refine wl_end (then_n (ib hR1 hf (fun hc hR1 => ?_) fun hc hR1 => ?_))
  ·refine wp_skip (then_n (sq (wp_block (sqz (pz 3 hf fun a hf => ?_)))))
   obtain ⟨e, he, hR1⟩ := bind_some hR1
   refine wl0 rfl (op_iaddrR hf H Tryz.underlying43 TF.sz52 0 rfl rfl rfl he (by decide) fun p o cs a hf hA hr hk => ?_)
   have hrk := hr
   obtain ⟨A2, c2, rfl, hl⟩ := Light_cells hr
   have H := H.push (true, MP.val [(.slice A2 e.Route.Fibers.length c2)] e.Route.Fibers) hl
   refine pz 1 hf fun a hf => ?_
   refine wl0 rfl (op_storeR (e' := ({ Id := k2, Route := e.Route, Block := e.Block } : Light)) (o := o) (off := 0) hf H TF.sz3 0 rfl rfl rfl rfl rfl (nle rfl) rfl hA he (st_own fun F cs h => by obtain ⟨A0, c0, F0, rfl, rfl, l0⟩ := Light_own h; exact Light_ownmk (x := ({ Id := k2, Route := e.Route, Block := e.Block } : Light)) l0) fun w H => ?_)
   replace hf : Fr a 52 [(0, (.slice A a2.length c)), (1, (.int .i64 k2)), (5, (.int .i64 i)), (12, (.slice A a2.length c)), (13, (.int .i64 i)), (14, (.int .i64 k2)), (15, (.pointer (some ⟨p, o + 0, none⟩))), (16, (.pointer (some ⟨p, o + 0, none⟩)))] := hf.prune [0, 1, 5, 12, 13, 14, 15, 16] rfl
   replace hf : Fr a 52 [(0, (.slice A (a2.set (i : Int).toNat ({ Id := k2, Route := e.Route, Block := e.Block } : Light)).length c)), (1, (.int .i64 k2)), (5, (.int .i64 i)), (12, (.slice A (a2.set (i : Int).toNat ({ Id := k2, Route := e.Route, Block := e.Block } : Light)).length c)), (13, (.int .i64 i)), (14, (.int .i64 k2)), (15, (.pointer (some ⟨p, o + 0, none⟩))), (16, (.pointer (some ⟨p, o + 0, none⟩)))] := by simpa only [List.length_set, Nat.add_zero] using hf
   refine wr (pz 3 hf fun a hf => ?_)
   refine wr (pz 3 hf fun a hf => ?_)
   obtain ⟨e2, he2, hR1⟩ := bind_some hR1
   refine wl0 rfl (op_iaddrR hf H Tryz.underlying43 TF.sz52 0 rfl rfl rfl he2 (by decide) fun p2 o2 cs2 a hf hA2 hr2 hk2 => ?_)
   have hrk2 := hr2
   obtain ⟨A3, c3, rfl, hl2⟩ := Light_cells hr2
   have H := H.push (true, MP.val [(.slice A3 e2.Route.Fibers.length c3)] e2.Route.Fibers) hl2
   refine pz 2 hf fun a hf => ?_
   refine wl0 rfl (op_storeR (e' := ({ Id := e2.Id, Route := ({ Start := w64 (k2 + 1), Fibers := e2.Route.Fibers } : Route), Block := e2.Block } : Light)) (o := o2) (off := 1) hf H TF.sz3 0 rfl rfl rfl rfl rfl (nle rfl) rfl hA2 he2 (st_own fun F cs h => by obtain ⟨A0, c0, F0, rfl, rfl, l0⟩ := Light_own h; exact Light_ownmk (x := ({ Id := e2.Id, Route := ({ Start := w64 (k2 + 1), Fibers := e2.Route.Fibers } : Route), Block := e2.Block } : Light)) l0) fun w H => ?_)
   replace hf : Fr a 52 [(0, (.slice A (a2.set (i : Int).toNat ({ Id := k2, Route := e.Route, Block := e.Block } : Light)).length c)), (1, (.int .i64 (w64 (k2 + 1)))), (5, (.int .i64 i)), (19, (.slice A (a2.set (i : Int).toNat ({ Id := k2, Route := e.Route, Block := e.Block } : Light)).length c)), (20, (.int .i64 i)), (21, (.int .i64 (w64 (k2 + 1)))), (22, (.pointer (some ⟨p2, o2 + 0, none⟩))), (23, (.pointer (some ⟨p2, o2 + 1, none⟩))), (24, (.pointer (some ⟨p2, o2 + 1, none⟩)))] := hf.prune [0, 1, 5, 19, 20, 21, 22, 23, 24] rfl
   replace hf : Fr a 52 [(0, (.slice A ((a2.set (i : Int).toNat ({ Id := k2, Route := e.Route, Block := e.Block } : Light)).set (i : Int).toNat ({ Id := e2.Id, Route := ({ Start := w64 (k2 + 1), Fibers := e2.Route.Fibers } : Route), Block := e2.Block } : Light)).length c)), (1, (.int .i64 (w64 (k2 + 1)))), (5, (.int .i64 i)), (19, (.slice A ((a2.set (i : Int).toNat ({ Id := k2, Route := e.Route, Block := e.Block } : Light)).set (i : Int).toNat ({ Id := e2.Id, Route := ({ Start := w64 (k2 + 1), Fibers := e2.Route.Fibers } : Route), Block := e2.Block } : Light)).length c)), (20, (.int .i64 i)), (21, (.int .i64 (w64 (k2 + 1)))), (22, (.pointer (some ⟨p2, o2 + 0, none⟩))), (23, (.pointer (some ⟨p2, o2 + 1, none⟩))), (24, (.pointer (some ⟨p2, o2 + 1, none⟩)))] := by simpa only [List.length_set, Nat.add_zero] using hf
   refine wr (pz 3 hf fun a hf => ?_)
   refine wr (pz 2 hf fun a hf => ?_)
   obtain ⟨e3, he3, hR1⟩ := bind_some hR1
   refine wl0 rfl (op_iaddrR hf H Tryz.underlying43 TF.sz52 0 rfl rfl rfl he3 (by decide) fun p3 o3 cs3 a hf hA3 hr3 hk3 => ?_)
   have hrk3 := hr3
   obtain ⟨A4, c4, rfl, hl3⟩ := Light_cells hr3
   have H := H.push (true, MP.val [(.slice A4 e3.Route.Fibers.length c4)] e3.Route.Fibers) hl3
   refine pz 2 hf fun a hf => ?_
   refine oq hf (rq_load1 hf TF.ls29 rfl (hk3 2 _ rfl)) fun a hf => ?_
   refine pz 1 hf fun a hf => ?_
   obtain ⟨y, hy, hR1⟩ := bind_some hR1
   obtain ⟨F2, hO, hNd, hnx⟩ := H.mutEl rfl he3 hA3 hrk3 hk3 Light_lens_Route_Fibers rfl
   refine oc hf TF.cl84 (laws_markIntS_ok (S := TT) (cs := [(.slice A4 e3.Route.Fibers.length c4)]) hO hNd mk_int hy) fun v w a hp hf => ?_
   obtain ⟨hch, hv, F3, ho, hbk⟩ := hp
   obtain rfl := VR_int hv
   obtain ⟨Fs3, H⟩ := hnx _ _ _ hch ho hbk
   replace hf : Fr a 52 [(0, (.slice A ((a2.set (i : Int).toNat ({ Id := k2, Route := e.Route, Block := e.Block } : Light)).set (i : Int).toNat ({ Id := e2.Id, Route := ({ Start := w64 (k2 + 1), Fibers := e2.Route.Fibers } : Route), Block := e2.Block } : Light)).length c)), (1, (.int .i64 (w64 ((w64 (k2 + 1)) + 1)))), (5, (.int .i64 i)), (27, (.slice A ((a2.set (i : Int).toNat ({ Id := k2, Route := e.Route, Block := e.Block } : Light)).set (i : Int).toNat ({ Id := e2.Id, Route := ({ Start := w64 (k2 + 1), Fibers := e2.Route.Fibers } : Route), Block := e2.Block } : Light)).length c)), (28, (.int .i64 i)), (29, (.pointer (some ⟨p3, o3 + 0, none⟩))), (30, (.pointer (some ⟨p3, o3 + 1, none⟩))), (31, (.pointer (some ⟨p3, o3 + 2, none⟩))), (32, (.slice A4 e3.Route.Fibers.length c4)), (33, (.int .i64 (w64 ((w64 (k2 + 1)) + 1)))), (34, (.int .i64 y.1))] := hf.prune [0, 1, 5, 27, 28, 29, 30, 31, 32, 33, 34] rfl
   replace hf : Fr a 52 [(0, (.slice A (((a2.set (i : Int).toNat ({ Id := k2, Route := e.Route, Block := e.Block } : Light)).set (i : Int).toNat ({ Id := e2.Id, Route := ({ Start := w64 (k2 + 1), Fibers := e2.Route.Fibers } : Route), Block := e2.Block } : Light)).set (i : Int).toNat ({ e3 with Route := { e3.Route with Fibers := y.2 } })).length c)), (1, (.int .i64 (w64 ((w64 (k2 + 1)) + 1)))), (5, (.int .i64 i)), (27, (.slice A (((a2.set (i : Int).toNat ({ Id := k2, Route := e.Route, Block := e.Block } : Light)).set (i : Int).toNat ({ Id := e2.Id, Route := ({ Start := w64 (k2 + 1), Fibers := e2.Route.Fibers } : Route), Block := e2.Block } : Light)).set (i : Int).toNat ({ e3 with Route := { e3.Route with Fibers := y.2 } })).length c)), (28, (.int .i64 i)), (29, (.pointer (some ⟨p3, o3 + 0, none⟩))), (30, (.pointer (some ⟨p3, o3 + 1, none⟩))), (31, (.pointer (some ⟨p3, o3 + 2, none⟩))), (32, (.slice A4 e3.Route.Fibers.length c4)), (33, (.int .i64 (w64 ((w64 (k2 + 1)) + 1)))), (34, (.int .i64 y.1))] := by simpa only [List.length_set, Nat.add_zero] using hf
   refine pz 1 hf fun a hf => ?_
   refine wr (pz 3 hf fun a hf => ?_)
   obtain ⟨e4, he4, hR1⟩ := bind_some hR1
   refine wl0 rfl (op_iaddrR hf H Tryz.underlying43 TF.sz52 0 rfl rfl rfl he4 (by decide) fun p4 o4 cs4 a hf hA4 hr4 hk4 => ?_)
   have hrk4 := hr4
   obtain ⟨A5, c5, rfl, hl4⟩ := Light_cells hr4
   have H := H.push (true, MP.val [(.slice A5 e4.Route.Fibers.length c5)] e4.Route.Fibers) hl4
   refine pz 2 hf fun a hf => ?_
   refine wl0 rfl (op_storeR (e' := ({ Id := e4.Id, Route := e4.Route, Block := ({ First := y.1, Count := e4.Block.Count } : Block) } : Light)) (o := o4) (off := 3) hf H TF.sz3 0 rfl rfl rfl rfl rfl (nle rfl) rfl hA4 he4 (st_own fun F cs h => by obtain ⟨A0, c0, F0, rfl, rfl, l0⟩ := Light_own h; exact Light_ownmk (x := ({ Id := e4.Id, Route := e4.Route, Block := ({ First := y.1, Count := e4.Block.Count } : Block) } : Light)) l0) fun w H => ?_)
   replace hf : Fr a 52 [(0, (.slice A (((a2.set (i : Int).toNat ({ Id := k2, Route := e.Route, Block := e.Block } : Light)).set (i : Int).toNat ({ Id := e2.Id, Route := ({ Start := w64 (k2 + 1), Fibers := e2.Route.Fibers } : Route), Block := e2.Block } : Light)).set (i : Int).toNat ({ e3 with Route := { e3.Route with Fibers := y.2 } })).length c)), (1, (.int .i64 y.1)), (5, (.int .i64 i)), (35, (.slice A (((a2.set (i : Int).toNat ({ Id := k2, Route := e.Route, Block := e.Block } : Light)).set (i : Int).toNat ({ Id := e2.Id, Route := ({ Start := w64 (k2 + 1), Fibers := e2.Route.Fibers } : Route), Block := e2.Block } : Light)).set (i : Int).toNat ({ e3 with Route := { e3.Route with Fibers := y.2 } })).length c)), (36, (.int .i64 i)), (37, (.int .i64 y.1)), (38, (.pointer (some ⟨p4, o4 + 0, none⟩))), (39, (.pointer (some ⟨p4, o4 + 3, none⟩))), (40, (.pointer (some ⟨p4, o4 + 3, none⟩)))] := hf.prune [0, 1, 5, 35, 36, 37, 38, 39, 40] rfl
   replace hf : Fr a 52 [(0, (.slice A ((((a2.set (i : Int).toNat ({ Id := k2, Route := e.Route, Block := e.Block } : Light)).set (i : Int).toNat ({ Id := e2.Id, Route := ({ Start := w64 (k2 + 1), Fibers := e2.Route.Fibers } : Route), Block := e2.Block } : Light)).set (i : Int).toNat ({ e3 with Route := { e3.Route with Fibers := y.2 } })).set (i : Int).toNat ({ Id := e4.Id, Route := e4.Route, Block := ({ First := y.1, Count := e4.Block.Count } : Block) } : Light)).length c)), (1, (.int .i64 y.1)), (5, (.int .i64 i)), (35, (.slice A ((((a2.set (i : Int).toNat ({ Id := k2, Route := e.Route, Block := e.Block } : Light)).set (i : Int).toNat ({ Id := e2.Id, Route := ({ Start := w64 (k2 + 1), Fibers := e2.Route.Fibers } : Route), Block := e2.Block } : Light)).set (i : Int).toNat ({ e3 with Route := { e3.Route with Fibers := y.2 } })).set (i : Int).toNat ({ Id := e4.Id, Route := e4.Route, Block := ({ First := y.1, Count := e4.Block.Count } : Block) } : Light)).length c)), (36, (.int .i64 i)), (37, (.int .i64 y.1)), (38, (.pointer (some ⟨p4, o4 + 0, none⟩))), (39, (.pointer (some ⟨p4, o4 + 3, none⟩))), (40, (.pointer (some ⟨p4, o4 + 3, none⟩)))] := by simpa only [List.length_set, Nat.add_zero] using hf
   refine wr (pz 3 hf fun a hf => ?_)
   refine wr (pz 3 hf fun a hf => ?_)
   obtain ⟨e5, he5, hR1⟩ := bind_some hR1
   refine wl0 rfl (op_iaddrR hf H Tryz.underlying43 TF.sz52 0 rfl rfl rfl he5 (by decide) fun p5 o5 cs5 a hf hA5 hr5 hk5 => ?_)
   have hrk5 := hr5
   obtain ⟨A6, c6, rfl, hl5⟩ := Light_cells hr5
   have H := H.push (true, MP.val [(.slice A6 e5.Route.Fibers.length c6)] e5.Route.Fibers) hl5
   refine pz 2 hf fun a hf => ?_
   refine wl0 rfl (op_storeR (e' := ({ Id := e5.Id, Route := e5.Route, Block := ({ First := e5.Block.First, Count := w64 (y.1 + 1) } : Block) } : Light)) (o := o5) (off := 4) hf H TF.sz3 0 rfl rfl rfl rfl rfl (nle rfl) rfl hA5 he5 (st_own fun F cs h => by obtain ⟨A0, c0, F0, rfl, rfl, l0⟩ := Light_own h; exact Light_ownmk (x := ({ Id := e5.Id, Route := e5.Route, Block := ({ First := e5.Block.First, Count := w64 (y.1 + 1) } : Block) } : Light)) l0) fun w H => ?_)
   replace hf : Fr a 52 [(0, (.slice A ((((a2.set (i : Int).toNat ({ Id := k2, Route := e.Route, Block := e.Block } : Light)).set (i : Int).toNat ({ Id := e2.Id, Route := ({ Start := w64 (k2 + 1), Fibers := e2.Route.Fibers } : Route), Block := e2.Block } : Light)).set (i : Int).toNat ({ e3 with Route := { e3.Route with Fibers := y.2 } })).set (i : Int).toNat ({ Id := e4.Id, Route := e4.Route, Block := ({ First := y.1, Count := e4.Block.Count } : Block) } : Light)).length c)), (1, (.int .i64 (w64 (y.1 + 1)))), (5, (.int .i64 i)), (43, (.slice A ((((a2.set (i : Int).toNat ({ Id := k2, Route := e.Route, Block := e.Block } : Light)).set (i : Int).toNat ({ Id := e2.Id, Route := ({ Start := w64 (k2 + 1), Fibers := e2.Route.Fibers } : Route), Block := e2.Block } : Light)).set (i : Int).toNat ({ e3 with Route := { e3.Route with Fibers := y.2 } })).set (i : Int).toNat ({ Id := e4.Id, Route := e4.Route, Block := ({ First := y.1, Count := e4.Block.Count } : Block) } : Light)).length c)), (44, (.int .i64 i)), (45, (.int .i64 (w64 (y.1 + 1)))), (46, (.pointer (some ⟨p5, o5 + 0, none⟩))), (47, (.pointer (some ⟨p5, o5 + 3, none⟩))), (48, (.pointer (some ⟨p5, o5 + 4, none⟩)))] := hf.prune [0, 1, 5, 43, 44, 45, 46, 47, 48] rfl
   replace hf : Fr a 52 [(0, (.slice A (((((a2.set (i : Int).toNat ({ Id := k2, Route := e.Route, Block := e.Block } : Light)).set (i : Int).toNat ({ Id := e2.Id, Route := ({ Start := w64 (k2 + 1), Fibers := e2.Route.Fibers } : Route), Block := e2.Block } : Light)).set (i : Int).toNat ({ e3 with Route := { e3.Route with Fibers := y.2 } })).set (i : Int).toNat ({ Id := e4.Id, Route := e4.Route, Block := ({ First := y.1, Count := e4.Block.Count } : Block) } : Light)).set (i : Int).toNat ({ Id := e5.Id, Route := e5.Route, Block := ({ First := e5.Block.First, Count := w64 (y.1 + 1) } : Block) } : Light)).length c)), (1, (.int .i64 (w64 (y.1 + 1)))), (5, (.int .i64 i)), (43, (.slice A (((((a2.set (i : Int).toNat ({ Id := k2, Route := e.Route, Block := e.Block } : Light)).set (i : Int).toNat ({ Id := e2.Id, Route := ({ Start := w64 (k2 + 1), Fibers := e2.Route.Fibers } : Route), Block := e2.Block } : Light)).set (i : Int).toNat ({ e3 with Route := { e3.Route with Fibers := y.2 } })).set (i : Int).toNat ({ Id := e4.Id, Route := e4.Route, Block := ({ First := y.1, Count := e4.Block.Count } : Block) } : Light)).set (i : Int).toNat ({ Id := e5.Id, Route := e5.Route, Block := ({ First := e5.Block.First, Count := w64 (y.1 + 1) } : Block) } : Light)).length c)), (44, (.int .i64 i)), (45, (.int .i64 (w64 (y.1 + 1)))), (46, (.pointer (some ⟨p5, o5 + 0, none⟩))), (47, (.pointer (some ⟨p5, o5 + 3, none⟩))), (48, (.pointer (some ⟨p5, o5 + 4, none⟩)))] := by simpa only [List.length_set, Nat.add_zero] using hf
   refine wl_end (then_n (reg (pz 3 hf fun a hf => ?_)))
   refine wl_end (blk_n (then_n (reg (pz 3 hf fun a hf => ?_))))
   refine wl_end ?_
   have hf := hf.pn [0, 1, 5]
   have hf : Fr a 52 [(0, (.slice A a'.length c)), (1, (.int .i64 (w64 ((w64 (y.1 + 1)) + 1)))), (5, (.int .i64 (w64 (i + 1))))] := by first | exact hf | (simp only [List.length_set, hlen] at hf; exact hf)
   have H := H.lt_ [] [true] [] []
   exact then_n ⟨(((((a2.set (i : Int).toNat ({ Id := k2, Route := e.Route, Block := e.Block } : Light)).set (i : Int).toNat ({ Id := e2.Id, Route := ({ Start := w64 (k2 + 1), Fibers := e2.Route.Fibers } : Route), Block := e2.Block } : Light)).set (i : Int).toNat ({ e3 with Route := { e3.Route with Fibers := y.2 } })).set (i : Int).toNat ({ Id := e4.Id, Route := e4.Route, Block := ({ First := y.1, Count := e4.Block.Count } : Block) } : Light)).set (i : Int).toNat ({ Id := e5.Id, Route := e5.Route, Block := ({ First := e5.Block.First, Count := w64 (y.1 + 1) } : Block) } : Light), w64 ((w64 (y.1 + 1)) + 1), w64 (i + 1)), hR1, Fs3, (by simp only [List.length_set, hlen]), hf, H⟩
  ·refine wp_exit (then_x (then_x (blk_e (?_))))
   have hf := hf.pn [0, 1, 5]
   have hf : Fr a 52 [(0, (.slice A a'.length c)), (1, (.int .i64 k2)), (5, (.int .i64 i))] := by first | exact hf | (simp only [List.length_set, hlen] at hf; exact hf)
   have H := H.lt_ [] [true] [] []
   exact ⟨(a2, k2, i), (Option.some.inj hR1).symm, Fs2, (by simp only [List.length_set, hlen]), hf, H⟩
 rintro a w ⟨⟨a3, k3, i2⟩, rfl, Fs4, hlen, hf, H⟩
 try dsimp only at hlen
 have hf : Fr a 52 [(0, (.slice A a3.length c)), (1, (.int .i64 k3)), (5, (.int .i64 i2))] := by rw [hlen]; exact hf
 try dsimp only at hF
 refine then_n (sqz (pz 2 hf fun a hf => ?_))
 refine wl_end (then_n (wp_ret (?_)))
 obtain ⟨F', H⟩ := H.freezeOwn 0 rfl
 rw [hlen] at H
 obtain rfl := Option.some.inj hF
 refine ret_1 hf rfl (rv_tmp hf rfl) ?_
 exact ⟨_, rfl, H.chg, mk_int, _, H.ownAt 0 rfl, H.back⟩

theorem laws_markPlan_ok {S : Nat → Prop} {F : List Nat} {cs : List Value} {v1_ : Value} {a' : Plan} {k' : Int} {r : Int × Plan} (hO : GoTy.own w0 F cs a') (hn : F.Nodup) (h1 : VR w0 S v1_ k') (hF : laws_markPlan fu a' k' = some r) :
    Calls Tryz.prog 19 [(bif GoTy.agg (Plan) then .agg cs.toArray else cs.headD undef), v1_].toArray w0 fun e w' => ∃ v, e = .returned v ∧ (Chg w0 w' F ∧ VR w' (fun _ => True) v r.1 ∧ ∃ F', GoTy.own w' F' cs r.2 ∧ Back w0 w' F F') := by
 obtain rfl := VR_int h1
 obtain ⟨A1, c1, F1, A2, c2, F2, A3, c3, F3, rfl, hFe, l1, l2, l3⟩ := Plan_own hO
 have H := Mem.startG S hO hn
 have H := H.recast (X := [(⟨F, MP.own F [(.slice A1 a'.Network.Nodes.length c1), (.slice A2 a'.Network.Fibers.length c2), (.slice A3 a'.Lights.length c3)] (a' : Plan)⟩ : DI)]) (Y := [(⟨F1, MP.own F1 [(.slice A1 a'.Network.Nodes.length c1)] (a'.Network.Nodes : List ByteArray)⟩ : DI), (⟨F2, MP.own F2 [(.slice A2 a'.Network.Fibers.length c2)] (a'.Network.Fibers : List Fiber)⟩ : DI), (⟨F3, MP.own F3 [(.slice A3 a'.Lights.length c3)] (a'.Lights : List Light)⟩ : DI)]) (D := []) (List.Perm.of_eq (by simp [hFe])) fun _ => (ps1 l1 (ps1 l2 (ps1 l3 ps0)))
 have H := H.lend 0 rfl
 have H := H.lend 1 rfl
 have H := H.lend 2 rfl
 refine en Tryz.func19 fun a hf => ?_
 rw [laws_markPlan] at hF
 refine sq (reg (wl0 rfl (op_box hf H rfl rfl (by decide) fun b' a w hf H => ?_)))
 refine pz 1 hf fun a hf => ?_
 refine wr (pz 1 hf fun a hf => ?_)
 refine oq hf (rq_loadBN hf H TF.la42 0 rfl rfl rfl rfl) fun a hf => ?_
 refine pz 1 hf fun a hf => ?_
 have H := H.frontD 1 rfl
 have H := H.frontD 1 rfl
 have H := H.recast (X := [(⟨F1, MP.own F1 [(.slice A1 a'.Network.Nodes.length c1)] (a'.Network.Nodes : List ByteArray)⟩ : DI), (⟨F2, MP.own F2 [(.slice A2 a'.Network.Fibers.length c2)] (a'.Network.Fibers : List Fiber)⟩ : DI)]) (Y := [(⟨(F1 ++ F2), MP.own (F1 ++ F2) [(.slice A1 a'.Network.Nodes.length c1), (.slice A2 a'.Network.Fibers.length c2)] (a'.Network : Network)⟩ : DI)]) (List.Perm.of_eq (by simp)) fun _ => ps1 (Network_ownmk (x := a'.Network) (H.ownAt 0 rfl) (H.ownAt 1 rfl)) ps0
 obtain ⟨y, hy, hF⟩ := bind_some hF
 refine oc hf TF.cl72 (laws_markNetwork_ok (S := TT) (F := (F1 ++ F2)) (cs := [(.slice A1 a'.Network.Nodes.length c1), (.slice A2 a'.Network.Fibers.length c2)]) (H.ownAt 0 rfl) H.diNd.1 mk_int hy) fun v w a hp hf => ?_
 obtain ⟨hch, hv, F5, ho, hbk⟩ := hp
 obtain rfl := VR_int hv
 have H := H.wrote rfl hch ho hbk
 obtain ⟨F6, F7, hFe, hl, hl2⟩ := Network_ownc (H.ownAt 0 rfl)
 have H := H.recast (X := [(⟨F5, MP.own F5 [(.slice A1 a'.Network.Nodes.length c1), (.slice A2 a'.Network.Fibers.length c2)] (y.2 : Network)⟩ : DI)]) (Y := [(⟨F6, MP.own F6 [(.slice A1 a'.Network.Nodes.length c1)] (y.2.Nodes : List ByteArray)⟩ : DI), (⟨F7, MP.own F7 [(.slice A2 a'.Network.Fibers.length c2)] (y.2.Fibers : List Fiber)⟩ : DI)]) (List.Perm.of_eq (by simp [hFe])) fun _ => (ps1 hl (ps1 hl2 ps0))
 have H := H.lend 0 rfl
 have H := H.lend 1 rfl
 have H := H.lend 2 rfl
 refine pz 1 hf fun a hf => ?_
 refine wr (pz 1 hf fun a hf => ?_)
 refine oq hf (rq_loadB hf H TF.ls43 0 rfl rfl rfl) fun a hf => ?_
 refine pz 1 hf fun a hf => ?_
 have H := H.frontD 2 rfl
 obtain ⟨y2, hy2, hF⟩ := bind_some hF
 refine oc hf TF.cl73 (laws_markLightS_ok (S := TT) (F := F3) (cs := [(.slice A3 a'.Lights.length c3)]) (H.ownAt 0 rfl) H.diNd.1 mk_int hy2) fun v2 w a hp2 hf => ?_
 obtain ⟨hch2, hv2, F8, ho2, hbk2⟩ := hp2
 obtain rfl := VR_int hv2
 have H := H.wrote rfl hch2 ho2 hbk2
 have H := H.lend 0 rfl
 have H := H.lend 1 rfl
 have H := H.lend 2 rfl
 refine pz 1 hf fun a hf => ?_
 refine wr (pz 2 hf fun a hf => ?_)
 refine wl_end (then_n (wp_ret (?_)))
 have H := H.frontD 2 rfl
 have H := H.frontD 2 rfl
 have H := H.recast (X := [(⟨F6, MP.own F6 [(.slice A1 a'.Network.Nodes.length c1)] (y.2.Nodes : List ByteArray)⟩ : DI), (⟨F7, MP.own F7 [(.slice A2 a'.Network.Fibers.length c2)] (y.2.Fibers : List Fiber)⟩ : DI), (⟨F8, MP.own F8 [(.slice A3 a'.Lights.length c3)] (y2.2 : List Light)⟩ : DI)]) (Y := [(⟨(F6 ++ (F7 ++ F8)), MP.own (F6 ++ (F7 ++ F8)) [(.slice A1 a'.Network.Nodes.length c1), (.slice A2 a'.Network.Fibers.length c2), (.slice A3 a'.Lights.length c3)] (({ Network := y.2, Lights := y2.2 } : Plan) : Plan)⟩ : DI)]) (List.Perm.of_eq (by simp)) fun _ => ps1 (Plan_ownmk (x := ({ Network := y.2, Lights := y2.2 } : Plan)) (H.ownAt 0 rfl) (H.ownAt 1 rfl) (H.ownAt 2 rfl)) ps0
 obtain rfl := Option.some.inj hF
 refine ret_1 hf rfl (rv_tmp hf rfl) ?_
 exact ⟨_, rfl, H.chg, mk_int, _, H.ownAt 0 rfl, H.back⟩

theorem laws_heldStringS_ok {S : Nat → Prop} {v0_ : Value} {v1_ : Value} {a' : List ByteArray} {k' : Int} {r : Int} (h0 : VR w0 S v0_ a') (h1 : VR w0 S v1_ k') (hF : laws_heldStringS fu a' k' = some r) :
    Calls Tryz.prog 137 [v0_, v1_].toArray w0 fun e w' => ∃ v, e = .returned v ∧ (Below w0.heap.size w0 w' ∧ VR w' (St ⟨w0, []⟩ S [] [] [] true) v r) := by
 obtain ⟨A, c, rfl, hl⟩ := VR_list h0
 obtain rfl := VR_int h1
 have H := Mem.start ⟨w0, []⟩ S
 have H := H.pushArg (MP.val [(.slice A a'.length c)] a') hl
 refine en Tryz.func137 fun a hf => ?_
 rw [laws_heldStringS] at hF
 refine sqz (pz 1 hf fun a hf => ?_)
 refine wl_end (then_n (sq (sqz (pz 1 hf fun a hf => ?_))))
 refine wl_end (then_n ?_)
 obtain ⟨out', hB1, hF⟩ := bind_some hF
 have hf := hf.pn [0, 1, 5]
 have H := H.lt_ [] [] [] [0]
 refine loopC (fun (s : Int × Int) (a : Act) (w : World) => match s with | (k2, i) => Fr a 22 [(0, (.slice A a'.length c)), (1, (.int .i64 k2)), (5, (.int .i64 i))] ∧ Mem ⟨w0, []⟩ S [] [] [] [(false, MP.val [(.slice A a'.length c)] (a' : List ByteArray))] w) (fun k (s : Int × Int) => laws_heldStringS_L1 fu a' k s.1 s.2 = some out') (fun s => out' = Out.next s) (k', 0) fu hB1 ⟨hf, H⟩ (fun s h => by cases h) ?_ ?_
 ·rintro fk ⟨k2, i⟩ a w hR1 hI
  replace hR1 : laws_heldStringS_L1 fu a' (fk + 1) k2 i = some out' := hR1
  rw [laws_heldStringS_L1] at hR1
  obtain ⟨hf, H⟩ := hI
  refine sq (sqz (pz 4 hf fun a hf => ?_))
  refine wl_end (then_n (ib hR1 hf (fun hc hR1 => ?_) fun hc hR1 => ?_))
  ·refine wp_skip (then_n (sq (wp_block (sq (sq (drawn [] (bs := [false, false, false, false, false, false, false]) (fuel := 7) (Checked.mixed Tryz.checked) rfl rfl fun w hb => ?_))))))
   have H := H.keep hb
   refine zp 0 hf trivial fun a hf => ?_
   refine zp 1 hf trivial fun a hf => ?_
   obtain ⟨e, he, hR1⟩ := bind_some hR1
   obtain ⟨p, o, cs, hx, hr, H⟩ := pre_iaddr H Tryz.underlying22 TF.sz9 0 rfl he
   refine tP 2 rfl rfl rfl rfl hf (by kernel_rfl) (fun _ => trivial) (fun w => rq_iaddrE hf rfl rfl rfl hx w) fun a hf => ?_
   obtain rfl := hr
   refine strT (H.let [] [] [] [0] rfl rfl rfl rfl) (fun w H => trivial) fun hS => ?_
   refine tS 3 [] rfl rfl rfl rfl hf (by kernel_rfl) (by kernel_rfl) hS (fun w H => rq_loadI hf H TF.ls9 0 0 rfl rfl rfl) fun a hf => ?_
   refine zp 4 hf hS fun a hf => ?_
   obtain ⟨y, hy, hR1⟩ := bind_some hR1
   refine n1 5 (by kernel_rfl) rfl rfl (op_call hf TF.cl175 rfl (by decide) (laws_markText_ok (S := TT) mk_int hy) fun v w a hp hf => ?_)
   obtain ⟨hb, hp⟩ := hp
   obtain rfl := VR_str hp
   have H := H.keep hb
   have hS := H.lt_ [] [] [] [0]
   refine ⟨fun _ => hS, ?_⟩
   refine zp 6 hf hS fun a hf => ?_
   refine dn (by kernel_rfl) ?_
   refine then_n (ib hR1 hf (fun hc2 hR1 => ?_) fun hc2 hR1 => ?_)
   ·refine sqz (pz 1 hf fun a hf => ?_)
    have hf := hf.pn [4]
    refine wl_end (then_n (wp_ret (then_r (blk_r (then_r (then_r (blk_r (then_r (then_r (?_))))))))))
    obtain rfl := Option.some.inj hR1
    replace hF := on_ret hF
    obtain rfl := Option.some.inj hF
    refine ret_1 hf rfl (rv_tmp hf rfl) ?_
    exact ⟨_, rfl, H.bel, mk_int⟩
   ·refine wp_skip (then_n (reg (pz 3 hf fun a hf => ?_)))
    have hf := hf.pn [0, 1, 5]
    refine wl_end (blk_n (then_n (reg (pz 3 hf fun a hf => ?_))))
    refine wl_end ?_
    have hf := hf.pn [0, 1, 5]
    have H := H.lt_ [] [] [] [1]
    exact then_n ⟨(w64 (k2 + 1), w64 (i + 1)), hR1, hf, H⟩
  ·refine wp_exit (then_x (then_x (blk_e (?_))))
   have hf := hf.pn [0, 1, 5]
   have H := H.lt_ [] [] [] [0]
   exact ⟨(k2, i), (Option.some.inj hR1).symm, hf, H⟩
 rintro a w ⟨⟨k3, i2⟩, rfl, hf, H⟩
 replace hF := on_next hF
 try dsimp only at hF
 refine then_n (sqz (pz 2 hf fun a hf => ?_))
 refine wl_end (then_n (wp_ret (?_)))
 obtain rfl := Option.some.inj hF
 refine ret_1 hf rfl (rv_tmp hf rfl) ?_
 exact ⟨_, rfl, H.bel, mk_int⟩

theorem laws_heldFiberS_ok {S : Nat → Prop} {v0_ : Value} {v1_ : Value} {a' : List Fiber} {k' : Int} {r : Int} (h0 : VR w0 S v0_ a') (h1 : VR w0 S v1_ k') (hF : laws_heldFiberS fu a' k' = some r) :
    Calls Tryz.prog 138 [v0_, v1_].toArray w0 fun e w' => ∃ v, e = .returned v ∧ (Below w0.heap.size w0 w' ∧ VR w' (St ⟨w0, []⟩ S [] [] [] true) v r) := by
 obtain ⟨A, c, rfl, hl⟩ := VR_list h0
 obtain rfl := VR_int h1
 have H := Mem.start ⟨w0, []⟩ S
 have H := H.pushArg (MP.val [(.slice A a'.length c)] a') hl
 refine en Tryz.func138 fun a hf => ?_
 rw [laws_heldFiberS] at hF
 refine sqz (pz 1 hf fun a hf => ?_)
 refine wl_end (then_n (sq (sqz (pz 1 hf fun a hf => ?_))))
 refine wl_end (then_n ?_)
 obtain ⟨out', hB1, hF⟩ := bind_some hF
 have hf := hf.pn [0, 1, 5]
 have H := H.lt_ [] [] [] [0]
 refine loopC (fun (s : Int × Int) (a : Act) (w : World) => match s with | (k2, i) => Fr a 49 [(0, (.slice A a'.length c)), (1, (.int .i64 k2)), (5, (.int .i64 i))] ∧ Mem ⟨w0, []⟩ S [] [] [] [(false, MP.val [(.slice A a'.length c)] (a' : List Fiber))] w) (fun k (s : Int × Int) => laws_heldFiberS_L1 fu a' k s.1 s.2 = some out') (fun s => out' = Out.next s) (k', 0) fu hB1 ⟨hf, H⟩ (fun s h => by cases h) ?_ ?_
 ·rintro fk ⟨k2, i⟩ a w hR1 hI
  replace hR1 : laws_heldFiberS_L1 fu a' (fk + 1) k2 i = some out' := hR1
  rw [laws_heldFiberS_L1] at hR1
  obtain ⟨hf, H⟩ := hI
  refine sq (sqz (pz 4 hf fun a hf => ?_))
  refine wl_end (then_n (ib hR1 hf (fun hc hR1 => ?_) fun hc hR1 => ?_))
  ·refine wp_skip (then_n (sq (wp_block (sq (sqz (pz 2 hf fun a hf => ?_))))))
   obtain ⟨e, he, hR1⟩ := bind_some hR1
   refine wl0 rfl (op_iaddr hf H Tryz.underlying40 TF.sz164 0 rfl rfl rfl he (by decide) fun p o cs a hf hr H => ?_)
   obtain rfl := Fiber_cells hr
   refine pz 1 hf fun a hf => ?_
   refine oq hf (rq_loadI hf H TF.ls3 0 0 rfl rfl rfl) fun a hf => ?_
   refine pz 2 hf fun a hf => ?_
   refine wl_end (then_n (ib hR1 hf (fun hc2 hR1 => ?_) fun hc2 hR1 => ?_))
   ·refine sqz (pz 1 hf fun a hf => ?_)
    have hf := hf.pn [4]
    refine wl_end (then_n (wp_ret (then_r (blk_r (then_r (then_r (blk_r (then_r (then_r (?_))))))))))
    obtain rfl := Option.some.inj hR1
    replace hF := on_ret hF
    obtain rfl := Option.some.inj hF
    refine ret_1 hf rfl (rv_tmp hf rfl) ?_
    exact ⟨_, rfl, H.bel, mk_int⟩
   ·refine wp_skip (then_n (sqz (pz 3 hf fun a hf => ?_)))
    have hf := hf.pn [0, 1, 5]
    refine wl_end (then_n (sq (sqz (pz 2 hf fun a hf => ?_))))
    obtain ⟨e2, he2, hR1⟩ := bind_some hR1
    refine wl0 rfl (op_iaddr hf H Tryz.underlying40 TF.sz164 1 rfl rfl rfl he2 (by decide) fun p2 o2 cs2 a hf hr2 H => ?_)
    obtain rfl := Fiber_cells hr2
    refine pz 1 hf fun a hf => ?_
    refine oq hf (rq_loadI hf H TF.ls3 0 1 rfl rfl rfl) fun a hf => ?_
    refine pz 2 hf fun a hf => ?_
    refine wl_end (then_n (ib hR1 hf (fun hc3 hR1 => ?_) fun hc3 hR1 => ?_))
    ·refine sqz (pz 1 hf fun a hf => ?_)
     refine wl_end (then_n (wp_ret (then_r (blk_r (then_r (then_r (blk_r (then_r (then_r (?_))))))))))
     obtain rfl := Option.some.inj hR1
     replace hF := on_ret hF
     obtain rfl := Option.some.inj hF
     refine ret_1 hf rfl (rv_tmp hf rfl) ?_
     exact ⟨_, rfl, H.bel, mk_int⟩
    ·refine wp_skip (then_n (sqz (pz 3 hf fun a hf => ?_)))
     refine wl_end (then_n (sq (sqz (pz 2 hf fun a hf => ?_))))
     obtain ⟨e3, he3, hR1⟩ := bind_some hR1
     refine wl0 rfl (op_iaddr hf H Tryz.underlying40 TF.sz164 2 rfl rfl rfl he3 (by decide) fun p3 o3 cs3 a hf hr3 H => ?_)
     obtain rfl := Fiber_cells hr3
     refine pz 1 hf fun a hf => ?_
     refine oq hf (rq_loadI hf H TF.ls3 0 2 rfl rfl rfl) fun a hf => ?_
     refine pz 2 hf fun a hf => ?_
     have hf := hf.pn [0, 1, 5, 36]
     refine wl_end (then_n (ib hR1 hf (fun hc4 hR1 => ?_) fun hc4 hR1 => ?_))
     ·refine sqz (pz 1 hf fun a hf => ?_)
      refine wl_end (then_n (wp_ret (then_r (blk_r (then_r (then_r (blk_r (then_r (then_r (?_))))))))))
      obtain rfl := Option.some.inj hR1
      replace hF := on_ret hF
      obtain rfl := Option.some.inj hF
      refine ret_1 hf rfl (rv_tmp hf rfl) ?_
      exact ⟨_, rfl, H.bel, mk_int⟩
     ·refine wp_skip (then_n (sqz (pz 3 hf fun a hf => ?_)))
      refine wl_end (then_n (sq (sqz (pz 2 hf fun a hf => ?_))))
      obtain ⟨e4, he4, hR1⟩ := bind_some hR1
      refine wl0 rfl (op_iaddr hf H Tryz.underlying40 TF.sz164 3 rfl rfl rfl he4 (by decide) fun p4 o4 cs4 a hf hr4 H => ?_)
      obtain rfl := Fiber_cells hr4
      refine pz 1 hf fun a hf => ?_
      refine oq hf (rq_loadI hf H TF.ls3 0 3 rfl rfl rfl) fun a hf => ?_
      refine pz 2 hf fun a hf => ?_
      refine wl_end (then_n (ib hR1 hf (fun hc5 hR1 => ?_) fun hc5 hR1 => ?_))
      ·refine sqz (pz 1 hf fun a hf => ?_)
       have hf := hf.pn [4]
       refine wl_end (then_n (wp_ret (then_r (blk_r (then_r (then_r (blk_r (then_r (then_r (?_))))))))))
       obtain rfl := Option.some.inj hR1
       replace hF := on_ret hF
       obtain rfl := Option.some.inj hF
       refine ret_1 hf rfl (rv_tmp hf rfl) ?_
       exact ⟨_, rfl, H.bel, mk_int⟩
      ·refine wp_skip (then_n (reg (pz 3 hf fun a hf => ?_)))
       refine wl_end (blk_n (then_n (reg (pz 3 hf fun a hf => ?_))))
       have hf := hf.pn [0, 1, 5]
       refine wl_end ?_
       have hf := hf.pn [0, 1, 5]
       have H := H.lt_ [] [] [] [4]
       exact then_n ⟨(w64 ((w64 ((w64 ((w64 (k2 + 1)) + 1)) + 1)) + 1), w64 (i + 1)), hR1, hf, H⟩
  ·refine wp_exit (then_x (then_x (blk_e (?_))))
   have hf := hf.pn [0, 1, 5]
   have H := H.lt_ [] [] [] [0]
   exact ⟨(k2, i), (Option.some.inj hR1).symm, hf, H⟩
 rintro a w ⟨⟨k3, i2⟩, rfl, hf, H⟩
 replace hF := on_next hF
 try dsimp only at hF
 refine then_n (sqz (pz 2 hf fun a hf => ?_))
 refine wl_end (then_n (wp_ret (?_)))
 obtain rfl := Option.some.inj hF
 refine ret_1 hf rfl (rv_tmp hf rfl) ?_
 exact ⟨_, rfl, H.bel, mk_int⟩

theorem laws_heldNetwork_ok {S : Nat → Prop} {v0_ : Value} {v1_ : Value} {a' : Network} {k' : Int} {r : Int} (h0 : VR w0 S v0_ a') (h1 : VR w0 S v1_ k') (hF : laws_heldNetwork fu a' k' = some r) :
    Calls Tryz.prog 75 [v0_, v1_].toArray w0 fun e w' => ∃ v, e = .returned v ∧ (Below w0.heap.size w0 w' ∧ VR w' (St ⟨w0, []⟩ S [] [] [] true) v r) := by
 obtain ⟨A, c, A2, c2, rfl, hl, hl2⟩ := Network_open h0
 obtain rfl := VR_int h1
 have H := Mem.start ⟨w0, []⟩ S
 have H := H.pushArg (MP.val [(.slice A a'.Nodes.length c)] a'.Nodes) hl
 have H := H.pushArg (MP.val [(.slice A2 a'.Fibers.length c2)] a'.Fibers) hl2
 refine en Tryz.func75 fun a hf => ?_
 rw [laws_heldNetwork] at hF
 refine sq (reg (wl0 rfl (op_box hf H rfl rfl (by decide) fun b' a w hf H => ?_)))
 refine pz 1 hf fun a hf => ?_
 refine wr (pz 1 hf fun a hf => ?_)
 refine oq hf (rq_loadB hf H TF.ls22 0 rfl rfl rfl) fun a hf => ?_
 refine pz 1 hf fun a hf => ?_
 obtain ⟨y, hy, hF⟩ := bind_some hF
 refine oc hf TF.cl137 (laws_heldStringS_ok (S := TT) (mk_list (H.rt 1 rfl)) mk_int hy) fun v w a hp hf => ?_
 obtain ⟨hb, hp⟩ := hp
 obtain rfl := VR_int hp
 have H := H.keep hb
 refine pz 1 hf fun a hf => ?_
 refine wl_end (then_n (sq (sqz (pz 2 hf fun a hf => ?_))))
 refine wl_end (then_n (ib hF hf (fun hc hF => ?_) fun hc hF => ?_))
 ·refine sqz (pz 1 hf fun a hf => ?_)
  refine wl_end (then_n (wp_ret (then_r (?_))))
  obtain rfl := Option.some.inj hF
  refine ret_1 hf rfl (rv_tmp hf rfl) ?_
  exact ⟨_, rfl, H.bel, mk_int⟩
 ·refine wp_skip (then_n (sqz (pz 1 hf fun a hf => ?_)))
  refine oq hf (rq_loadB hf H TF.ls40 0 rfl rfl rfl) fun a hf => ?_
  refine pz 1 hf fun a hf => ?_
  obtain ⟨y2, hy2, hF⟩ := bind_some hF
  refine oc hf TF.cl138 (laws_heldFiberS_ok (S := TT) (mk_list (H.rt 0 rfl)) mk_int hy2) fun v2 w a hp2 hf => ?_
  obtain ⟨hb2, hp2⟩ := hp2
  obtain rfl := VR_int hp2
  have H := H.keep hb2
  refine pz 1 hf fun a hf => ?_
  have hf := hf.pn [1]
  refine wl_end (then_n (sq (sqz (pz 2 hf fun a hf => ?_))))
  refine wl_end (then_n (ib hF hf (fun hc2 hF => ?_) fun hc2 hF => ?_))
  ·refine sqz (pz 1 hf fun a hf => ?_)
   refine wl_end (then_n (wp_ret (then_r (?_))))
   obtain rfl := Option.some.inj hF
   refine ret_1 hf rfl (rv_tmp hf rfl) ?_
   exact ⟨_, rfl, H.bel, mk_int⟩
  ·refine wp_skip (then_n (sqz (pz 2 hf fun a hf => ?_)))
   refine wl_end (then_n (wp_ret (?_)))
   obtain rfl := Option.some.inj hF
   refine ret_1 hf rfl (rv_tmp hf rfl) ?_
   exact ⟨_, rfl, H.bel, mk_int⟩

theorem laws_heldIntS_ok {S : Nat → Prop} {v0_ : Value} {v1_ : Value} {a' : List Int} {k' : Int} {r : Int} (h0 : VR w0 S v0_ a') (h1 : VR w0 S v1_ k') (hF : laws_heldIntS fu a' k' = some r) :
    Calls Tryz.prog 139 [v0_, v1_].toArray w0 fun e w' => ∃ v, e = .returned v ∧ (Below w0.heap.size w0 w' ∧ VR w' (St ⟨w0, []⟩ S [] [] [] true) v r) := by
 obtain ⟨A, c, rfl, hl⟩ := VR_list h0
 obtain rfl := VR_int h1
 have H := Mem.start ⟨w0, []⟩ S
 have H := H.pushArg (MP.val [(.slice A a'.length c)] a') hl
 refine en Tryz.func139 fun a hf => ?_
 rw [laws_heldIntS] at hF
 refine sqz (pz 1 hf fun a hf => ?_)
 refine wl_end (then_n (sq (sqz (pz 1 hf fun a hf => ?_))))
 refine wl_end (then_n ?_)
 obtain ⟨out', hB1, hF⟩ := bind_some hF
 have hf := hf.pn [0, 1, 5]
 have H := H.lt_ [] [] [] [0]
 refine loopC (fun (s : Int × Int) (a : Act) (w : World) => match s with | (k2, i) => Fr a 21 [(0, (.slice A a'.length c)), (1, (.int .i64 k2)), (5, (.int .i64 i))] ∧ Mem ⟨w0, []⟩ S [] [] [] [(false, MP.val [(.slice A a'.length c)] (a' : List Int))] w) (fun k (s : Int × Int) => laws_heldIntS_L1 fu a' k s.1 s.2 = some out') (fun s => out' = Out.next s) (k', 0) fu hB1 ⟨hf, H⟩ (fun s h => by cases h) ?_ ?_
 ·rintro fk ⟨k2, i⟩ a w hR1 hI
  replace hR1 : laws_heldIntS_L1 fu a' (fk + 1) k2 i = some out' := hR1
  rw [laws_heldIntS_L1] at hR1
  obtain ⟨hf, H⟩ := hI
  refine sq (sqz (pz 4 hf fun a hf => ?_))
  refine wl_end (then_n (ib hR1 hf (fun hc hR1 => ?_) fun hc hR1 => ?_))
  ·refine wp_skip (then_n (sq (wp_block (sq (sqz (pz 2 hf fun a hf => ?_))))))
   obtain ⟨e, he, hR1⟩ := bind_some hR1
   refine wl0 rfl (op_iaddr hf H Tryz.underlying29 TF.sz3 0 rfl rfl rfl he (by decide) fun p o cs a hf hr H => ?_)
   obtain rfl := hr
   refine oq hf (rq_loadI hf H TF.ls3 0 0 rfl rfl rfl) fun a hf => ?_
   refine pz 2 hf fun a hf => ?_
   refine wl_end (then_n (ib hR1 hf (fun hc2 hR1 => ?_) fun hc2 hR1 => ?_))
   ·refine sqz (pz 1 hf fun a hf => ?_)
    have hf := hf.pn [4]
    refine wl_end (then_n (wp_ret (then_r (blk_r (then_r (then_r (blk_r (then_r (then_r (?_))))))))))
    obtain rfl := Option.some.inj hR1
    replace hF := on_ret hF
    obtain rfl := Option.some.inj hF
    refine ret_1 hf rfl (rv_tmp hf rfl) ?_
    exact ⟨_, rfl, H.bel, mk_int⟩
   ·refine wp_skip (then_n (reg (pz 3 hf fun a hf => ?_)))
    refine wl_end (blk_n (then_n (reg (pz 3 hf fun a hf => ?_))))
    have hf := hf.pn [0, 1, 5]
    refine wl_end ?_
    have hf := hf.pn [0, 1, 5]
    have H := H.lt_ [] [] [] [1]
    exact then_n ⟨(w64 (k2 + 1), w64 (i + 1)), hR1, hf, H⟩
  ·refine wp_exit (then_x (then_x (blk_e (?_))))
   have hf := hf.pn [0, 1, 5]
   have H := H.lt_ [] [] [] [0]
   exact ⟨(k2, i), (Option.some.inj hR1).symm, hf, H⟩
 rintro a w ⟨⟨k3, i2⟩, rfl, hf, H⟩
 replace hF := on_next hF
 try dsimp only at hF
 refine then_n (sqz (pz 2 hf fun a hf => ?_))
 refine wl_end (then_n (wp_ret (?_)))
 obtain rfl := Option.some.inj hF
 refine ret_1 hf rfl (rv_tmp hf rfl) ?_
 exact ⟨_, rfl, H.bel, mk_int⟩

theorem laws_heldLightS_ok {S : Nat → Prop} {v0_ : Value} {v1_ : Value} {a' : List Light} {k' : Int} {r : Int} (h0 : VR w0 S v0_ a') (h1 : VR w0 S v1_ k') (hF : laws_heldLightS fu a' k' = some r) :
    Calls Tryz.prog 76 [v0_, v1_].toArray w0 fun e w' => ∃ v, e = .returned v ∧ (Below w0.heap.size w0 w' ∧ VR w' (St ⟨w0, []⟩ S [] [] [] true) v r) := by
 obtain ⟨A, c, rfl, hl⟩ := VR_list h0
 obtain rfl := VR_int h1
 have H := Mem.start ⟨w0, []⟩ S
 have H := H.pushArg (MP.val [(.slice A a'.length c)] a') hl
 refine en Tryz.func76 fun a hf => ?_
 rw [laws_heldLightS] at hF
 refine sqz (pz 1 hf fun a hf => ?_)
 refine wl_end (then_n (sq (sqz (pz 1 hf fun a hf => ?_))))
 refine wl_end (then_n ?_)
 obtain ⟨out', hB1, hF⟩ := bind_some hF
 have hf := hf.pn [0, 1, 5]
 have H := H.lt_ [] [] [] [0]
 refine loopC (fun (s : Int × Int) (a : Act) (w : World) => match s with | (k2, i) => Fr a 62 [(0, (.slice A a'.length c)), (1, (.int .i64 k2)), (5, (.int .i64 i))] ∧ Mem ⟨w0, []⟩ S [] [] [] [(false, MP.val [(.slice A a'.length c)] (a' : List Light))] w) (fun k (s : Int × Int) => laws_heldLightS_L1 fu a' k s.1 s.2 = some out') (fun s => out' = Out.next s) (k', 0) fu hB1 ⟨hf, H⟩ (fun s h => by cases h) ?_ ?_
 ·rintro fk ⟨k2, i⟩ a w hR1 hI
  replace hR1 : laws_heldLightS_L1 fu a' (fk + 1) k2 i = some out' := hR1
  rw [laws_heldLightS_L1] at hR1
  obtain ⟨hf, H⟩ := hI
  refine sq (sqz (pz 4 hf fun a hf => ?_))
  refine wl_end (then_n (ib hR1 hf (fun hc hR1 => ?_) fun hc hR1 => ?_))
  ·refine wp_skip (then_n (sq (wp_block (sq (sqz (pz 2 hf fun a hf => ?_))))))
   obtain ⟨e, he, hR1⟩ := bind_some hR1
   refine wl0 rfl (op_iaddr hf H Tryz.underlying43 TF.sz52 0 rfl rfl rfl he (by decide) fun p o cs a hf hr H => ?_)
   obtain ⟨A2, c2, rfl, hl2⟩ := Light_cells hr
   have H := H.push (false, MP.val [(.slice A2 e.Route.Fibers.length c2)] e.Route.Fibers) hl2
   refine pz 1 hf fun a hf => ?_
   refine oq hf (rq_loadI hf H TF.ls3 1 0 rfl rfl rfl) fun a hf => ?_
   refine pz 2 hf fun a hf => ?_
   refine wl_end (then_n (ib hR1 hf (fun hc2 hR1 => ?_) fun hc2 hR1 => ?_))
   ·refine sqz (pz 1 hf fun a hf => ?_)
    have hf := hf.pn [4]
    refine wl_end (then_n (wp_ret (then_r (blk_r (then_r (then_r (blk_r (then_r (then_r (?_))))))))))
    obtain rfl := Option.some.inj hR1
    replace hF := on_ret hF
    obtain rfl := Option.some.inj hF
    refine ret_1 hf rfl (rv_tmp hf rfl) ?_
    exact ⟨_, rfl, H.bel, mk_int⟩
   ·refine wp_skip (then_n (sqz (pz 3 hf fun a hf => ?_)))
    have hf := hf.pn [0, 1, 5]
    refine wl_end (then_n (sq (sqz (pz 2 hf fun a hf => ?_))))
    obtain ⟨e2, he2, hR1⟩ := bind_some hR1
    refine wl0 rfl (op_iaddr hf H Tryz.underlying43 TF.sz52 2 rfl rfl rfl he2 (by decide) fun p2 o2 cs2 a hf hr2 H => ?_)
    obtain ⟨A3, c3, rfl, hl3⟩ := Light_cells hr2
    have H := H.push (false, MP.val [(.slice A3 e2.Route.Fibers.length c3)] e2.Route.Fibers) hl3
    refine pz 2 hf fun a hf => ?_
    refine oq hf (rq_loadI hf H TF.ls3 1 1 rfl rfl rfl) fun a hf => ?_
    refine pz 2 hf fun a hf => ?_
    refine wl_end (then_n (ib hR1 hf (fun hc3 hR1 => ?_) fun hc3 hR1 => ?_))
    ·refine sqz (pz 1 hf fun a hf => ?_)
     refine wl_end (then_n (wp_ret (then_r (blk_r (then_r (then_r (blk_r (then_r (then_r (?_))))))))))
     obtain rfl := Option.some.inj hR1
     replace hF := on_ret hF
     obtain rfl := Option.some.inj hF
     refine ret_1 hf rfl (rv_tmp hf rfl) ?_
     exact ⟨_, rfl, H.bel, mk_int⟩
    ·refine wp_skip (then_n (sqz (pz 3 hf fun a hf => ?_)))
     refine wr (pz 2 hf fun a hf => ?_)
     obtain ⟨e3, he3, hR1⟩ := bind_some hR1
     refine wl0 rfl (op_iaddr hf H Tryz.underlying43 TF.sz52 4 rfl rfl rfl he3 (by decide) fun p3 o3 cs3 a hf hr3 H => ?_)
     obtain ⟨A4, c4, rfl, hl4⟩ := Light_cells hr3
     have H := H.push (false, MP.val [(.slice A4 e3.Route.Fibers.length c4)] e3.Route.Fibers) hl4
     refine pz 2 hf fun a hf => ?_
     refine oq hf (rq_loadI hf H TF.ls29 1 2 rfl rfl rfl) fun a hf => ?_
     refine pz 1 hf fun a hf => ?_
     obtain ⟨y, hy, hR1⟩ := bind_some hR1
     refine oc hf TF.cl139 (laws_heldIntS_ok (S := TT) (mk_list (H.rt 0 rfl)) mk_int hy) fun v w a hp hf => ?_
     obtain ⟨hb, hp⟩ := hp
     obtain rfl := VR_int hp
     have H := H.keep hb
     refine pz 1 hf fun a hf => ?_
     have hf := hf.pn [0, 1, 5]
     refine wl_end (then_n (sq (sqz (pz 2 hf fun a hf => ?_))))
     refine wl_end (then_n (ib hR1 hf (fun hc4 hR1 => ?_) fun hc4 hR1 => ?_))
     ·refine sqz (pz 1 hf fun a hf => ?_)
      refine wl_end (then_n (wp_ret (then_r (blk_r (then_r (then_r (blk_r (then_r (then_r (?_))))))))))
      obtain rfl := Option.some.inj hR1
      replace hF := on_ret hF
      obtain rfl := Option.some.inj hF
      refine ret_1 hf rfl (rv_tmp hf rfl) ?_
      exact ⟨_, rfl, H.bel, mk_int⟩
     ·refine wp_skip (then_n (sq (sqz (pz 2 hf fun a hf => ?_))))
      obtain ⟨e4, he4, hR1⟩ := bind_some hR1
      refine wl0 rfl (op_iaddr hf H Tryz.underlying43 TF.sz52 6 rfl rfl rfl he4 (by decide) fun p4 o4 cs4 a hf hr4 H => ?_)
      obtain ⟨A5, c5, rfl, hl5⟩ := Light_cells hr4
      have H := H.push (false, MP.val [(.slice A5 e4.Route.Fibers.length c5)] e4.Route.Fibers) hl5
      refine pz 2 hf fun a hf => ?_
      refine oq hf (rq_loadI hf H TF.ls3 1 3 rfl rfl rfl) fun a hf => ?_
      refine pz 2 hf fun a hf => ?_
      refine wl_end (then_n (ib hR1 hf (fun hc5 hR1 => ?_) fun hc5 hR1 => ?_))
      ·refine sqz (pz 1 hf fun a hf => ?_)
       have hf := hf.pn [4]
       refine wl_end (then_n (wp_ret (then_r (blk_r (then_r (then_r (blk_r (then_r (then_r (?_))))))))))
       obtain rfl := Option.some.inj hR1
       replace hF := on_ret hF
       obtain rfl := Option.some.inj hF
       refine ret_1 hf rfl (rv_tmp hf rfl) ?_
       exact ⟨_, rfl, H.bel, mk_int⟩
      ·refine wp_skip (then_n (sqz (pz 3 hf fun a hf => ?_)))
       refine wl_end (then_n (sq (sqz (pz 2 hf fun a hf => ?_))))
       obtain ⟨e5, he5, hR1⟩ := bind_some hR1
       refine wl0 rfl (op_iaddr hf H Tryz.underlying43 TF.sz52 8 rfl rfl rfl he5 (by decide) fun p5 o5 cs5 a hf hr5 H => ?_)
       obtain ⟨A6, c6, rfl, hl6⟩ := Light_cells hr5
       have H := H.push (false, MP.val [(.slice A6 e5.Route.Fibers.length c6)] e5.Route.Fibers) hl6
       refine pz 2 hf fun a hf => ?_
       refine oq hf (rq_loadI hf H TF.ls3 1 4 rfl rfl rfl) fun a hf => ?_
       refine pz 2 hf fun a hf => ?_
       have hf := hf.pn [0, 1, 5, 58]
       refine wl_end (then_n (ib hR1 hf (fun hc6 hR1 => ?_) fun hc6 hR1 => ?_))
       ·refine sqz (pz 1 hf fun a hf => ?_)
        refine wl_end (then_n (wp_ret (then_r (blk_r (then_r (then_r (blk_r (then_r (then_r (?_))))))))))
        obtain rfl := Option.some.inj hR1
        replace hF := on_ret hF
        obtain rfl := Option.some.inj hF
        refine ret_1 hf rfl (rv_tmp hf rfl) ?_
        exact ⟨_, rfl, H.bel, mk_int⟩
       ·refine wp_skip (then_n (reg (pz 3 hf fun a hf => ?_)))
        refine wl_end (blk_n (then_n (reg (pz 3 hf fun a hf => ?_))))
        refine wl_end ?_
        have hf := hf.pn [0, 1, 5]
        have H := H.lt_ [] [] [] [10]
        exact then_n ⟨(w64 ((w64 (y + 1)) + 1), w64 (i + 1)), hR1, hf, H⟩
  ·refine wp_exit (then_x (then_x (blk_e (?_))))
   have hf := hf.pn [0, 1, 5]
   have H := H.lt_ [] [] [] [0]
   exact ⟨(k2, i), (Option.some.inj hR1).symm, hf, H⟩
 rintro a w ⟨⟨k3, i2⟩, rfl, hf, H⟩
 replace hF := on_next hF
 try dsimp only at hF
 refine then_n (sqz (pz 2 hf fun a hf => ?_))
 refine wl_end (then_n (wp_ret (?_)))
 obtain rfl := Option.some.inj hF
 refine ret_1 hf rfl (rv_tmp hf rfl) ?_
 exact ⟨_, rfl, H.bel, mk_int⟩

theorem laws_heldPlan_ok {S : Nat → Prop} {v0_ : Value} {v1_ : Value} {a' : Plan} {k' : Int} {r : Int} (h0 : VR w0 S v0_ a') (h1 : VR w0 S v1_ k') (hF : laws_heldPlan fu a' k' = some r) :
    Calls Tryz.prog 21 [v0_, v1_].toArray w0 fun e w' => ∃ v, e = .returned v ∧ (Below w0.heap.size w0 w' ∧ VR w' (St ⟨w0, []⟩ S [] [] [] true) v r) := by
 obtain ⟨A, c, A2, c2, A3, c3, rfl, hl, hl2, hl3⟩ := Plan_open h0
 obtain rfl := VR_int h1
 have H := Mem.start ⟨w0, []⟩ S
 have H := H.pushArg (MP.val [(.slice A a'.Network.Nodes.length c)] a'.Network.Nodes) hl
 have H := H.pushArg (MP.val [(.slice A2 a'.Network.Fibers.length c2)] a'.Network.Fibers) hl2
 have H := H.pushArg (MP.val [(.slice A3 a'.Lights.length c3)] a'.Lights) hl3
 refine en Tryz.func21 fun a hf => ?_
 rw [laws_heldPlan] at hF
 refine sq (reg (wl0 rfl (op_box hf H rfl rfl (by decide) fun b' a w hf H => ?_)))
 refine pz 1 hf fun a hf => ?_
 refine wr (pz 1 hf fun a hf => ?_)
 refine oq hf (rq_loadBN hf H TF.la42 0 rfl rfl rfl rfl) fun a hf => ?_
 refine pz 1 hf fun a hf => ?_
 obtain ⟨y, hy, hF⟩ := bind_some hF
 refine oc hf TF.cl75 (laws_heldNetwork_ok (S := TT) (Network_mkv (x := a'.Network) (H.rt 2 rfl) (H.rt 1 rfl)) mk_int hy) fun v w a hp hf => ?_
 obtain ⟨hb, hp⟩ := hp
 obtain rfl := VR_int hp
 have H := H.keep hb
 refine pz 1 hf fun a hf => ?_
 refine wl_end (then_n (sq (sqz (pz 2 hf fun a hf => ?_))))
 refine wl_end (then_n (ib hF hf (fun hc hF => ?_) fun hc hF => ?_))
 ·refine sqz (pz 1 hf fun a hf => ?_)
  refine wl_end (then_n (wp_ret (then_r (?_))))
  obtain rfl := Option.some.inj hF
  refine ret_1 hf rfl (rv_tmp hf rfl) ?_
  exact ⟨_, rfl, H.bel, mk_int⟩
 ·refine wp_skip (then_n (sqz (pz 1 hf fun a hf => ?_)))
  refine oq hf (rq_loadB hf H TF.ls43 0 rfl rfl rfl) fun a hf => ?_
  refine pz 1 hf fun a hf => ?_
  obtain ⟨y2, hy2, hF⟩ := bind_some hF
  refine oc hf TF.cl76 (laws_heldLightS_ok (S := TT) (mk_list (H.rt 0 rfl)) mk_int hy2) fun v2 w a hp2 hf => ?_
  obtain ⟨hb2, hp2⟩ := hp2
  obtain rfl := VR_int hp2
  have H := H.keep hb2
  refine pz 1 hf fun a hf => ?_
  have hf := hf.pn [1]
  refine wl_end (then_n (sq (sqz (pz 2 hf fun a hf => ?_))))
  refine wl_end (then_n (ib hF hf (fun hc2 hF => ?_) fun hc2 hF => ?_))
  ·refine sqz (pz 1 hf fun a hf => ?_)
   refine wl_end (then_n (wp_ret (then_r (?_))))
   obtain rfl := Option.some.inj hF
   refine ret_1 hf rfl (rv_tmp hf rfl) ?_
   exact ⟨_, rfl, H.bel, mk_int⟩
  ·refine wp_skip (then_n (sqz (pz 2 hf fun a hf => ?_)))
   refine wl_end (then_n (wp_ret (?_)))
   obtain rfl := Option.some.inj hF
   refine ret_1 hf rfl (rv_tmp hf rfl) ?_
   exact ⟨_, rfl, H.bel, mk_int⟩

theorem laws_szActionS_ok {S : Nat → Prop} {v0_ : Value} {v1_ : Value} {a' : List Action} {left : Int} {r : Int} (h0 : VR w0 S v0_ a') (h1 : VR w0 S v1_ left) (hF : laws_szActionS fu a' left = some r) :
    Calls Tryz.prog 25 [v0_, v1_].toArray w0 fun e w' => ∃ v, e = .returned v ∧ (Below w0.heap.size w0 w' ∧ VR w' (St ⟨w0, []⟩ S [] [] [] true) v r) := by
 obtain ⟨A, c, rfl, hl⟩ := VR_list h0
 obtain rfl := VR_int h1
 have H := Mem.start ⟨w0, []⟩ S
 have H := H.pushArg (MP.val [(.slice A a'.length c)] a') hl
 refine en Tryz.func25 fun a hf => ?_
 rw [laws_szActionS] at hF
 refine sqz (pz 1 hf fun a hf => ?_)
 refine wr (pz 5 hf fun a hf => ?_)
 refine wl_end (then_n (sq (sqz (pz 2 hf fun a hf => ?_))))
 refine wl_end (then_n (ib hF hf (fun hc hF => ?_) fun hc hF => ?_))
 ·refine sqz (pz 1 hf fun a hf => ?_)
  refine wl_end (then_n (wp_ret (then_r (?_))))
  obtain rfl := Option.some.inj hF
  refine ret_1 hf rfl (rv_tmp hf rfl) ?_
  exact ⟨_, rfl, H.bel, mk_int⟩
 ·refine wp_skip (then_n (sq (sqz (pz 1 hf fun a hf => ?_))))
  refine wl_end (then_n ?_)
  obtain ⟨out', hB1, hF⟩ := bind_some hF
  have hf := hf.pn [0, 1, 5]
  have H := H.lt_ [] [] [] [0]
  refine loopC (fun (s : Int × Int) (a : Act) (w : World) => match s with | (left2, i) => Fr a 27 [(0, (.slice A a'.length c)), (1, (.int .i64 left2)), (5, (.int .i64 i))] ∧ Mem ⟨w0, []⟩ S [] [] [] [(false, MP.val [(.slice A a'.length c)] (a' : List Action))] w) (fun k (s : Int × Int) => laws_szActionS_L1 fu a' k s.1 s.2 = some out') (fun s => out' = Out.next s) (w64 (left - (a'.length : Int)), 0) fu hB1 ⟨hf, H⟩ (fun s h => by cases h) ?_ ?_
  ·rintro fk ⟨left2, i⟩ a w hR1 hI
   replace hR1 : laws_szActionS_L1 fu a' (fk + 1) left2 i = some out' := hR1
   rw [laws_szActionS_L1] at hR1
   obtain ⟨hf, H⟩ := hI
   refine sq (sqz (pz 4 hf fun a hf => ?_))
   refine wl_end (then_n (ib hR1 hf (fun hc2 hR1 => ?_) fun hc2 hR1 => ?_))
   ·refine wp_skip (then_n (sq (wp_block (sqz (pz 2 hf fun a hf => ?_)))))
    obtain ⟨e, he, hR1⟩ := bind_some hR1
    refine wl0 rfl (op_iaddr hf H Tryz.underlying63 TF.sz37 0 rfl rfl rfl he (by decide) fun p o cs a hf hr H => ?_)
    obtain ⟨A2, c2, rfl, hl2⟩ := Action_cells hr
    have H := H.push (false, MP.val [(.slice A2 e.Light.Route.Fibers.length c2)] e.Light.Route.Fibers) hl2
    refine oq hf (rq_loadIN hf H TF.la37 1 0 rfl rfl rfl rfl) fun a hf => ?_
    refine pz 1 hf fun a hf => ?_
    obtain ⟨y, hy, hR1⟩ := bind_some hR1
    refine oc hf TF.cl12 (laws_szAction_ok (S := TT) (Action_mkv (x := e) (H.rt 0 rfl)) mk_int hy) fun v w a hp hf => ?_
    obtain ⟨hb, hp⟩ := hp
    obtain rfl := VR_int hp
    have H := H.keep hb
    refine pz 1 hf fun a hf => ?_
    refine wr (pz 2 hf fun a hf => ?_)
    refine wl_end (then_n (ib hR1 hf (fun hc3 hR1 => ?_) fun hc3 hR1 => ?_))
    ·refine sqz (pz 1 hf fun a hf => ?_)
     have hf := hf.pn [4]
     refine wl_end (then_n (wp_ret (blk_r (then_r (then_r (blk_r (then_r (then_r (?_)))))))))
     obtain rfl := Option.some.inj hR1
     replace hF := on_ret hF
     obtain rfl := Option.some.inj hF
     refine ret_1 hf rfl (rv_tmp hf rfl) ?_
     exact ⟨_, rfl, H.bel, mk_int⟩
    ·refine wp_skip (blk_n (then_n (reg (pz 3 hf fun a hf => ?_))))
     have hf := hf.pn [0, 1, 5]
     refine wl_end ?_
     have hf := hf.pn [0, 1, 5]
     have H := H.lt_ [] [] [] [2]
     exact then_n ⟨(y, w64 (i + 1)), hR1, hf, H⟩
   ·refine wp_exit (then_x (then_x (blk_e (?_))))
    have hf := hf.pn [0, 1, 5]
    have H := H.lt_ [] [] [] [0]
    exact ⟨(left2, i), (Option.some.inj hR1).symm, hf, H⟩
  rintro a w ⟨⟨left3, i2⟩, rfl, hf, H⟩
  replace hF := on_next hF
  try dsimp only at hF
  refine then_n (sqz (pz 2 hf fun a hf => ?_))
  refine wl_end (then_n (wp_ret (?_)))
  obtain rfl := Option.some.inj hF
  refine ret_1 hf rfl (rv_tmp hf rfl) ?_
  exact ⟨_, rfl, H.bel, mk_int⟩

theorem laws_toActionS_ok {S : Nat → Prop} {v0_ : Value} {a' : List Action} {r : List Action} (h0 : VR w0 S v0_ a') (hF : laws_toActionS fu a' = some r) :
    Calls Tryz.prog 27 [v0_].toArray w0 fun e w' => ∃ v, e = .returned v ∧ (Below w0.heap.size w0 w' ∧ ∃ F0, VO w' F0 v r ∧ New w0 w' F0) := by
 obtain ⟨A, c, rfl, hl⟩ := VR_list h0
 have H := Mem.start ⟨w0, []⟩ S
 have H := H.pushArg (MP.val [(.slice A a'.length c)] a') hl
 refine en Tryz.func27 fun a hf => ?_
 rw [laws_toActionS] at hF
 refine sqz (pz 1 hf fun a hf => ?_)
 refine wr (pz 2 hf fun a hf => ?_)
 obtain ⟨l, hl, hF⟩ := bind_some hF
 refine wl0 rfl (op_makeO (z0 := (({ Kind := 0, Light := ({ Id := 0, Route := ({ Start := 0, Fibers := [] } : Route), Block := ({ First := 0, Count := 0 } : Block) } : Light) } : Action) : Action)) hf H Tryz.underlying67 TF.ai54 rfl (by decide) rfl rfl (fun w => Action_ownmk (x := ({ Kind := 0, Light := ({ Id := 0, Route := ({ Start := 0, Fibers := [] } : Route), Block := ({ First := 0, Count := 0 } : Block) } : Light) } : Action)) lown_nil) hl (by decide) fun A2 c2 Fs a w hf H => ?_)
 refine pz 1 hf fun a hf => ?_
 refine wl_end (then_n (sq (sqz (pz 1 hf fun a hf => ?_))))
 refine wl_end (then_n ?_)
 obtain ⟨out2, hB1, hF⟩ := bind_some hF
 have hf := hf.pn [0, 3, 4]
 have H := H.lt_ [] [true] [] [0]
 refine loopC (fun (s : List Action × Int) (a : Act) (w : World) => match s with | (out', i) => ∃ (A3 : Option Addr) (c3 : Nat) (E : Go.TypeId) (Fs2 : List (List Nat)), Fr a 23 [(0, (.slice A a'.length c)), (3, (.slice A3 out'.length c3)), (4, (.int .i64 i))] ∧ Mem ⟨w0, []⟩ S [] [⟨.ow Fs2, E, A3, c3, (out' : List Action)⟩] [] [(false, MP.val [(.slice A a'.length c)] (a' : List Action))] w) (fun k (s : List Action × Int) => laws_toActionS_L1 fu a' k s.1 s.2 = some out2) (fun s => out2 = s) (l, 0) fu hB1 ⟨A2, c2, 54, Fs, hf, H⟩ (fun s h => by cases h) ?_ ?_
 ·rintro fk ⟨out', i⟩ a w hR1 hI
  replace hR1 : laws_toActionS_L1 fu a' (fk + 1) out' i = some out2 := hR1
  rw [laws_toActionS_L1] at hR1
  obtain ⟨A3, c3, E, Fs2, hf, H⟩ := hI
  refine sq (sqz (pz 4 hf fun a hf => ?_))
  refine wl_end (then_n (ib hR1 hf (fun hc hR1 => ?_) fun hc hR1 => ?_))
  ·refine wp_skip (then_n (sq (wp_block (reg (pz 4 hf fun a hf => ?_)))))
   obtain ⟨e, he, hR1⟩ := bind_some hR1
   refine wl0 rfl (op_iaddr hf H Tryz.underlying63 TF.sz37 0 rfl rfl rfl he (by decide) fun p o cs a hf hr H => ?_)
   obtain ⟨A4, c4, rfl, hl2⟩ := Action_cells hr
   have H := H.push (false, MP.val [(.slice A4 e.Light.Route.Fibers.length c4)] e.Light.Route.Fibers) hl2
   refine oq hf (rq_loadIN hf H TF.la37 1 0 rfl rfl rfl rfl) fun a hf => ?_
   obtain ⟨y, hy, hR1⟩ := bind_some hR1
   refine oc hf TF.cl15 (laws_toAction_ok (S := TT) (Action_mkv (x := e) (H.rt 0 rfl)) hy) fun v w a hp hf => ?_
   obtain ⟨hb, F, hp2, hN⟩ := hp
   obtain ⟨A5, c5, F2, rfl, rfl, hl3⟩ := Action_vo hp2
   have H := H.addOwn hb (X := [(⟨F2, MP.own F2 [(.slice A5 y.Light.Route.Fibers.length c5)] (y.Light.Route.Fibers : List Int)⟩ : DI)]) (by simpa using hN.1) (ps1 hl3 ps0) (by simpa using hN.2)
   have H := H.lend 0 rfl
   obtain ⟨e2, he2, hR1⟩ := bind_some hR1
   refine wl0 rfl (op_iaddrR hf H Tryz.underlying67 TF.sz54 0 rfl rfl rfl he2 (by decide) fun p2 o2 cs2 a hf hA hr2 hk => ?_)
   have hrk := hr2
   obtain ⟨A6, c6, rfl, hl4⟩ := Action_cells hr2
   have H := H.push (true, MP.val [(.slice A6 e2.Light.Route.Fibers.length c6)] e2.Light.Route.Fibers) hl4
   have H := H.recast (X := [(⟨F2, MP.own F2 [(.slice A5 y.Light.Route.Fibers.length c5)] (y.Light.Route.Fibers : List Int)⟩ : DI)]) (Y := [(⟨F2, MP.own F2 [(.int .i64 y.Kind), (.int .i64 y.Light.Id), (.int .i64 y.Light.Route.Start), (.slice A5 y.Light.Route.Fibers.length c5), (.int .i64 y.Light.Block.First), (.int .i64 y.Light.Block.Count)] (y : Action)⟩ : DI)]) (List.Perm.of_eq (by simp)) fun _ => ps1 (Action_ownmk (x := y) (H.ownAt 0 rfl)) ps0
   refine wl0 rfl (op_storeO hf H TF.sz54 rfl rfl rfl rfl rfl rfl hA he2 fun w H => ?_)
   replace hf : Fr a 23 [(0, (.slice A a'.length c)), (3, (.slice A3 out'.length c3)), (4, (.int .i64 i)), (14, (.slice A3 out'.length c3)), (15, (.int .i64 i)), (16, (.slice A a'.length c)), (17, (.int .i64 i)), (18, (.pointer (some ⟨p, o + 0, none⟩))), (19, (.agg #[(.int .i64 e.Kind), (.int .i64 e.Light.Id), (.int .i64 e.Light.Route.Start), (.slice A4 e.Light.Route.Fibers.length c4), (.int .i64 e.Light.Block.First), (.int .i64 e.Light.Block.Count)])), (20, (.agg #[(.int .i64 y.Kind), (.int .i64 y.Light.Id), (.int .i64 y.Light.Route.Start), (.slice A5 y.Light.Route.Fibers.length c5), (.int .i64 y.Light.Block.First), (.int .i64 y.Light.Block.Count)])), (21, (.pointer (some ⟨p2, o2 + 0, none⟩)))] := hf.prune [0, 3, 4, 14, 15, 16, 17, 18, 19, 20, 21] rfl
   replace hf : Fr a 23 [(0, (.slice A a'.length c)), (3, (.slice A3 (out'.set (i : Int).toNat y).length c3)), (4, (.int .i64 i)), (14, (.slice A3 (out'.set (i : Int).toNat y).length c3)), (15, (.int .i64 i)), (16, (.slice A a'.length c)), (17, (.int .i64 i)), (18, (.pointer (some ⟨p, o + 0, none⟩))), (19, (.agg #[(.int .i64 e.Kind), (.int .i64 e.Light.Id), (.int .i64 e.Light.Route.Start), (.slice A4 e.Light.Route.Fibers.length c4), (.int .i64 e.Light.Block.First), (.int .i64 e.Light.Block.Count)])), (20, (.agg #[(.int .i64 y.Kind), (.int .i64 y.Light.Id), (.int .i64 y.Light.Route.Start), (.slice A5 y.Light.Route.Fibers.length c5), (.int .i64 y.Light.Block.First), (.int .i64 y.Light.Block.Count)])), (21, (.pointer (some ⟨p2, o2 + 0, none⟩)))] := by simpa only [List.length_set, Nat.add_zero] using hf
   refine wl_end (blk_n (then_n (reg (pz 3 hf fun a hf => ?_))))
   refine wl_end ?_
   have hf := hf.pn [0, 3, 4]
   have H := H.lt_ [] [true] [] [4]
   exact then_n ⟨(out'.set (i : Int).toNat y, w64 (i + 1)), hR1, A3, c3, E, Fs2.set (i : Int).toNat F2, hf, H⟩
  ·refine wp_exit (then_x (then_x (blk_e (?_))))
   have hf := hf.pn [0, 3, 4]
   have H := H.lt_ [] [true] [] [0]
   exact ⟨(out', i), (Option.some.inj hR1).symm, A3, c3, E, Fs2, hf, H⟩
 rintro a w ⟨⟨out3, i2⟩, rfl, A7, c7, E2, Fs3, hf, H⟩
 try dsimp only at hF
 refine then_n (sqz (pz 2 hf fun a hf => ?_))
 refine wl_end (then_n (wp_ret (?_)))
 obtain ⟨F3, H⟩ := H.freezeOwn 0 rfl
 have H := H.lend 0 rfl
 obtain rfl := Option.some.inj hF
 refine ret_1 hf rfl (rv_tmp hf rfl) ?_
 have hN := H.ends (X := [(⟨F3, MP.own F3 [(.slice A7 out3.length c7)] (out3 : List Action)⟩ : DI)])
 simp only [List.flatMap_cons, List.flatMap_nil, List.append_nil, List.append_assoc] at hN
 exact ⟨_, rfl, H.bel, F3, (mko_list (H.ownAt 0 rfl)), by first | exact hN | simpa using hN⟩

theorem spec_l20All_ok {S : Nat → Prop} {v0_ : Value} {v1_ : Value} {p : Plan} {list : List Action} {r : Plan × Int} (h0 : VR w0 S v0_ p) (h1 : VR w0 S v1_ list) (hF : spec_l20All fu p list = some r) :
    Calls Tryz.prog 80 [v0_, v1_].toArray w0 fun e w' => ∃ v, e = .returned v ∧ (Below w0.heap.size w0 w' ∧ ∃ u0 u1, v = .tuple #[u0, u1] ∧ VR w' (St ⟨w0, []⟩ S [] [] [] true) u0 r.1 ∧ VR w' (St ⟨w0, []⟩ S [] [] [] true) u1 r.2) := by
 obtain ⟨A, c, A2, c2, A3, c3, rfl, hl, hl2, hl3⟩ := Plan_open h0
 obtain ⟨A4, c4, rfl, hl4⟩ := VR_list h1
 have H := Mem.start ⟨w0, []⟩ S
 have H := H.pushArg (MP.val [(.slice A p.Network.Nodes.length c)] p.Network.Nodes) hl
 have H := H.pushArg (MP.val [(.slice A2 p.Network.Fibers.length c2)] p.Network.Fibers) hl2
 have H := H.pushArg (MP.val [(.slice A3 p.Lights.length c3)] p.Lights) hl3
 have H := H.pushArg (MP.val [(.slice A4 list.length c4)] list) hl4
 refine en Tryz.func80 fun a hf => ?_
 rw [spec_l20All] at hF
 refine sq (reg (wl0 rfl (op_box hf H rfl rfl (by decide) fun b' a w hf H => ?_)))
 refine wl0 rfl (op_alloc hf H TF.zv45 rfl (by decide) fun b2 a w hf H => ?_)
 refine pz 1 hf fun a hf => ?_
 refine wr (oq hf (rq_loadBN hf H TF.la45 1 rfl rfl rfl rfl) fun a hf => ?_)
 obtain ⟨y, hy, hF⟩ := bind_some hF
 refine oc hf TF.cl81 (spec_l9Own_ok (S := TT) (Plan_mkv (x := p) (H.rt 3 rfl) (H.rt 2 rfl) (H.rt 1 rfl)) hy) fun v w a hp hf => ?_
 obtain ⟨hb, F, hp2, hN⟩ := hp
 obtain ⟨A5, c5, F2, A6, c6, F3, A7, c7, F4, rfl, rfl, hl5, hl6, hl7⟩ := Plan_vo hp2
 have H := H.addOwn hb (X := [(⟨F2, MP.own F2 [(.slice A5 y.Network.Nodes.length c5)] (y.Network.Nodes : List ByteArray)⟩ : DI), (⟨F3, MP.own F3 [(.slice A6 y.Network.Fibers.length c6)] (y.Network.Fibers : List Fiber)⟩ : DI), (⟨F4, MP.own F4 [(.slice A7 y.Lights.length c7)] (y.Lights : List Light)⟩ : DI)]) (by simpa using hN.1) (ps1 hl5 (ps1 hl6 (ps1 hl7 ps0))) (by simpa using hN.2)
 have H := H.lend 0 rfl
 have H := H.lend 1 rfl
 have H := H.lend 2 rfl
 refine wl0 rfl (op_alloc hf H TF.zv45 rfl (by decide) fun b3 a w hf H => ?_)
 refine wl0 rfl (op_storeB hf H 0 TF.sz45 rfl rfl rfl rfl rfl rfl (nle rfl) fun w H => ?_)
 refine wl_end (then_n (sq (sqz (pz 1 hf fun a hf => ?_))))
 refine wl_end (then_n ?_)
 obtain ⟨out', hB1, hF⟩ := bind_some hF
 have hf := hf.pn [1, 4, 6, 7]
 have H := H.lt_ [true, true, false] [] [false, false, false] [0, 1, 2, 3]
 refine loopC (fun (s : Int × List ByteArray × List Fiber × List Light) (a : Act) (w : World) => match s with | (i, m, m2, m3) => ∃ (A8 : Option Addr) (c8 : Nat) (A9 : Option Addr) (c9 : Nat) (A10 : Option Addr) (c10 : Nat), Fr a 35 [(1, (.slice A4 list.length c4)), (4, (.pointer (some ⟨b2, 0, none⟩))), (6, (.pointer (some ⟨b3, 0, none⟩))), (7, (.int .i64 i))] ∧ Mem ⟨w0, []⟩ S [⟨b3, 45, [(.slice A8 m.length c8), (.slice A9 m2.length c9), (.slice A10 m3.length c10)]⟩, ⟨b2, 45, [(.slice none 0 0), (.slice none 0 0), (.slice none 0 0)]⟩] [] [] [(true, MP.val [(.slice A10 m3.length c10)] (m3 : List Light)), (true, MP.val [(.slice A9 m2.length c9)] (m2 : List Fiber)), (true, MP.val [(.slice A8 m.length c8)] (m : List ByteArray)), (false, MP.val [(.slice A4 list.length c4)] (list : List Action))] w) (fun k (s : Int × List ByteArray × List Fiber × List Light) => spec_l20All_L1 fu list k s.1 s.2.1 s.2.2.1 s.2.2.2 = some out') (fun s => out' = Out.next s) (0, y.Network.Nodes, y.Network.Fibers, y.Lights) fu hB1 ⟨A5, c5, A6, c6, A7, c7, hf, H⟩ (fun s h => by cases h) ?_ ?_
 ·rintro fk ⟨i, m, m2, m3⟩ a w hR1 hI
  replace hR1 : spec_l20All_L1 fu list (fk + 1) i m m2 m3 = some out' := hR1
  rw [spec_l20All_L1] at hR1
  obtain ⟨A8, c8, A9, c9, A10, c10, hf, H⟩ := hI
  refine sq (sqz (pz 4 hf fun a hf => ?_))
  refine wl_end (then_n (ib hR1 hf (fun hc hR1 => ?_) fun hc hR1 => ?_))
  ·refine wp_skip (then_n (sq (wp_block (sq (drawn [10] (bs := [false, false, false, false, false, false, false, false, false, false, false, false]) (fuel := 12) (Checked.mixed Tryz.checked) rfl rfl fun w hb => ?_)))))
   have H := H.keep hb
   refine strT (H.let [true, false] [] [] [] rfl rfl rfl rfl) (fun w H => trivial) fun hS => ?_
   refine tS 0 [0, 5, 6, 7, 8, 10, 11] rfl rfl rfl rfl hf (by kernel_rfl) (by kernel_rfl) hS (fun w H => rq_loadBN hf H TF.la45 0 rfl rfl rfl rfl) fun a hf => ?_
   refine zp 1 hf hS fun a hf => ?_
   refine zp 2 hf hS fun a hf => ?_
   obtain ⟨e, he, hR1⟩ := bind_some hR1
   obtain ⟨p2, o, cs, hx, hr, H⟩ := pre_iaddr H Tryz.underlying67 TF.sz54 3 rfl he
   refine tP 3 rfl rfl rfl rfl hf (by kernel_rfl) (fun _ => hS) (fun w => rq_iaddrE hf rfl rfl rfl hx w) fun a hf => ?_
   obtain ⟨A11, c11, rfl, hl8⟩ := Action_cells hr
   have H := H.push (false, MP.val [(.slice A11 e.Light.Route.Fibers.length c11)] e.Light.Route.Fibers) hl8
   refine strT (H.let [true, false] [] [] [1] rfl rfl rfl rfl) (fun w H => H.let [true] [] [] [] rfl rfl rfl rfl) fun hS => ?_
   refine tS 4 [4, 5, 6, 7, 8, 10, 11] rfl rfl rfl rfl hf (by kernel_rfl) (by kernel_rfl) hS (fun w H => rq_loadIN hf H TF.la54 0 0 rfl rfl rfl rfl) fun a hf => ?_
   refine on2 (i := 5) (j := 9) (bi := [true, true, true, true, true, true, false, false, false, false, false, false]) (bj := [true, true, true, true, true, false, false, false, false, true, false, false]) (by kernel_rfl) rfl rfl rfl rfl rfl rfl ?_ ?_
   ·obtain ⟨y2, hy2, hR1⟩ := bind_some hR1
    refine (op_call hf TF.cl62 rfl (by decide) (spec_l20Apply_ok (S := TT) (Plan_mkv (x := ({ Network := ({ Nodes := m, Fibers := m2 } : Network), Lights := m3 } : Plan)) (H.rt 4 rfl) (H.rt 3 rfl) (H.rt 2 rfl)) (Action_mkv (x := e) (H.rt 0 rfl)) hy2) fun v2 w a hp3 hf => ?_)
    obtain ⟨hb2, v3, v4, rfl, hp4, hp5⟩ := hp3
    obtain ⟨A12, c12, A13, c13, A14, c14, rfl, hl9, hl10, hl11⟩ := Plan_open hp4
    replace hl9 := H.resF (f := MP.val [(.slice A12 y2.1.Network.Nodes.length c12)] y2.1.Network.Nodes) hl9
    replace hl10 := H.resF (f := MP.val [(.slice A13 y2.1.Network.Fibers.length c13)] y2.1.Network.Fibers) hl10
    replace hl11 := H.resF (f := MP.val [(.slice A14 y2.1.Lights.length c14)] y2.1.Lights) hl11
    obtain rfl := VR_bool hp5
    have H := H.keep hb2
    have H := H.push (true, MP.val [(.slice A12 y2.1.Network.Nodes.length c12)] y2.1.Network.Nodes) hl9
    have H := H.push (true, MP.val [(.slice A13 y2.1.Network.Fibers.length c13)] y2.1.Network.Fibers) hl10
    have H := H.push (true, MP.val [(.slice A14 y2.1.Lights.length c14)] y2.1.Lights) hl11
    have hS := H.lt_ [true, false] [] [] [4]
    refine ⟨fun _ => hS, ?_⟩
    refine zp 6 hf hS fun a hf => ?_
    refine zp 7 hf hS fun a hf => ?_
    refine zp 8 hf hS fun a hf => ?_
    refine n1 9 (by kernel_rfl) rfl rfl (op_alloc hf H TF.zv45 rfl (by decide) fun b4 a w hf H => ?_)
    have hS := H.lt_ [false, true, false] [] [] [4]
    refine ⟨fun _ => hS, ?_⟩
    refine n1 10 (by kernel_rfl) rfl rfl (op_storeB hf H 0 TF.sz45 rfl rfl rfl rfl rfl rfl (nle rfl) fun w H => ?_)
    refine ⟨fun h => absurd h (by decide), ?_⟩
    refine tp 11 rfl rfl hf (by kernel_rfl) (fun h => absurd h (by decide)) rfl fun a hf => ?_
    refine dn (by kernel_rfl) ?_
    have hf := hf.pn [1, 4, 6, 7, 8, 9]
    refine then_n (sq (sqz (pz 2 hf fun a hf => ?_)))
    refine wl_end (then_n (ib hR1 hf (fun hc2 hR1 => ?_) fun hc2 hR1 => ?_))
    ·refine sq (reg (oq hf (rq_loadBN hf H TF.la45 1 rfl rfl rfl rfl) fun a hf => ?_))
     refine pz 1 hf fun a hf => ?_
     refine wl0 rfl (op_storeB hf H 2 TF.sz45 rfl rfl rfl rfl rfl rfl (nle rfl) fun w H => ?_)
     refine pz 1 hf fun a hf => ?_
     refine wl_end (then_n (wp_ret (then_r (blk_r (then_r (then_r (blk_r (then_r (then_r (?_))))))))))
     obtain rfl := Option.some.inj hR1
     replace hF := on_ret hF
     obtain rfl := Option.some.inj hF
     refine ret_2 (fn := Tryz.f80) (r := .cell 4 45) (s := .tmp 5) hf rfl (rv_cellN hf H 2 TF.la45 rfl rfl rfl) (rv_tmp hf rfl) ?_
     exact ⟨_, rfl, H.bel, _, _, rfl, (Plan_mkv (x := ({ Network := ({ Nodes := m, Fibers := m2 } : Network), Lights := m3 } : Plan)) (rep_end (α := List ByteArray) (H.get 7 rfl)) (rep_end (α := List Fiber) (H.get 6 rfl)) (rep_end (α := List Light) (H.get 5 rfl))), mk_int⟩
    ·refine wp_skip (then_n (reg (oq hf (rq_loadBN hf H TF.la45 0 rfl rfl rfl rfl) fun a hf => ?_)))
     refine wl0 rfl (op_storeB hf H 1 TF.sz45 rfl rfl rfl rfl rfl rfl (nle rfl) fun w H => ?_)
     refine wl_end (blk_n (then_n (reg (pz 3 hf fun a hf => ?_))))
     refine wl_end ?_
     have hf := hf.pn [1, 4, 6, 7]
     have H := H.lt_ [false, true, true] [] [] [0, 1, 2, 8]
     exact then_n ⟨(w64 (i + 1), y2.1.Network.Nodes, y2.1.Network.Fibers, y2.1.Lights), hR1, A12, c12, A13, c13, A14, c14, hf, H⟩
   ·refine (op_alloc hf H TF.zv45 rfl (by decide) fun b4 a w hf H => ?_)
    have hS := H.lt_ [false, true, false] [] [] [1]
    refine ⟨fun _ => hS, ?_⟩
    obtain ⟨y2, hy2, hR1⟩ := bind_some hR1
    refine n1 5 (by kernel_rfl) rfl rfl (op_call hf TF.cl62 rfl (by decide) (spec_l20Apply_ok (S := TT) (Plan_mkv (x := ({ Network := ({ Nodes := m, Fibers := m2 } : Network), Lights := m3 } : Plan)) (H.rt 4 rfl) (H.rt 3 rfl) (H.rt 2 rfl)) (Action_mkv (x := e) (H.rt 0 rfl)) hy2) fun v2 w a hp3 hf => ?_)
    obtain ⟨hb2, v3, v4, rfl, hp4, hp5⟩ := hp3
    obtain ⟨A12, c12, A13, c13, A14, c14, rfl, hl9, hl10, hl11⟩ := Plan_open hp4
    replace hl9 := H.resF (f := MP.val [(.slice A12 y2.1.Network.Nodes.length c12)] y2.1.Network.Nodes) hl9
    replace hl10 := H.resF (f := MP.val [(.slice A13 y2.1.Network.Fibers.length c13)] y2.1.Network.Fibers) hl10
    replace hl11 := H.resF (f := MP.val [(.slice A14 y2.1.Lights.length c14)] y2.1.Lights) hl11
    obtain rfl := VR_bool hp5
    have H := H.keep hb2
    have H := H.push (true, MP.val [(.slice A12 y2.1.Network.Nodes.length c12)] y2.1.Network.Nodes) hl9
    have H := H.push (true, MP.val [(.slice A13 y2.1.Network.Fibers.length c13)] y2.1.Network.Fibers) hl10
    have H := H.push (true, MP.val [(.slice A14 y2.1.Lights.length c14)] y2.1.Lights) hl11
    have hS := H.lt_ [false, true, false] [] [] [4]
    refine ⟨fun _ => hS, ?_⟩
    refine zp 6 hf hS fun a hf => ?_
    refine zp 7 hf hS fun a hf => ?_
    refine zp 8 hf hS fun a hf => ?_
    refine n1 10 (by kernel_rfl) rfl rfl (op_storeB hf H 0 TF.sz45 rfl rfl rfl rfl rfl rfl (nle rfl) fun w H => ?_)
    refine ⟨fun h => absurd h (by decide), ?_⟩
    refine tp 11 rfl rfl hf (by kernel_rfl) (fun h => absurd h (by decide)) rfl fun a hf => ?_
    refine dn (by kernel_rfl) ?_
    have hf := hf.pn [1, 4, 6, 7, 8, 9]
    refine then_n (sq (sqz (pz 2 hf fun a hf => ?_)))
    refine wl_end (then_n (ib hR1 hf (fun hc2 hR1 => ?_) fun hc2 hR1 => ?_))
    ·refine sq (reg (oq hf (rq_loadBN hf H TF.la45 1 rfl rfl rfl rfl) fun a hf => ?_))
     refine pz 1 hf fun a hf => ?_
     refine wl0 rfl (op_storeB hf H 2 TF.sz45 rfl rfl rfl rfl rfl rfl (nle rfl) fun w H => ?_)
     refine pz 1 hf fun a hf => ?_
     refine wl_end (then_n (wp_ret (then_r (blk_r (then_r (then_r (blk_r (then_r (then_r (?_))))))))))
     obtain rfl := Option.some.inj hR1
     replace hF := on_ret hF
     obtain rfl := Option.some.inj hF
     refine ret_2 (fn := Tryz.f80) (r := .cell 4 45) (s := .tmp 5) hf rfl (rv_cellN hf H 2 TF.la45 rfl rfl rfl) (rv_tmp hf rfl) ?_
     exact ⟨_, rfl, H.bel, _, _, rfl, (Plan_mkv (x := ({ Network := ({ Nodes := m, Fibers := m2 } : Network), Lights := m3 } : Plan)) (rep_end (α := List ByteArray) (H.get 7 rfl)) (rep_end (α := List Fiber) (H.get 6 rfl)) (rep_end (α := List Light) (H.get 5 rfl))), mk_int⟩
    ·refine wp_skip (then_n (reg (oq hf (rq_loadBN hf H TF.la45 0 rfl rfl rfl rfl) fun a hf => ?_)))
     refine wl0 rfl (op_storeB hf H 1 TF.sz45 rfl rfl rfl rfl rfl rfl (nle rfl) fun w H => ?_)
     refine wl_end (blk_n (then_n (reg (pz 3 hf fun a hf => ?_))))
     refine wl_end ?_
     have hf := hf.pn [1, 4, 6, 7]
     have H := H.lt_ [false, true, true] [] [] [0, 1, 2, 8]
     exact then_n ⟨(w64 (i + 1), y2.1.Network.Nodes, y2.1.Network.Fibers, y2.1.Lights), hR1, A12, c12, A13, c13, A14, c14, hf, H⟩
  ·refine wp_exit (then_x (then_x (blk_e (?_))))
   have hf := hf.pn [1, 4, 6, 7]
   have H := H.lt_ [true, true] [] [] [0, 1, 2, 3]
   exact ⟨(i, m, m2, m3), (Option.some.inj hR1).symm, A8, c8, A9, c9, A10, c10, hf, H⟩
 rintro a w ⟨⟨i2, m4, m5, m6⟩, rfl, A15, c15, A16, c16, A17, c17, hf, H⟩
 replace hF := on_next hF
 try dsimp only at hF
 refine then_n (sq (reg (oq hf (rq_loadBN hf H TF.la45 0 rfl rfl rfl rfl) fun a hf => ?_)))
 refine pz 2 hf fun a hf => ?_
 refine wl0 rfl (op_storeB hf H 1 TF.sz45 rfl rfl rfl rfl rfl rfl (nle rfl) fun w H => ?_)
 refine pz 1 hf fun a hf => ?_
 refine wl_end (then_n (wp_ret (?_)))
 obtain rfl := Option.some.inj hF
 refine ret_2 (fn := Tryz.f80) (r := .cell 4 45) (s := .tmp 5) hf rfl (rv_cellN hf H 1 TF.la45 rfl rfl rfl) (rv_tmp hf rfl) ?_
 exact ⟨_, rfl, H.bel, _, _, rfl, (Plan_mkv (x := ({ Network := ({ Nodes := m4, Fibers := m5 } : Network), Lights := m6 } : Plan)) (rep_end (α := List ByteArray) (H.get 2 rfl)) (rep_end (α := List Fiber) (H.get 1 rfl)) (rep_end (α := List Light) (H.get 0 rfl))), mk_int⟩

theorem spec_ApplyActions_ok {S : Nat → Prop} {v0_ : Value} {v1_ : Value} {p : Plan} {list : List Action} {r : Plan × Int × Bool} (h0 : VR w0 S v0_ p) (h1 : VR w0 S v1_ list) (hF : spec_ApplyActions fu p list = some r) :
    Calls Tryz.prog 26 [v0_, v1_].toArray w0 fun e w' => ∃ v, e = .returned v ∧ (Below w0.heap.size w0 w' ∧ ∃ u0 u1 u2, v = .tuple #[u0, u1, u2] ∧ VR w' (St ⟨w0, []⟩ S [] [] [] true) u0 r.1 ∧ VR w' (St ⟨w0, []⟩ S [] [] [] true) u1 r.2.1 ∧ VR w' (St ⟨w0, []⟩ S [] [] [] true) u2 r.2.2) := by
 obtain ⟨A, c, A2, c2, A3, c3, rfl, hl, hl2, hl3⟩ := Plan_open h0
 obtain ⟨A4, c4, rfl, hl4⟩ := VR_list h1
 have H := Mem.start ⟨w0, []⟩ S
 have H := H.pushArg (MP.val [(.slice A p.Network.Nodes.length c)] p.Network.Nodes) hl
 have H := H.pushArg (MP.val [(.slice A2 p.Network.Fibers.length c2)] p.Network.Fibers) hl2
 have H := H.pushArg (MP.val [(.slice A3 p.Lights.length c3)] p.Lights) hl3
 have H := H.pushArg (MP.val [(.slice A4 list.length c4)] list) hl4
 refine en Tryz.func26 fun a hf => ?_
 rw [spec_ApplyActions] at hF
 refine sq (reg (wl0 rfl (op_box hf H rfl rfl (by decide) fun b' a w hf H => ?_)))
 refine wl0 rfl (op_alloc hf H TF.zv45 rfl (by decide) fun b2 a w hf H => ?_)
 refine pz 2 hf fun a hf => ?_
 refine wl_end (then_n (sq (sq ?_)))
 obtain ⟨c5, hGc5, hF⟩ := bind_some hF
 have fh := hf.prune [1, 2, 4] rfl
 have Hm := H.lt_ [true, true] [] [] [0, 1, 2, 3]
 refine midF 16 (.bool c5) fh Hm ?_ fun a w hf H => ?_
 ·refine reg (oq hf (rq_loadBN hf H TF.la45 1 rfl rfl rfl rfl) fun a hf => ?_)
  obtain ⟨y, hy, hGc5⟩ := bind_some hGc5
  refine oc hf TF.cl61 (spec_l9Good_ok (S := TT) (Plan_mkv (x := p) (H.rt 3 rfl) (H.rt 2 rfl) (H.rt 1 rfl)) hy) fun v w a hp hf => ?_
  obtain ⟨hb, hp⟩ := hp
  obtain rfl := VR_bool hp
  have H := H.keep hb
  refine pz 2 hf fun a hf => ?_
  refine iteB hGc5 (fun hc hGc5 => ?_) fun hc hGc5 => ?_
  ·have hf := hf.lit 12 rfl hc
   refine pz 4 hf fun a hf => ?_
   obtain rfl := Option.some.inj hGc5
   have hf := hf.pn [16, 1, 2, 4]
   have H := H.lt_ [true, true] [] [] [0, 1, 2, 3]
   exact wl_end ⟨hf, H⟩
  ·have hf := hf.lit 12 rfl hc
   refine pz 4 hf fun a hf => ?_
   obtain rfl := Option.some.inj hGc5
   have hf := hf.pn [16, 1, 2, 4]
   have H := H.lt_ [true, true] [] [] [0, 1, 2, 3]
   exact wl_end ⟨hf, H⟩
 refine then_n (ib hF hf (fun hc2 hF => ?_) fun hc2 hF => ?_)
 ·refine sq (reg (oq hf (rq_build hf (cs := [(.slice none 0 0), (.slice none 0 0), (.slice none 0 0)]) rfl (fun w => by kernel_rfl)) fun a hf => ?_))
  refine wl0 rfl (op_storeB hf H 0 TF.sz45 rfl rfl rfl rfl rfl rfl (nle rfl) fun w H => ?_)
  refine pz 2 hf fun a hf => ?_
  refine wl_end (then_n (wp_ret (then_r (?_))))
  have H := H.pushNil (ByteArray) true
  have H := H.pushNil (Fiber) true
  have H := H.pushNil (Light) true
  obtain rfl := Option.some.inj hF
  refine ret_3 (fn := Tryz.f26) (r := .cell 4 45) (s := .tmp 5) (t := .tmp 6) hf rfl (rv_cellN hf H 0 TF.la45 rfl rfl rfl) (rv_tmp hf rfl) (rv_tmp hf rfl) ?_
  exact ⟨_, rfl, H.bel, _, _, _, rfl, (Plan_mkv (x := ({ Network := ({ Nodes := [], Fibers := [] } : Network), Lights := [] } : Plan)) (rep_end (α := List ByteArray) (H.get 2 rfl)) (rep_end (α := List Fiber) (H.get 1 rfl)) (rep_end (α := List Light) (H.get 0 rfl))), mk_int, mk_bool⟩
 ·refine wp_skip (then_n (sq (reg (oq hf (rq_loadBN hf H TF.la45 1 rfl rfl rfl rfl) fun a hf => ?_))))
  refine pz 1 hf fun a hf => ?_
  obtain ⟨y2, hy2, hF⟩ := bind_some hF
  refine oc hf TF.cl80 (spec_l20All_ok (S := TT) (Plan_mkv (x := p) (H.rt 3 rfl) (H.rt 2 rfl) (H.rt 1 rfl)) (mk_list (H.rt 0 rfl)) hy2) fun v2 w a hp2 hf => ?_
  obtain ⟨hb2, v3, v4, rfl, hp3, hp4⟩ := hp2
  obtain ⟨A5, c6, A6, c7, A7, c8, rfl, hl5, hl6, hl7⟩ := Plan_open hp3
  replace hl5 := H.resF (f := MP.val [(.slice A5 y2.1.Network.Nodes.length c6)] y2.1.Network.Nodes) hl5
  replace hl6 := H.resF (f := MP.val [(.slice A6 y2.1.Network.Fibers.length c7)] y2.1.Network.Fibers) hl6
  replace hl7 := H.resF (f := MP.val [(.slice A7 y2.1.Lights.length c8)] y2.1.Lights) hl7
  obtain rfl := VR_int hp4
  have H := H.keep hb2
  have H := H.push (true, MP.val [(.slice A5 y2.1.Network.Nodes.length c6)] y2.1.Network.Nodes) hl5
  have H := H.push (true, MP.val [(.slice A6 y2.1.Network.Fibers.length c7)] y2.1.Network.Fibers) hl6
  have H := H.push (true, MP.val [(.slice A7 y2.1.Lights.length c8)] y2.1.Lights) hl7
  refine pz 3 hf fun a hf => ?_
  refine wl0 rfl (op_alloc hf H TF.zv45 rfl (by decide) fun b3 a w hf H => ?_)
  refine wl0 rfl (op_storeB hf H 0 TF.sz45 rfl rfl rfl rfl rfl rfl (nle rfl) fun w H => ?_)
  refine pz 1 hf fun a hf => ?_
  refine wl_end (then_n (sq (sqz (pz 4 hf fun a hf => ?_))))
  refine wl_end (then_n (ib hF hf (fun hc3 hF => ?_) fun hc3 hF => ?_))
  ·refine sq (reg (oq hf (rq_loadBN hf H TF.la45 2 rfl rfl rfl rfl) fun a hf => ?_))
   obtain ⟨y3, hy3, hF⟩ := bind_some hF
   refine oc hf TF.cl81 (spec_l9Own_ok (S := TT) (Plan_mkv (x := p) (H.rt 6 rfl) (H.rt 5 rfl) (H.rt 4 rfl)) hy3) fun v5 w a hp5 hf => ?_
   obtain ⟨hb3, F, hp6, hN⟩ := hp5
   obtain ⟨A8, c9, F2, A9, c10, F3, A10, c11, F4, rfl, rfl, hl8, hl9, hl10⟩ := Plan_vo hp6
   have H := H.addOwn hb3 (X := [(⟨F2, MP.own F2 [(.slice A8 y3.Network.Nodes.length c9)] (y3.Network.Nodes : List ByteArray)⟩ : DI), (⟨F3, MP.own F3 [(.slice A9 y3.Network.Fibers.length c10)] (y3.Network.Fibers : List Fiber)⟩ : DI), (⟨F4, MP.own F4 [(.slice A10 y3.Lights.length c11)] (y3.Lights : List Light)⟩ : DI)]) (by simpa using hN.1) (ps1 hl8 (ps1 hl9 (ps1 hl10 ps0))) (by simpa using hN.2)
   have H := H.lend 0 rfl
   have H := H.lend 1 rfl
   have H := H.lend 2 rfl
   refine pz 1 hf fun a hf => ?_
   refine wl0 rfl (op_storeB hf H 1 TF.sz45 rfl rfl rfl rfl rfl rfl (nle rfl) fun w H => ?_)
   refine pz 2 hf fun a hf => ?_
   have hf := hf.pn [4, 5, 6]
   refine wl_end (then_n (wp_ret (then_r (?_))))
   obtain rfl := Option.some.inj hF
   refine ret_3 (fn := Tryz.f26) (r := .cell 4 45) (s := .tmp 5) (t := .tmp 6) hf rfl (rv_cellN hf H 1 TF.la45 rfl rfl rfl) (rv_tmp hf rfl) (rv_tmp hf rfl) ?_
   exact ⟨_, rfl, H.bel, _, _, _, rfl, (Plan_mkv (x := y3) (rep_end (α := List ByteArray) (H.get 2 rfl)) (rep_end (α := List Fiber) (H.get 1 rfl)) (rep_end (α := List Light) (H.get 0 rfl))), mk_int, mk_bool⟩
  ·refine wp_skip (then_n (sq (reg (oq hf (rq_loadBN hf H TF.la45 0 rfl rfl rfl rfl) fun a hf => ?_))))
   refine pz 1 hf fun a hf => ?_
   refine wl0 rfl (op_storeB hf H 1 TF.sz45 rfl rfl rfl rfl rfl rfl (nle rfl) fun w H => ?_)
   refine pz 2 hf fun a hf => ?_
   have hf := hf.pn [4, 5, 6]
   refine wl_end (then_n (wp_ret (?_)))
   obtain rfl := Option.some.inj hF
   refine ret_3 (fn := Tryz.f26) (r := .cell 4 45) (s := .tmp 5) (t := .tmp 6) hf rfl (rv_cellN hf H 1 TF.la45 rfl rfl rfl) (rv_tmp hf rfl) (rv_tmp hf rfl) ?_
   exact ⟨_, rfl, H.bel, _, _, _, rfl, (Plan_mkv (x := y2.1) (rep_end (α := List ByteArray) (H.get 2 rfl)) (rep_end (α := List Fiber) (H.get 1 rfl)) (rep_end (α := List Light) (H.get 0 rfl))), mk_int, mk_bool⟩

theorem impl_applied_ok {S : Nat → Prop} {v0_ : Value} {v1_ : Value} {p : Plan} {list : List Action} {r : Plan × Int} (h0 : VR w0 S v0_ p) (h1 : VR w0 S v1_ list) (hF : impl_applied fu p list = some r) :
    Calls Tryz.prog 82 [v0_, v1_].toArray w0 fun e w' => ∃ v, e = .returned v ∧ (Below w0.heap.size w0 w' ∧ ∃ F0, ∃ u0 u1, v = .tuple #[u0, u1] ∧ VO w' F0 u0 r.1 ∧ VR w' (St ⟨w0, []⟩ S [] [] [] true) u1 r.2 ∧ New w0 w' F0) := by
 obtain ⟨A, c, A2, c2, A3, c3, rfl, hl, hl2, hl3⟩ := Plan_open h0
 obtain ⟨A4, c4, rfl, hl4⟩ := VR_list h1
 have H := Mem.start ⟨w0, []⟩ S
 have H := H.pushArg (MP.val [(.slice A p.Network.Nodes.length c)] p.Network.Nodes) hl
 have H := H.pushArg (MP.val [(.slice A2 p.Network.Fibers.length c2)] p.Network.Fibers) hl2
 have H := H.pushArg (MP.val [(.slice A3 p.Lights.length c3)] p.Lights) hl3
 have H := H.pushArg (MP.val [(.slice A4 list.length c4)] list) hl4
 refine en Tryz.func82 fun a hf => ?_
 rw [impl_applied] at hF
 refine sq (reg (wl0 rfl (op_box hf H rfl rfl (by decide) fun b' a w hf H => ?_)))
 refine wl0 rfl (op_alloc hf H TF.zv45 rfl (by decide) fun b2 a w hf H => ?_)
 refine pz 1 hf fun a hf => ?_
 refine wr (oq hf (rq_loadBN hf H TF.la45 1 rfl rfl rfl rfl) fun a hf => ?_)
 obtain ⟨y, hy, hF⟩ := bind_some hF
 refine oc hf TF.cl83 (impl_copyPlan_ok (S := TT) (Plan_mkv (x := p) (H.rt 3 rfl) (H.rt 2 rfl) (H.rt 1 rfl)) hy) fun v w a hp hf => ?_
 obtain ⟨hb, F, hp2, hN⟩ := hp
 obtain ⟨A5, c5, F2, A6, c6, F3, A7, c7, F4, rfl, rfl, hl5, hl6, hl7⟩ := Plan_vo hp2
 have H := H.addOwn hb (X := [(⟨F2, MP.own F2 [(.slice A5 y.Network.Nodes.length c5)] (y.Network.Nodes : List ByteArray)⟩ : DI), (⟨F3, MP.own F3 [(.slice A6 y.Network.Fibers.length c6)] (y.Network.Fibers : List Fiber)⟩ : DI), (⟨F4, MP.own F4 [(.slice A7 y.Lights.length c7)] (y.Lights : List Light)⟩ : DI)]) (by simpa using hN.1) (ps1 hl5 (ps1 hl6 (ps1 hl7 ps0))) (by simpa using hN.2)
 have H := H.lend 0 rfl
 have H := H.lend 1 rfl
 have H := H.lend 2 rfl
 refine wl0 rfl (op_alloc hf H TF.zv45 rfl (by decide) fun b3 a w hf H => ?_)
 refine wl0 rfl (op_storeB hf H 0 TF.sz45 rfl rfl rfl rfl rfl rfl (nle rfl) fun w H => ?_)
 refine wl_end (then_n (sq (sqz (pz 3 hf fun a hf => ?_))))
 refine wl_end (then_n ?_)
 obtain ⟨out', hB1, hF⟩ := bind_some hF
 have hf := hf.pn [1, 4, 6, 13, 14, 15]
 have H := H.frontD 1 rfl
 have H := H.frontD 2 rfl
 have H := H.lt_ [true, true, false] [] [true, true, true] [0, 1, 2, 3]
 refine loopC (fun (s : Int × List ByteArray × List Fiber × List Light) (a : Act) (w : World) => match s with | (i, m, m2, m3) => ∃ (A8 : Option Addr) (c8 : Nat) (F5 : List Nat) (A9 : Option Addr) (c9 : Nat) (F6 : List Nat) (A10 : Option Addr) (c10 : Nat) (F7 : List Nat), Fr a 35 [(1, (.slice A4 list.length c4)), (4, (.pointer (some ⟨b2, 0, none⟩))), (6, (.pointer (some ⟨b3, 0, none⟩))), (13, (.slice A4 list.length c4)), (14, (.int .i64 (list.length : Int))), (15, (.int .i64 i))] ∧ Mem ⟨w0, []⟩ S [⟨b3, 45, [(.slice A8 m.length c8), (.slice A9 m2.length c9), (.slice A10 m3.length c10)]⟩, ⟨b2, 45, [(.slice none 0 0), (.slice none 0 0), (.slice none 0 0)]⟩] [] [⟨F7, MP.own F7 [(.slice A10 m3.length c10)] (m3 : List Light)⟩, ⟨F6, MP.own F6 [(.slice A9 m2.length c9)] (m2 : List Fiber)⟩, ⟨F5, MP.own F5 [(.slice A8 m.length c8)] (m : List ByteArray)⟩] [(true, MP.val [(.slice A10 m3.length c10)] (m3 : List Light)), (true, MP.val [(.slice A9 m2.length c9)] (m2 : List Fiber)), (true, MP.val [(.slice A8 m.length c8)] (m : List ByteArray)), (false, MP.val [(.slice A4 list.length c4)] (list : List Action))] w) (fun k (s : Int × List ByteArray × List Fiber × List Light) => impl_applied_L1 fu list k s.1 s.2.1 s.2.2.1 s.2.2.2 = some out') (fun s => out' = Out.next s) (0, y.Network.Nodes, y.Network.Fibers, y.Lights) fu hB1 ⟨A5, c5, F2, A6, c6, F3, A7, c7, F4, hf, H⟩ (fun s h => by cases h) ?_ ?_
 ·rintro fk ⟨i, m, m2, m3⟩ a w hR1 hI
  replace hR1 : impl_applied_L1 fu list (fk + 1) i m m2 m3 = some out' := hR1
  rw [impl_applied_L1] at hR1
  obtain ⟨A8, c8, F5, A9, c9, F6, A10, c10, F7, hf, H⟩ := hI
  refine sqz (pz 1 hf fun a hf => ?_)
  refine wl_end (then_n (sq (ib hR1 hf (fun hc hR1 => ?_) fun hc hR1 => ?_)))
  ·refine wp_skip (then_n (sq (wp_block (sqz (pz 1 hf fun a hf => ?_)))))
   obtain ⟨e, he, hR1⟩ := bind_some hR1
   refine wl0 rfl (op_iaddr hf H Tryz.underlying67 TF.sz54 3 rfl rfl rfl he (by decide) fun p2 o cs a hf hr H => ?_)
   obtain ⟨A11, c11, rfl, hl8⟩ := Action_cells hr
   have H := H.push (false, MP.val [(.slice A11 e.Light.Route.Fibers.length c11)] e.Light.Route.Fibers) hl8
   refine oq hf (rq_loadIN hf H TF.la54 1 0 rfl rfl rfl rfl) fun a hf => ?_
   refine wl0 rfl (op_alloc hf H TF.zv54 rfl (by decide) fun b4 a w hf H => ?_)
   refine pz 1 hf fun a hf => ?_
   refine wl0 rfl (op_storeB hf H 0 TF.sz54 rfl rfl rfl rfl rfl rfl (nle rfl) fun w H => ?_)
   refine wr (oq hf (rq_loadBN hf H TF.la45 1 rfl rfl rfl rfl) fun a hf => ?_)
   refine oq hf (rq_loadBN hf H TF.la54 0 rfl rfl rfl rfl) fun a hf => ?_
   obtain ⟨y2, hy2, hR1⟩ := bind_some hR1
   refine oc hf TF.cl16 (impl_ApplyAction_ok (S := TT) (Plan_mkv (x := ({ Network := ({ Nodes := m, Fibers := m2 } : Network), Lights := m3 } : Plan)) (H.rt 4 rfl) (H.rt 3 rfl) (H.rt 2 rfl)) (Action_mkv (x := e) (H.rt 0 rfl)) hy2) fun v2 w a hp3 hf => ?_
   obtain ⟨hb2, F8, v3, v4, rfl, hp4, hp5, hN2⟩ := hp3
   obtain ⟨A12, c12, F9, A13, c13, F10, A14, c14, F11, rfl, rfl, hl9, hl10, hl11⟩ := Plan_vo hp4
   obtain rfl := VR_bool hp5
   have H := H.addOwn hb2 (X := [(⟨F9, MP.own F9 [(.slice A12 y2.1.Network.Nodes.length c12)] (y2.1.Network.Nodes : List ByteArray)⟩ : DI), (⟨F10, MP.own F10 [(.slice A13 y2.1.Network.Fibers.length c13)] (y2.1.Network.Fibers : List Fiber)⟩ : DI), (⟨F11, MP.own F11 [(.slice A14 y2.1.Lights.length c14)] (y2.1.Lights : List Light)⟩ : DI)]) (by simpa using hN2.1) (ps1 hl9 (ps1 hl10 (ps1 hl11 ps0))) (by simpa using hN2.2)
   have H := H.lend 0 rfl
   have H := H.lend 1 rfl
   have H := H.lend 2 rfl
   refine pz 3 hf fun a hf => ?_
   refine wl0 rfl (op_alloc hf H TF.zv45 rfl (by decide) fun b5 a w hf H => ?_)
   refine wl0 rfl (op_storeB hf H 0 TF.sz45 rfl rfl rfl rfl rfl rfl (nle rfl) fun w H => ?_)
   refine pz 1 hf fun a hf => ?_
   refine wl_end (then_n (sq (sqz (pz 2 hf fun a hf => ?_))))
   have hf := hf.pn [1, 4, 6, 7, 9, 13, 14, 15, 27]
   refine wl_end (then_n (ib hR1 hf (fun hc2 hR1 => ?_) fun hc2 hR1 => ?_))
   ·refine sq (reg (oq hf (rq_loadBN hf H TF.la45 2 rfl rfl rfl rfl) fun a hf => ?_))
    refine pz 1 hf fun a hf => ?_
    refine wl0 rfl (op_storeB hf H 3 TF.sz45 rfl rfl rfl rfl rfl rfl (nle rfl) fun w H => ?_)
    refine pz 1 hf fun a hf => ?_
    refine wl_end (then_n (wp_ret (then_r (blk_r (then_r (then_r (blk_r (then_r (then_r (?_))))))))))
    have H := H.frontD 3 rfl
    have H := H.frontD 4 rfl
    have H := H.frontD 5 rfl
    obtain rfl := Option.some.inj hR1
    replace hF := on_ret hF
    obtain rfl := Option.some.inj hF
    refine ret_2 (fn := Tryz.f82) (r := .cell 4 45) (s := .tmp 5) hf rfl (rv_cellN hf H 3 TF.la45 rfl rfl rfl) (rv_tmp hf rfl) ?_
    have hN := H.ends (X := [(⟨F5, MP.own F5 [(.slice A8 m.length c8)] (m : List ByteArray)⟩ : DI), (⟨F6, MP.own F6 [(.slice A9 m2.length c9)] (m2 : List Fiber)⟩ : DI), (⟨F7, MP.own F7 [(.slice A10 m3.length c10)] (m3 : List Light)⟩ : DI)])
    simp only [List.flatMap_cons, List.flatMap_nil, List.append_nil, List.append_assoc] at hN
    exact ⟨_, rfl, H.bel, (F5 ++ (F6 ++ F7)), _, _, rfl, ⟨_, Plan_ownmk (x := ({ Network := ({ Nodes := m, Fibers := m2 } : Network), Lights := m3 } : Plan)) (H.ownAt 0 rfl) (H.ownAt 1 rfl) (H.ownAt 2 rfl), rfl⟩, mk_int, by first | exact hN | simpa using hN⟩
   ·refine wp_skip (then_n (reg (oq hf (rq_loadBN hf H TF.la45 0 rfl rfl rfl rfl) fun a hf => ?_)))
    refine wl0 rfl (op_storeB hf H 2 TF.sz45 rfl rfl rfl rfl rfl rfl (nle rfl) fun w H => ?_)
    refine wl_end (blk_n (then_n (reg (pz 2 hf fun a hf => ?_))))
    refine wl_end ?_
    have hf := hf.pn [1, 4, 6, 13, 14, 15]
    have H := H.frontD 1 rfl
    have H := H.frontD 2 rfl
    have H := H.lt_ [false, false, true, true] [] [true, true, true, false, false, false] [0, 1, 2, 8]
    exact then_n ⟨(w64 (i + 1), y2.1.Network.Nodes, y2.1.Network.Fibers, y2.1.Lights), hR1, A12, c12, F9, A13, c13, F10, A14, c14, F11, hf, H⟩
  ·refine wp_exit (then_x (then_x (blk_e (?_))))
   have hf := hf.pn [1, 4, 6, 13, 14, 15]
   have H := H.lt_ [true, true] [] [true, true, true] [0, 1, 2, 3]
   exact ⟨(i, m, m2, m3), (Option.some.inj hR1).symm, A8, c8, F5, A9, c9, F6, A10, c10, F7, hf, H⟩
 rintro a w ⟨⟨i2, m4, m5, m6⟩, rfl, A15, c15, F12, A16, c16, F13, A17, c17, F14, hf, H⟩
 replace hF := on_next hF
 try dsimp only at hF
 refine then_n (sq (reg (oq hf (rq_loadBN hf H TF.la45 0 rfl rfl rfl rfl) fun a hf => ?_)))
 refine pz 2 hf fun a hf => ?_
 refine wl0 rfl (op_storeB hf H 1 TF.sz45 rfl rfl rfl rfl rfl rfl (nle rfl) fun w H => ?_)
 refine pz 1 hf fun a hf => ?_
 refine wl_end (then_n (wp_ret (?_)))
 have H := H.frontD 1 rfl
 have H := H.frontD 2 rfl
 obtain rfl := Option.some.inj hF
 refine ret_2 (fn := Tryz.f82) (r := .cell 4 45) (s := .tmp 5) hf rfl (rv_cellN hf H 1 TF.la45 rfl rfl rfl) (rv_tmp hf rfl) ?_
 have hN := H.ends (X := [(⟨F12, MP.own F12 [(.slice A15 m4.length c15)] (m4 : List ByteArray)⟩ : DI), (⟨F13, MP.own F13 [(.slice A16 m5.length c16)] (m5 : List Fiber)⟩ : DI), (⟨F14, MP.own F14 [(.slice A17 m6.length c17)] (m6 : List Light)⟩ : DI)])
 simp only [List.flatMap_cons, List.flatMap_nil, List.append_nil, List.append_assoc] at hN
 exact ⟨_, rfl, H.bel, (F12 ++ (F13 ++ F14)), _, _, rfl, ⟨_, Plan_ownmk (x := ({ Network := ({ Nodes := m4, Fibers := m5 } : Network), Lights := m6 } : Plan)) (H.ownAt 0 rfl) (H.ownAt 1 rfl) (H.ownAt 2 rfl), rfl⟩, mk_int, by first | exact hN | simpa using hN⟩

theorem impl_ApplyActions_ok {S : Nat → Prop} {v0_ : Value} {v1_ : Value} {p : Plan} {list : List Action} {r : Plan × Int × Bool} (h0 : VR w0 S v0_ p) (h1 : VR w0 S v1_ list) (hF : impl_ApplyActions fu p list = some r) :
    Calls Tryz.prog 28 [v0_, v1_].toArray w0 fun e w' => ∃ v, e = .returned v ∧ (Below w0.heap.size w0 w' ∧ ∃ F0, ∃ u0 u1 u2, v = .tuple #[u0, u1, u2] ∧ VO w' F0 u0 r.1 ∧ VR w' (St ⟨w0, []⟩ S [] [] [] true) u1 r.2.1 ∧ VR w' (St ⟨w0, []⟩ S [] [] [] true) u2 r.2.2 ∧ New w0 w' F0) := by
 obtain ⟨A, c, A2, c2, A3, c3, rfl, hl, hl2, hl3⟩ := Plan_open h0
 obtain ⟨A4, c4, rfl, hl4⟩ := VR_list h1
 have H := Mem.start ⟨w0, []⟩ S
 have H := H.pushArg (MP.val [(.slice A p.Network.Nodes.length c)] p.Network.Nodes) hl
 have H := H.pushArg (MP.val [(.slice A2 p.Network.Fibers.length c2)] p.Network.Fibers) hl2
 have H := H.pushArg (MP.val [(.slice A3 p.Lights.length c3)] p.Lights) hl3
 have H := H.pushArg (MP.val [(.slice A4 list.length c4)] list) hl4
 refine en Tryz.func28 fun a hf => ?_
 rw [impl_ApplyActions] at hF
 refine sq (reg (wl0 rfl (op_box hf H rfl rfl (by decide) fun b' a w hf H => ?_)))
 refine wl0 rfl (op_alloc hf H TF.zv45 rfl (by decide) fun b2 a w hf H => ?_)
 refine pz 2 hf fun a hf => ?_
 refine wl_end (then_n (sq (sq ?_)))
 obtain ⟨c5, hGc5, hF⟩ := bind_some hF
 have fh := hf.prune [1, 2, 4] rfl
 have Hm := H.lt_ [true, true] [] [] [0, 1, 2, 3]
 refine midF 16 (.bool c5) fh Hm ?_ fun a w hf H => ?_
 ·refine reg (oq hf (rq_loadBN hf H TF.la45 1 rfl rfl rfl rfl) fun a hf => ?_)
  obtain ⟨y, hy, hGc5⟩ := bind_some hGc5
  refine oc hf TF.cl50 (impl_IsValidPlan_ok (S := TT) (Plan_mkv (x := p) (H.rt 3 rfl) (H.rt 2 rfl) (H.rt 1 rfl)) hy) fun v w a hp hf => ?_
  obtain ⟨hb, hp⟩ := hp
  obtain rfl := VR_bool hp
  have H := H.keep hb
  refine pz 2 hf fun a hf => ?_
  refine iteB hGc5 (fun hc hGc5 => ?_) fun hc hGc5 => ?_
  ·have hf := hf.lit 12 rfl hc
   refine pz 4 hf fun a hf => ?_
   obtain rfl := Option.some.inj hGc5
   have hf := hf.pn [16, 1, 2, 4]
   have H := H.lt_ [true, true] [] [] [0, 1, 2, 3]
   exact wl_end ⟨hf, H⟩
  ·have hf := hf.lit 12 rfl hc
   refine pz 4 hf fun a hf => ?_
   obtain rfl := Option.some.inj hGc5
   have hf := hf.pn [16, 1, 2, 4]
   have H := H.lt_ [true, true] [] [] [0, 1, 2, 3]
   exact wl_end ⟨hf, H⟩
 refine then_n (ib hF hf (fun hc2 hF => ?_) fun hc2 hF => ?_)
 ·refine sq (reg (oq hf (rq_build hf (cs := [(.slice none 0 0), (.slice none 0 0), (.slice none 0 0)]) rfl (fun w => by kernel_rfl)) fun a hf => ?_))
  refine wl0 rfl (op_storeB hf H 0 TF.sz45 rfl rfl rfl rfl rfl rfl (nle rfl) fun w H => ?_)
  refine pz 2 hf fun a hf => ?_
  refine wl_end (then_n (wp_ret (then_r (?_))))
  have H := H.ownNil (ByteArray)
  have H := H.lend 0 rfl
  have H := H.ownNil (Fiber)
  have H := H.lend 0 rfl
  have H := H.ownNil (Light)
  have H := H.lend 0 rfl
  have H := H.frontD 1 rfl
  have H := H.frontD 2 rfl
  obtain rfl := Option.some.inj hF
  refine ret_3 (fn := Tryz.f28) (r := .cell 4 45) (s := .tmp 5) (t := .tmp 6) hf rfl (rv_cellN hf H 0 TF.la45 rfl rfl rfl) (rv_tmp hf rfl) (rv_tmp hf rfl) ?_
  have hN := H.ends (X := [(⟨[], MP.own [] [(.slice none 0 0)] ([] : List ByteArray)⟩ : DI), (⟨[], MP.own [] [(.slice none 0 0)] ([] : List Fiber)⟩ : DI), (⟨[], MP.own [] [(.slice none 0 0)] ([] : List Light)⟩ : DI)])
  simp only [List.flatMap_cons, List.flatMap_nil, List.append_nil, List.append_assoc] at hN
  exact ⟨_, rfl, H.bel, ([] ++ ([] ++ [])), _, _, _, rfl, ⟨_, Plan_ownmk (x := ({ Network := ({ Nodes := [], Fibers := [] } : Network), Lights := [] } : Plan)) (H.ownAt 0 rfl) (H.ownAt 1 rfl) (H.ownAt 2 rfl), rfl⟩, mk_int, mk_bool, by first | exact hN | simpa using hN⟩
 ·refine wp_skip (then_n (sq (reg (oq hf (rq_loadBN hf H TF.la45 1 rfl rfl rfl rfl) fun a hf => ?_))))
  refine pz 1 hf fun a hf => ?_
  obtain ⟨y2, hy2, hF⟩ := bind_some hF
  refine oc hf TF.cl82 (impl_applied_ok (S := TT) (Plan_mkv (x := p) (H.rt 3 rfl) (H.rt 2 rfl) (H.rt 1 rfl)) (mk_list (H.rt 0 rfl)) hy2) fun v2 w a hp2 hf => ?_
  obtain ⟨hb2, F, v3, v4, rfl, hp3, hp4, hN⟩ := hp2
  obtain ⟨A5, c6, F2, A6, c7, F3, A7, c8, F4, rfl, rfl, hl5, hl6, hl7⟩ := Plan_vo hp3
  obtain rfl := VR_int hp4
  have H := H.addOwn hb2 (X := [(⟨F2, MP.own F2 [(.slice A5 y2.1.Network.Nodes.length c6)] (y2.1.Network.Nodes : List ByteArray)⟩ : DI), (⟨F3, MP.own F3 [(.slice A6 y2.1.Network.Fibers.length c7)] (y2.1.Network.Fibers : List Fiber)⟩ : DI), (⟨F4, MP.own F4 [(.slice A7 y2.1.Lights.length c8)] (y2.1.Lights : List Light)⟩ : DI)]) (by simpa using hN.1) (ps1 hl5 (ps1 hl6 (ps1 hl7 ps0))) (by simpa using hN.2)
  have H := H.lend 0 rfl
  have H := H.lend 1 rfl
  have H := H.lend 2 rfl
  refine pz 3 hf fun a hf => ?_
  refine wl0 rfl (op_alloc hf H TF.zv45 rfl (by decide) fun b3 a w hf H => ?_)
  refine wl0 rfl (op_storeB hf H 0 TF.sz45 rfl rfl rfl rfl rfl rfl (nle rfl) fun w H => ?_)
  refine pz 1 hf fun a hf => ?_
  refine wl_end (then_n (sq (sqz (pz 4 hf fun a hf => ?_))))
  refine wl_end (then_n (ib hF hf (fun hc3 hF => ?_) fun hc3 hF => ?_))
  ·refine reg (oq hf (rq_loadBN hf H TF.la45 2 rfl rfl rfl rfl) fun a hf => ?_)
   obtain ⟨y3, hy3, hF⟩ := bind_some hF
   refine oc hf TF.cl83 (impl_copyPlan_ok (S := TT) (Plan_mkv (x := p) (H.rt 6 rfl) (H.rt 5 rfl) (H.rt 4 rfl)) hy3) fun v5 w a hp5 hf => ?_
   obtain ⟨hb3, F5, hp6, hN2⟩ := hp5
   obtain ⟨A8, c9, F6, A9, c10, F7, A10, c11, F8, rfl, rfl, hl8, hl9, hl10⟩ := Plan_vo hp6
   have H := H.addOwn hb3 (X := [(⟨F6, MP.own F6 [(.slice A8 y3.Network.Nodes.length c9)] (y3.Network.Nodes : List ByteArray)⟩ : DI), (⟨F7, MP.own F7 [(.slice A9 y3.Network.Fibers.length c10)] (y3.Network.Fibers : List Fiber)⟩ : DI), (⟨F8, MP.own F8 [(.slice A10 y3.Lights.length c11)] (y3.Lights : List Light)⟩ : DI)]) (by simpa using hN2.1) (ps1 hl8 (ps1 hl9 (ps1 hl10 ps0))) (by simpa using hN2.2)
   have H := H.lend 0 rfl
   have H := H.lend 1 rfl
   have H := H.lend 2 rfl
   refine wl0 rfl (op_storeB hf H 0 TF.sz45 rfl rfl rfl rfl rfl rfl (nle rfl) fun w H => ?_)
   have hf := hf.pn [4, 7, 8]
   refine wr (oq hf (rq_loadBN hf H TF.la45 0 rfl rfl rfl rfl) fun a hf => ?_)
   refine pz 1 hf fun a hf => ?_
   refine wl0 rfl (op_storeB hf H 1 TF.sz45 rfl rfl rfl rfl rfl rfl (nle rfl) fun w H => ?_)
   refine pz 2 hf fun a hf => ?_
   refine wl_end (then_n (wp_ret (?_)))
   have H := H.frontD 2 rfl
   have H := H.frontD 2 rfl
   have H := H.frontD 2 rfl
   obtain rfl := Option.some.inj hF
   refine ret_3 (fn := Tryz.f28) (r := .cell 4 45) (s := .tmp 5) (t := .tmp 6) hf rfl (rv_cellN hf H 1 TF.la45 rfl rfl rfl) (rv_tmp hf rfl) (rv_tmp hf rfl) ?_
   have hN := H.ends (X := [(⟨F6, MP.own F6 [(.slice A8 y3.Network.Nodes.length c9)] (y3.Network.Nodes : List ByteArray)⟩ : DI), (⟨F7, MP.own F7 [(.slice A9 y3.Network.Fibers.length c10)] (y3.Network.Fibers : List Fiber)⟩ : DI), (⟨F8, MP.own F8 [(.slice A10 y3.Lights.length c11)] (y3.Lights : List Light)⟩ : DI)])
   simp only [List.flatMap_cons, List.flatMap_nil, List.append_nil, List.append_assoc] at hN
   exact ⟨_, rfl, H.bel, (F6 ++ (F7 ++ F8)), _, _, _, rfl, ⟨_, Plan_ownmk (x := y3) (H.ownAt 0 rfl) (H.ownAt 1 rfl) (H.ownAt 2 rfl), rfl⟩, mk_int, mk_bool, by first | exact hN | simpa using hN⟩
  ·refine wp_skip (then_n (sq (reg (oq hf (rq_loadBN hf H TF.la45 0 rfl rfl rfl rfl) fun a hf => ?_))))
   refine pz 1 hf fun a hf => ?_
   refine wl0 rfl (op_storeB hf H 1 TF.sz45 rfl rfl rfl rfl rfl rfl (nle rfl) fun w H => ?_)
   refine pz 2 hf fun a hf => ?_
   have hf := hf.pn [4, 5, 6]
   refine wl_end (then_n (wp_ret (?_)))
   have H := H.frontD 2 rfl
   have H := H.frontD 2 rfl
   have H := H.frontD 2 rfl
   obtain rfl := Option.some.inj hF
   refine ret_3 (fn := Tryz.f28) (r := .cell 4 45) (s := .tmp 5) (t := .tmp 6) hf rfl (rv_cellN hf H 1 TF.la45 rfl rfl rfl) (rv_tmp hf rfl) (rv_tmp hf rfl) ?_
   have hN := H.ends (X := [(⟨F2, MP.own F2 [(.slice A5 y2.1.Network.Nodes.length c6)] (y2.1.Network.Nodes : List ByteArray)⟩ : DI), (⟨F3, MP.own F3 [(.slice A6 y2.1.Network.Fibers.length c7)] (y2.1.Network.Fibers : List Fiber)⟩ : DI), (⟨F4, MP.own F4 [(.slice A7 y2.1.Lights.length c8)] (y2.1.Lights : List Light)⟩ : DI)])
   simp only [List.flatMap_cons, List.flatMap_nil, List.append_nil, List.append_assoc] at hN
   exact ⟨_, rfl, H.bel, (F2 ++ (F3 ++ F4)), _, _, _, rfl, ⟨_, Plan_ownmk (x := y2.1) (H.ownAt 0 rfl) (H.ownAt 1 rfl) (H.ownAt 2 rfl), rfl⟩, mk_int, mk_bool, by first | exact hN | simpa using hN⟩

theorem laws_eqActionS_ok {S : Nat → Prop} {v0_ : Value} {v1_ : Value} {a' : List Action} {b' : List Action} {r : Bool} (h0 : VR w0 S v0_ a') (h1 : VR w0 S v1_ b') (hF : laws_eqActionS fu a' b' = some r) :
    Calls Tryz.prog 29 [v0_, v1_].toArray w0 fun e w' => ∃ v, e = .returned v ∧ (Below w0.heap.size w0 w' ∧ VR w' (St ⟨w0, []⟩ S [] [] [] true) v r) := by
 obtain ⟨A, c, rfl, hl⟩ := VR_list h0
 obtain ⟨A2, c2, rfl, hl2⟩ := VR_list h1
 have H := Mem.start ⟨w0, []⟩ S
 have H := H.pushArg (MP.val [(.slice A a'.length c)] a') hl
 have H := H.pushArg (MP.val [(.slice A2 b'.length c2)] b') hl2
 refine en Tryz.func29 fun a hf => ?_
 rw [laws_eqActionS] at hF
 refine sqz (pz 1 hf fun a hf => ?_)
 refine wl_end (then_n (sq (sqz (pz 5 hf fun a hf => ?_))))
 refine wl_end (then_n (ib hF hf (fun hc hF => ?_) fun hc hF => ?_))
 ·refine sqz (pz 1 hf fun a hf => ?_)
  refine wl_end (then_n (wp_ret (then_r (?_))))
  obtain rfl := Option.some.inj hF
  refine ret_1 hf rfl (rv_tmp hf rfl) ?_
  exact ⟨_, rfl, H.bel, mk_bool⟩
 ·refine wp_skip (then_n (sq (sqz (pz 1 hf fun a hf => ?_))))
  refine wl_end (then_n ?_)
  obtain ⟨out', hB1, hF⟩ := bind_some hF
  have hf := hf.pn [0, 1, 5]
  have H := H.lt_ [] [] [] [0, 1]
  refine loopC (fun (s : Int) (a : Act) (w : World) => match s with | i => Fr a 27 [(0, (.slice A a'.length c)), (1, (.slice A2 b'.length c2)), (5, (.int .i64 i))] ∧ Mem ⟨w0, []⟩ S [] [] [] [(false, MP.val [(.slice A2 b'.length c2)] (b' : List Action)), (false, MP.val [(.slice A a'.length c)] (a' : List Action))] w) (fun k (s : Int) => laws_eqActionS_L1 fu a' b' k s = some out') (fun s => out' = Out.next s) 0 fu hB1 ⟨hf, H⟩ (fun s h => by cases h) ?_ ?_
  ·rintro fk i a w hR1 hI
   replace hR1 : laws_eqActionS_L1 fu a' b' (fk + 1) i = some out' := hR1
   rw [laws_eqActionS_L1] at hR1
   obtain ⟨hf, H⟩ := hI
   refine sq (sqz (pz 4 hf fun a hf => ?_))
   refine wl_end (then_n (ib hR1 hf (fun hc2 hR1 => ?_) fun hc2 hR1 => ?_))
   ·refine wp_skip (then_n (sq (wp_block (sq (drawn [] (bs := [false, false, false, false, false, false, false, false, false, false]) (fuel := 10) (Checked.mixed Tryz.checked) rfl rfl fun w hb => ?_)))))
    have H := H.keep hb
    refine zp 0 hf trivial fun a hf => ?_
    refine zp 1 hf trivial fun a hf => ?_
    obtain ⟨e, he, hR1⟩ := bind_some hR1
    obtain ⟨p, o, cs, hx, hr, H⟩ := pre_iaddr H Tryz.underlying67 TF.sz54 1 rfl he
    refine tP 2 rfl rfl rfl rfl hf (by kernel_rfl) (fun _ => trivial) (fun w => rq_iaddrE hf rfl rfl rfl hx w) fun a hf => ?_
    obtain ⟨A3, c3, rfl, hl3⟩ := Action_cells hr
    have H := H.push (false, MP.val [(.slice A3 e.Light.Route.Fibers.length c3)] e.Light.Route.Fibers) hl3
    refine strT (H.let [] [] [] [1] rfl rfl rfl rfl) (fun w H => trivial) fun hS => ?_
    refine tS 3 [] rfl rfl rfl rfl hf (by kernel_rfl) (by kernel_rfl) hS (fun w H => rq_loadIN hf H TF.la54 0 0 rfl rfl rfl rfl) fun a hf => ?_
    refine zp 4 hf hS fun a hf => ?_
    refine zp 5 hf hS fun a hf => ?_
    obtain ⟨e2, he2, hR1⟩ := bind_some hR1
    obtain ⟨p2, o2, cs2, hx2, hr2, H⟩ := pre_iaddr H Tryz.underlying67 TF.sz54 2 rfl he2
    refine tP 6 rfl rfl rfl rfl hf (by kernel_rfl) (fun _ => hS) (fun w => rq_iaddrE hf rfl rfl rfl hx2 w) fun a hf => ?_
    obtain ⟨A4, c4, rfl, hl4⟩ := Action_cells hr2
    have H := H.push (false, MP.val [(.slice A4 e2.Light.Route.Fibers.length c4)] e2.Light.Route.Fibers) hl4
    refine strT (H.let [] [] [] [1, 3] rfl rfl rfl rfl) (fun w H => H.let [] [] [] [1] rfl rfl rfl rfl) fun hS => ?_
    refine tS 7 [] rfl rfl rfl rfl hf (by kernel_rfl) (by kernel_rfl) hS (fun w H => rq_loadIN hf H TF.la54 0 0 rfl rfl rfl rfl) fun a hf => ?_
    obtain ⟨y, hy, hR1⟩ := bind_some hR1
    refine n1 8 (by kernel_rfl) rfl rfl (op_call hf TF.cl18 rfl (by decide) (laws_eqAction_ok (S := TT) (Action_mkv (x := e) (H.rt 2 rfl)) (Action_mkv (x := e2) (H.rt 0 rfl)) hy) fun v w a hp hf => ?_)
    obtain ⟨hb, hp⟩ := hp
    obtain rfl := VR_bool hp
    have H := H.keep hb
    have hS := H.lt_ [] [] [] [1, 3]
    refine ⟨fun _ => hS, ?_⟩
    refine zp 9 hf hS fun a hf => ?_
    refine dn (by kernel_rfl) ?_
    have hf := hf.pn [0, 1, 5, 26]
    refine then_n (ib hR1 hf (fun hc3 hR1 => ?_) fun hc3 hR1 => ?_)
    ·refine sqz (pz 1 hf fun a hf => ?_)
     refine wl_end (then_n (wp_ret (blk_r (then_r (then_r (blk_r (then_r (then_r (?_)))))))))
     obtain rfl := Option.some.inj hR1
     replace hF := on_ret hF
     obtain rfl := Option.some.inj hF
     refine ret_1 hf rfl (rv_tmp hf rfl) ?_
     exact ⟨_, rfl, H.bel, mk_bool⟩
    ·refine wp_skip (blk_n (then_n (reg (pz 3 hf fun a hf => ?_))))
     refine wl_end ?_
     have hf := hf.pn [0, 1, 5]
     have H := H.lt_ [] [] [] [4, 5]
     exact then_n ⟨w64 (i + 1), hR1, hf, H⟩
   ·refine wp_exit (then_x (then_x (blk_e (?_))))
    have hf := hf.pn [0, 1, 5]
    have H := H.lt_ [] [] [] [0, 1]
    exact ⟨i, (Option.some.inj hR1).symm, hf, H⟩
  rintro a w ⟨i2, rfl, hf, H⟩
  replace hF := on_next hF
  refine then_n (sqz (pz 1 hf fun a hf => ?_))
  refine wl_end (then_n (wp_ret (?_)))
  obtain rfl := Option.some.inj hF
  refine ret_1 hf rfl (rv_tmp hf rfl) ?_
  exact ⟨_, rfl, H.bel, mk_bool⟩

theorem laws_markActionS_ok {S : Nat → Prop} {F : List Nat} {cs : List Value} {v1_ : Value} {a' : List Action} {k' : Int} {r : Int × List Action} (hO : GoTy.own w0 F cs a') (hn : F.Nodup) (h1 : VR w0 S v1_ k') (hF : laws_markActionS fu a' k' = some r) :
    Calls Tryz.prog 30 [(bif GoTy.agg (List Action) then .agg cs.toArray else cs.headD undef), v1_].toArray w0 fun e w' => ∃ v, e = .returned v ∧ (Chg w0 w' F ∧ VR w' (fun _ => True) v r.1 ∧ ∃ F', GoTy.own w' F' cs r.2 ∧ Back w0 w' F F') := by
 obtain rfl := VR_int h1
 obtain ⟨A, c, rfl, hO⟩ := own_list hO
 have H := Mem.startG S hO hn
 obtain ⟨Fs, E, H, -⟩ := H.thaw rfl
 refine en Tryz.func30 fun a hf => ?_
 rw [laws_markActionS] at hF
 refine sqz (pz 1 hf fun a hf => ?_)
 refine wl_end (then_n (sq (sqz (pz 1 hf fun a hf => ?_))))
 refine wl_end (then_n ?_)
 obtain ⟨out', hB1, hF⟩ := bind_some hF
 have hf := hf.pn [0, 1, 5]
 have hf : Fr a 64 [(0, (.slice A a'.length c)), (1, (.int .i64 k')), (5, (.int .i64 0))] := by first | exact hf | (simp only [List.length_set] at hf; exact hf)
 have H := H.lt_ [] [true] [] []
 refine loopC (fun (s : List Action × Int × Int) (a : Act) (w : World) => match s with | (a2, k2, i) => ∃ (Fs2 : List (List Nat)), a2.length = a'.length ∧ Fr a 64 [(0, (.slice A a'.length c)), (1, (.int .i64 k2)), (5, (.int .i64 i))] ∧ Mem ⟨w0, F⟩ S [] [⟨.ow Fs2, E, A, c, (a2 : List Action)⟩] [] [] w) (fun k (s : List Action × Int × Int) => laws_markActionS_L1 fu k s.1 s.2.1 s.2.2 = some out') (fun s => out' = s) (a', k', 0) fu hB1 ⟨Fs, rfl, hf, H⟩ (fun s h => by cases h) ?_ ?_
 ·rintro fk ⟨a2, k2, i⟩ a w hR1 hI
  replace hR1 : laws_markActionS_L1 fu (fk + 1) a2 k2 i = some out' := hR1
  rw [laws_markActionS_L1] at hR1
  obtain ⟨Fs2, hlen, hf, H⟩ := hI
  have hf : Fr a 64 [(0, (.slice A a2.length c)), (1, (.int .i64 k2)), (5, (.int .i64 i))] := by rw [hlen]; exact hf
  refine sq (sqz (pz 4 hf fun a hf => ?_))
  refine wl_end (then_n (ib hR1 hf (fun hc hR1 => ?_) fun hc hR1 => ?_))
  ·refine wp_skip (then_n (sq (wp_block (sqz (pz 3 hf fun a hf => ?_)))))
   obtain ⟨e, he, hR1⟩ := bind_some hR1
   refine wl0 rfl (op_iaddrR hf H Tryz.underlying67 TF.sz54 0 rfl rfl rfl he (by decide) fun p o cs a hf hA hr hk => ?_)
   have hrk := hr
   obtain ⟨A2, c2, rfl, hl⟩ := Action_cells hr
   have H := H.push (true, MP.val [(.slice A2 e.Light.Route.Fibers.length c2)] e.Light.Route.Fibers) hl
   refine pz 1 hf fun a hf => ?_
   refine wl0 rfl (op_storeR (e' := ({ Kind := k2, Light := e.Light } : Action)) (o := o) (off := 0) hf H TF.sz3 0 rfl rfl rfl rfl rfl (nle rfl) rfl hA he (st_own fun F cs h => by obtain ⟨A0, c0, F0, rfl, rfl, l0⟩ := Action_own h; exact Action_ownmk (x := ({ Kind := k2, Light := e.Light } : Action)) l0) fun w H => ?_)
   replace hf : Fr a 64 [(0, (.slice A a2.length c)), (1, (.int .i64 k2)), (5, (.int .i64 i)), (12, (.slice A a2.length c)), (13, (.int .i64 i)), (14, (.int .i64 k2)), (15, (.pointer (some ⟨p, o + 0, none⟩))), (16, (.pointer (some ⟨p, o + 0, none⟩)))] := hf.prune [0, 1, 5, 12, 13, 14, 15, 16] rfl
   replace hf : Fr a 64 [(0, (.slice A (a2.set (i : Int).toNat ({ Kind := k2, Light := e.Light } : Action)).length c)), (1, (.int .i64 k2)), (5, (.int .i64 i)), (12, (.slice A (a2.set (i : Int).toNat ({ Kind := k2, Light := e.Light } : Action)).length c)), (13, (.int .i64 i)), (14, (.int .i64 k2)), (15, (.pointer (some ⟨p, o + 0, none⟩))), (16, (.pointer (some ⟨p, o + 0, none⟩)))] := by simpa only [List.length_set, Nat.add_zero] using hf
   refine wr (pz 3 hf fun a hf => ?_)
   refine wr (pz 3 hf fun a hf => ?_)
   obtain ⟨e2, he2, hR1⟩ := bind_some hR1
   refine wl0 rfl (op_iaddrR hf H Tryz.underlying67 TF.sz54 0 rfl rfl rfl he2 (by decide) fun p2 o2 cs2 a hf hA2 hr2 hk2 => ?_)
   have hrk2 := hr2
   obtain ⟨A3, c3, rfl, hl2⟩ := Action_cells hr2
   have H := H.push (true, MP.val [(.slice A3 e2.Light.Route.Fibers.length c3)] e2.Light.Route.Fibers) hl2
   refine pz 2 hf fun a hf => ?_
   refine wl0 rfl (op_storeR (e' := ({ Kind := e2.Kind, Light := ({ Id := w64 (k2 + 1), Route := e2.Light.Route, Block := e2.Light.Block } : Light) } : Action)) (o := o2) (off := 1) hf H TF.sz3 0 rfl rfl rfl rfl rfl (nle rfl) rfl hA2 he2 (st_own fun F cs h => by obtain ⟨A0, c0, F0, rfl, rfl, l0⟩ := Action_own h; exact Action_ownmk (x := ({ Kind := e2.Kind, Light := ({ Id := w64 (k2 + 1), Route := e2.Light.Route, Block := e2.Light.Block } : Light) } : Action)) l0) fun w H => ?_)
   replace hf : Fr a 64 [(0, (.slice A (a2.set (i : Int).toNat ({ Kind := k2, Light := e.Light } : Action)).length c)), (1, (.int .i64 (w64 (k2 + 1)))), (5, (.int .i64 i)), (19, (.slice A (a2.set (i : Int).toNat ({ Kind := k2, Light := e.Light } : Action)).length c)), (20, (.int .i64 i)), (21, (.int .i64 (w64 (k2 + 1)))), (22, (.pointer (some ⟨p2, o2 + 0, none⟩))), (23, (.pointer (some ⟨p2, o2 + 1, none⟩))), (24, (.pointer (some ⟨p2, o2 + 1, none⟩)))] := hf.prune [0, 1, 5, 19, 20, 21, 22, 23, 24] rfl
   replace hf : Fr a 64 [(0, (.slice A ((a2.set (i : Int).toNat ({ Kind := k2, Light := e.Light } : Action)).set (i : Int).toNat ({ Kind := e2.Kind, Light := ({ Id := w64 (k2 + 1), Route := e2.Light.Route, Block := e2.Light.Block } : Light) } : Action)).length c)), (1, (.int .i64 (w64 (k2 + 1)))), (5, (.int .i64 i)), (19, (.slice A ((a2.set (i : Int).toNat ({ Kind := k2, Light := e.Light } : Action)).set (i : Int).toNat ({ Kind := e2.Kind, Light := ({ Id := w64 (k2 + 1), Route := e2.Light.Route, Block := e2.Light.Block } : Light) } : Action)).length c)), (20, (.int .i64 i)), (21, (.int .i64 (w64 (k2 + 1)))), (22, (.pointer (some ⟨p2, o2 + 0, none⟩))), (23, (.pointer (some ⟨p2, o2 + 1, none⟩))), (24, (.pointer (some ⟨p2, o2 + 1, none⟩)))] := by simpa only [List.length_set, Nat.add_zero] using hf
   refine wr (pz 3 hf fun a hf => ?_)
   refine wr (pz 3 hf fun a hf => ?_)
   obtain ⟨e3, he3, hR1⟩ := bind_some hR1
   refine wl0 rfl (op_iaddrR hf H Tryz.underlying67 TF.sz54 0 rfl rfl rfl he3 (by decide) fun p3 o3 cs3 a hf hA3 hr3 hk3 => ?_)
   have hrk3 := hr3
   obtain ⟨A4, c4, rfl, hl3⟩ := Action_cells hr3
   have H := H.push (true, MP.val [(.slice A4 e3.Light.Route.Fibers.length c4)] e3.Light.Route.Fibers) hl3
   refine pz 3 hf fun a hf => ?_
   refine wl0 rfl (op_storeR (e' := ({ Kind := e3.Kind, Light := ({ Id := e3.Light.Id, Route := ({ Start := w64 ((w64 (k2 + 1)) + 1), Fibers := e3.Light.Route.Fibers } : Route), Block := e3.Light.Block } : Light) } : Action)) (o := o3) (off := 2) hf H TF.sz3 0 rfl rfl rfl rfl rfl (nle rfl) rfl hA3 he3 (st_own fun F cs h => by obtain ⟨A0, c0, F0, rfl, rfl, l0⟩ := Action_own h; exact Action_ownmk (x := ({ Kind := e3.Kind, Light := ({ Id := e3.Light.Id, Route := ({ Start := w64 ((w64 (k2 + 1)) + 1), Fibers := e3.Light.Route.Fibers } : Route), Block := e3.Light.Block } : Light) } : Action)) l0) fun w H => ?_)
   replace hf : Fr a 64 [(0, (.slice A ((a2.set (i : Int).toNat ({ Kind := k2, Light := e.Light } : Action)).set (i : Int).toNat ({ Kind := e2.Kind, Light := ({ Id := w64 (k2 + 1), Route := e2.Light.Route, Block := e2.Light.Block } : Light) } : Action)).length c)), (1, (.int .i64 (w64 ((w64 (k2 + 1)) + 1)))), (5, (.int .i64 i)), (27, (.slice A ((a2.set (i : Int).toNat ({ Kind := k2, Light := e.Light } : Action)).set (i : Int).toNat ({ Kind := e2.Kind, Light := ({ Id := w64 (k2 + 1), Route := e2.Light.Route, Block := e2.Light.Block } : Light) } : Action)).length c)), (28, (.int .i64 i)), (29, (.int .i64 (w64 ((w64 (k2 + 1)) + 1)))), (30, (.pointer (some ⟨p3, o3 + 0, none⟩))), (31, (.pointer (some ⟨p3, o3 + 1, none⟩))), (32, (.pointer (some ⟨p3, o3 + 2, none⟩))), (33, (.pointer (some ⟨p3, o3 + 2, none⟩)))] := hf.prune [0, 1, 5, 27, 28, 29, 30, 31, 32, 33] rfl
   replace hf : Fr a 64 [(0, (.slice A (((a2.set (i : Int).toNat ({ Kind := k2, Light := e.Light } : Action)).set (i : Int).toNat ({ Kind := e2.Kind, Light := ({ Id := w64 (k2 + 1), Route := e2.Light.Route, Block := e2.Light.Block } : Light) } : Action)).set (i : Int).toNat ({ Kind := e3.Kind, Light := ({ Id := e3.Light.Id, Route := ({ Start := w64 ((w64 (k2 + 1)) + 1), Fibers := e3.Light.Route.Fibers } : Route), Block := e3.Light.Block } : Light) } : Action)).length c)), (1, (.int .i64 (w64 ((w64 (k2 + 1)) + 1)))), (5, (.int .i64 i)), (27, (.slice A (((a2.set (i : Int).toNat ({ Kind := k2, Light := e.Light } : Action)).set (i : Int).toNat ({ Kind := e2.Kind, Light := ({ Id := w64 (k2 + 1), Route := e2.Light.Route, Block := e2.Light.Block } : Light) } : Action)).set (i : Int).toNat ({ Kind := e3.Kind, Light := ({ Id := e3.Light.Id, Route := ({ Start := w64 ((w64 (k2 + 1)) + 1), Fibers := e3.Light.Route.Fibers } : Route), Block := e3.Light.Block } : Light) } : Action)).length c)), (28, (.int .i64 i)), (29, (.int .i64 (w64 ((w64 (k2 + 1)) + 1)))), (30, (.pointer (some ⟨p3, o3 + 0, none⟩))), (31, (.pointer (some ⟨p3, o3 + 1, none⟩))), (32, (.pointer (some ⟨p3, o3 + 2, none⟩))), (33, (.pointer (some ⟨p3, o3 + 2, none⟩)))] := by simpa only [List.length_set, Nat.add_zero] using hf
   refine wr (pz 3 hf fun a hf => ?_)
   refine wr (pz 2 hf fun a hf => ?_)
   obtain ⟨e4, he4, hR1⟩ := bind_some hR1
   refine wl0 rfl (op_iaddrR hf H Tryz.underlying67 TF.sz54 0 rfl rfl rfl he4 (by decide) fun p4 o4 cs4 a hf hA4 hr4 hk4 => ?_)
   have hrk4 := hr4
   obtain ⟨A5, c5, rfl, hl4⟩ := Action_cells hr4
   have H := H.push (true, MP.val [(.slice A5 e4.Light.Route.Fibers.length c5)] e4.Light.Route.Fibers) hl4
   refine pz 3 hf fun a hf => ?_
   refine oq hf (rq_load1 hf TF.ls29 rfl (hk4 3 _ rfl)) fun a hf => ?_
   refine pz 1 hf fun a hf => ?_
   obtain ⟨y, hy, hR1⟩ := bind_some hR1
   obtain ⟨F2, hO, hNd, hnx⟩ := H.mutEl rfl he4 hA4 hrk4 hk4 Action_lens_Light_Route_Fibers rfl
   refine oc hf TF.cl84 (laws_markIntS_ok (S := TT) (cs := [(.slice A5 e4.Light.Route.Fibers.length c5)]) hO hNd mk_int hy) fun v w a hp hf => ?_
   obtain ⟨hch, hv, F3, ho, hbk⟩ := hp
   obtain rfl := VR_int hv
   obtain ⟨Fs3, H⟩ := hnx _ _ _ hch ho hbk
   replace hf : Fr a 64 [(0, (.slice A (((a2.set (i : Int).toNat ({ Kind := k2, Light := e.Light } : Action)).set (i : Int).toNat ({ Kind := e2.Kind, Light := ({ Id := w64 (k2 + 1), Route := e2.Light.Route, Block := e2.Light.Block } : Light) } : Action)).set (i : Int).toNat ({ Kind := e3.Kind, Light := ({ Id := e3.Light.Id, Route := ({ Start := w64 ((w64 (k2 + 1)) + 1), Fibers := e3.Light.Route.Fibers } : Route), Block := e3.Light.Block } : Light) } : Action)).length c)), (1, (.int .i64 (w64 ((w64 ((w64 (k2 + 1)) + 1)) + 1)))), (5, (.int .i64 i)), (36, (.slice A (((a2.set (i : Int).toNat ({ Kind := k2, Light := e.Light } : Action)).set (i : Int).toNat ({ Kind := e2.Kind, Light := ({ Id := w64 (k2 + 1), Route := e2.Light.Route, Block := e2.Light.Block } : Light) } : Action)).set (i : Int).toNat ({ Kind := e3.Kind, Light := ({ Id := e3.Light.Id, Route := ({ Start := w64 ((w64 (k2 + 1)) + 1), Fibers := e3.Light.Route.Fibers } : Route), Block := e3.Light.Block } : Light) } : Action)).length c)), (37, (.int .i64 i)), (38, (.pointer (some ⟨p4, o4 + 0, none⟩))), (39, (.pointer (some ⟨p4, o4 + 1, none⟩))), (40, (.pointer (some ⟨p4, o4 + 2, none⟩))), (41, (.pointer (some ⟨p4, o4 + 3, none⟩))), (42, (.slice A5 e4.Light.Route.Fibers.length c5)), (43, (.int .i64 (w64 ((w64 ((w64 (k2 + 1)) + 1)) + 1)))), (44, (.int .i64 y.1))] := hf.prune [0, 1, 5, 36, 37, 38, 39, 40, 41, 42, 43, 44] rfl
   replace hf : Fr a 64 [(0, (.slice A ((((a2.set (i : Int).toNat ({ Kind := k2, Light := e.Light } : Action)).set (i : Int).toNat ({ Kind := e2.Kind, Light := ({ Id := w64 (k2 + 1), Route := e2.Light.Route, Block := e2.Light.Block } : Light) } : Action)).set (i : Int).toNat ({ Kind := e3.Kind, Light := ({ Id := e3.Light.Id, Route := ({ Start := w64 ((w64 (k2 + 1)) + 1), Fibers := e3.Light.Route.Fibers } : Route), Block := e3.Light.Block } : Light) } : Action)).set (i : Int).toNat ({ e4 with Light := { e4.Light with Route := { e4.Light.Route with Fibers := y.2 } } })).length c)), (1, (.int .i64 (w64 ((w64 ((w64 (k2 + 1)) + 1)) + 1)))), (5, (.int .i64 i)), (36, (.slice A ((((a2.set (i : Int).toNat ({ Kind := k2, Light := e.Light } : Action)).set (i : Int).toNat ({ Kind := e2.Kind, Light := ({ Id := w64 (k2 + 1), Route := e2.Light.Route, Block := e2.Light.Block } : Light) } : Action)).set (i : Int).toNat ({ Kind := e3.Kind, Light := ({ Id := e3.Light.Id, Route := ({ Start := w64 ((w64 (k2 + 1)) + 1), Fibers := e3.Light.Route.Fibers } : Route), Block := e3.Light.Block } : Light) } : Action)).set (i : Int).toNat ({ e4 with Light := { e4.Light with Route := { e4.Light.Route with Fibers := y.2 } } })).length c)), (37, (.int .i64 i)), (38, (.pointer (some ⟨p4, o4 + 0, none⟩))), (39, (.pointer (some ⟨p4, o4 + 1, none⟩))), (40, (.pointer (some ⟨p4, o4 + 2, none⟩))), (41, (.pointer (some ⟨p4, o4 + 3, none⟩))), (42, (.slice A5 e4.Light.Route.Fibers.length c5)), (43, (.int .i64 (w64 ((w64 ((w64 (k2 + 1)) + 1)) + 1)))), (44, (.int .i64 y.1))] := by simpa only [List.length_set, Nat.add_zero] using hf
   refine pz 1 hf fun a hf => ?_
   refine wr (pz 3 hf fun a hf => ?_)
   obtain ⟨e5, he5, hR1⟩ := bind_some hR1
   refine wl0 rfl (op_iaddrR hf H Tryz.underlying67 TF.sz54 0 rfl rfl rfl he5 (by decide) fun p5 o5 cs5 a hf hA5 hr5 hk5 => ?_)
   have hrk5 := hr5
   obtain ⟨A6, c6, rfl, hl5⟩ := Action_cells hr5
   have H := H.push (true, MP.val [(.slice A6 e5.Light.Route.Fibers.length c6)] e5.Light.Route.Fibers) hl5
   refine pz 3 hf fun a hf => ?_
   refine wl0 rfl (op_storeR (e' := ({ Kind := e5.Kind, Light := ({ Id := e5.Light.Id, Route := e5.Light.Route, Block := ({ First := y.1, Count := e5.Light.Block.Count } : Block) } : Light) } : Action)) (o := o5) (off := 4) hf H TF.sz3 0 rfl rfl rfl rfl rfl (nle rfl) rfl hA5 he5 (st_own fun F cs h => by obtain ⟨A0, c0, F0, rfl, rfl, l0⟩ := Action_own h; exact Action_ownmk (x := ({ Kind := e5.Kind, Light := ({ Id := e5.Light.Id, Route := e5.Light.Route, Block := ({ First := y.1, Count := e5.Light.Block.Count } : Block) } : Light) } : Action)) l0) fun w H => ?_)
   replace hf : Fr a 64 [(0, (.slice A ((((a2.set (i : Int).toNat ({ Kind := k2, Light := e.Light } : Action)).set (i : Int).toNat ({ Kind := e2.Kind, Light := ({ Id := w64 (k2 + 1), Route := e2.Light.Route, Block := e2.Light.Block } : Light) } : Action)).set (i : Int).toNat ({ Kind := e3.Kind, Light := ({ Id := e3.Light.Id, Route := ({ Start := w64 ((w64 (k2 + 1)) + 1), Fibers := e3.Light.Route.Fibers } : Route), Block := e3.Light.Block } : Light) } : Action)).set (i : Int).toNat ({ e4 with Light := { e4.Light with Route := { e4.Light.Route with Fibers := y.2 } } })).length c)), (1, (.int .i64 y.1)), (5, (.int .i64 i)), (45, (.slice A ((((a2.set (i : Int).toNat ({ Kind := k2, Light := e.Light } : Action)).set (i : Int).toNat ({ Kind := e2.Kind, Light := ({ Id := w64 (k2 + 1), Route := e2.Light.Route, Block := e2.Light.Block } : Light) } : Action)).set (i : Int).toNat ({ Kind := e3.Kind, Light := ({ Id := e3.Light.Id, Route := ({ Start := w64 ((w64 (k2 + 1)) + 1), Fibers := e3.Light.Route.Fibers } : Route), Block := e3.Light.Block } : Light) } : Action)).set (i : Int).toNat ({ e4 with Light := { e4.Light with Route := { e4.Light.Route with Fibers := y.2 } } })).length c)), (46, (.int .i64 i)), (47, (.int .i64 y.1)), (48, (.pointer (some ⟨p5, o5 + 0, none⟩))), (49, (.pointer (some ⟨p5, o5 + 1, none⟩))), (50, (.pointer (some ⟨p5, o5 + 4, none⟩))), (51, (.pointer (some ⟨p5, o5 + 4, none⟩)))] := hf.prune [0, 1, 5, 45, 46, 47, 48, 49, 50, 51] rfl
   replace hf : Fr a 64 [(0, (.slice A (((((a2.set (i : Int).toNat ({ Kind := k2, Light := e.Light } : Action)).set (i : Int).toNat ({ Kind := e2.Kind, Light := ({ Id := w64 (k2 + 1), Route := e2.Light.Route, Block := e2.Light.Block } : Light) } : Action)).set (i : Int).toNat ({ Kind := e3.Kind, Light := ({ Id := e3.Light.Id, Route := ({ Start := w64 ((w64 (k2 + 1)) + 1), Fibers := e3.Light.Route.Fibers } : Route), Block := e3.Light.Block } : Light) } : Action)).set (i : Int).toNat ({ e4 with Light := { e4.Light with Route := { e4.Light.Route with Fibers := y.2 } } })).set (i : Int).toNat ({ Kind := e5.Kind, Light := ({ Id := e5.Light.Id, Route := e5.Light.Route, Block := ({ First := y.1, Count := e5.Light.Block.Count } : Block) } : Light) } : Action)).length c)), (1, (.int .i64 y.1)), (5, (.int .i64 i)), (45, (.slice A (((((a2.set (i : Int).toNat ({ Kind := k2, Light := e.Light } : Action)).set (i : Int).toNat ({ Kind := e2.Kind, Light := ({ Id := w64 (k2 + 1), Route := e2.Light.Route, Block := e2.Light.Block } : Light) } : Action)).set (i : Int).toNat ({ Kind := e3.Kind, Light := ({ Id := e3.Light.Id, Route := ({ Start := w64 ((w64 (k2 + 1)) + 1), Fibers := e3.Light.Route.Fibers } : Route), Block := e3.Light.Block } : Light) } : Action)).set (i : Int).toNat ({ e4 with Light := { e4.Light with Route := { e4.Light.Route with Fibers := y.2 } } })).set (i : Int).toNat ({ Kind := e5.Kind, Light := ({ Id := e5.Light.Id, Route := e5.Light.Route, Block := ({ First := y.1, Count := e5.Light.Block.Count } : Block) } : Light) } : Action)).length c)), (46, (.int .i64 i)), (47, (.int .i64 y.1)), (48, (.pointer (some ⟨p5, o5 + 0, none⟩))), (49, (.pointer (some ⟨p5, o5 + 1, none⟩))), (50, (.pointer (some ⟨p5, o5 + 4, none⟩))), (51, (.pointer (some ⟨p5, o5 + 4, none⟩)))] := by simpa only [List.length_set, Nat.add_zero] using hf
   refine wr (pz 3 hf fun a hf => ?_)
   refine wr (pz 3 hf fun a hf => ?_)
   obtain ⟨e6, he6, hR1⟩ := bind_some hR1
   refine wl0 rfl (op_iaddrR hf H Tryz.underlying67 TF.sz54 0 rfl rfl rfl he6 (by decide) fun p6 o6 cs6 a hf hA6 hr6 hk6 => ?_)
   have hrk6 := hr6
   obtain ⟨A7, c7, rfl, hl6⟩ := Action_cells hr6
   have H := H.push (true, MP.val [(.slice A7 e6.Light.Route.Fibers.length c7)] e6.Light.Route.Fibers) hl6
   refine pz 3 hf fun a hf => ?_
   refine wl0 rfl (op_storeR (e' := ({ Kind := e6.Kind, Light := ({ Id := e6.Light.Id, Route := e6.Light.Route, Block := ({ First := e6.Light.Block.First, Count := w64 (y.1 + 1) } : Block) } : Light) } : Action)) (o := o6) (off := 5) hf H TF.sz3 0 rfl rfl rfl rfl rfl (nle rfl) rfl hA6 he6 (st_own fun F cs h => by obtain ⟨A0, c0, F0, rfl, rfl, l0⟩ := Action_own h; exact Action_ownmk (x := ({ Kind := e6.Kind, Light := ({ Id := e6.Light.Id, Route := e6.Light.Route, Block := ({ First := e6.Light.Block.First, Count := w64 (y.1 + 1) } : Block) } : Light) } : Action)) l0) fun w H => ?_)
   replace hf : Fr a 64 [(0, (.slice A (((((a2.set (i : Int).toNat ({ Kind := k2, Light := e.Light } : Action)).set (i : Int).toNat ({ Kind := e2.Kind, Light := ({ Id := w64 (k2 + 1), Route := e2.Light.Route, Block := e2.Light.Block } : Light) } : Action)).set (i : Int).toNat ({ Kind := e3.Kind, Light := ({ Id := e3.Light.Id, Route := ({ Start := w64 ((w64 (k2 + 1)) + 1), Fibers := e3.Light.Route.Fibers } : Route), Block := e3.Light.Block } : Light) } : Action)).set (i : Int).toNat ({ e4 with Light := { e4.Light with Route := { e4.Light.Route with Fibers := y.2 } } })).set (i : Int).toNat ({ Kind := e5.Kind, Light := ({ Id := e5.Light.Id, Route := e5.Light.Route, Block := ({ First := y.1, Count := e5.Light.Block.Count } : Block) } : Light) } : Action)).length c)), (1, (.int .i64 (w64 (y.1 + 1)))), (5, (.int .i64 i)), (54, (.slice A (((((a2.set (i : Int).toNat ({ Kind := k2, Light := e.Light } : Action)).set (i : Int).toNat ({ Kind := e2.Kind, Light := ({ Id := w64 (k2 + 1), Route := e2.Light.Route, Block := e2.Light.Block } : Light) } : Action)).set (i : Int).toNat ({ Kind := e3.Kind, Light := ({ Id := e3.Light.Id, Route := ({ Start := w64 ((w64 (k2 + 1)) + 1), Fibers := e3.Light.Route.Fibers } : Route), Block := e3.Light.Block } : Light) } : Action)).set (i : Int).toNat ({ e4 with Light := { e4.Light with Route := { e4.Light.Route with Fibers := y.2 } } })).set (i : Int).toNat ({ Kind := e5.Kind, Light := ({ Id := e5.Light.Id, Route := e5.Light.Route, Block := ({ First := y.1, Count := e5.Light.Block.Count } : Block) } : Light) } : Action)).length c)), (55, (.int .i64 i)), (56, (.int .i64 (w64 (y.1 + 1)))), (57, (.pointer (some ⟨p6, o6 + 0, none⟩))), (58, (.pointer (some ⟨p6, o6 + 1, none⟩))), (59, (.pointer (some ⟨p6, o6 + 4, none⟩))), (60, (.pointer (some ⟨p6, o6 + 5, none⟩)))] := hf.prune [0, 1, 5, 54, 55, 56, 57, 58, 59, 60] rfl
   replace hf : Fr a 64 [(0, (.slice A ((((((a2.set (i : Int).toNat ({ Kind := k2, Light := e.Light } : Action)).set (i : Int).toNat ({ Kind := e2.Kind, Light := ({ Id := w64 (k2 + 1), Route := e2.Light.Route, Block := e2.Light.Block } : Light) } : Action)).set (i : Int).toNat ({ Kind := e3.Kind, Light := ({ Id := e3.Light.Id, Route := ({ Start := w64 ((w64 (k2 + 1)) + 1), Fibers := e3.Light.Route.Fibers } : Route), Block := e3.Light.Block } : Light) } : Action)).set (i : Int).toNat ({ e4 with Light := { e4.Light with Route := { e4.Light.Route with Fibers := y.2 } } })).set (i : Int).toNat ({ Kind := e5.Kind, Light := ({ Id := e5.Light.Id, Route := e5.Light.Route, Block := ({ First := y.1, Count := e5.Light.Block.Count } : Block) } : Light) } : Action)).set (i : Int).toNat ({ Kind := e6.Kind, Light := ({ Id := e6.Light.Id, Route := e6.Light.Route, Block := ({ First := e6.Light.Block.First, Count := w64 (y.1 + 1) } : Block) } : Light) } : Action)).length c)), (1, (.int .i64 (w64 (y.1 + 1)))), (5, (.int .i64 i)), (54, (.slice A ((((((a2.set (i : Int).toNat ({ Kind := k2, Light := e.Light } : Action)).set (i : Int).toNat ({ Kind := e2.Kind, Light := ({ Id := w64 (k2 + 1), Route := e2.Light.Route, Block := e2.Light.Block } : Light) } : Action)).set (i : Int).toNat ({ Kind := e3.Kind, Light := ({ Id := e3.Light.Id, Route := ({ Start := w64 ((w64 (k2 + 1)) + 1), Fibers := e3.Light.Route.Fibers } : Route), Block := e3.Light.Block } : Light) } : Action)).set (i : Int).toNat ({ e4 with Light := { e4.Light with Route := { e4.Light.Route with Fibers := y.2 } } })).set (i : Int).toNat ({ Kind := e5.Kind, Light := ({ Id := e5.Light.Id, Route := e5.Light.Route, Block := ({ First := y.1, Count := e5.Light.Block.Count } : Block) } : Light) } : Action)).set (i : Int).toNat ({ Kind := e6.Kind, Light := ({ Id := e6.Light.Id, Route := e6.Light.Route, Block := ({ First := e6.Light.Block.First, Count := w64 (y.1 + 1) } : Block) } : Light) } : Action)).length c)), (55, (.int .i64 i)), (56, (.int .i64 (w64 (y.1 + 1)))), (57, (.pointer (some ⟨p6, o6 + 0, none⟩))), (58, (.pointer (some ⟨p6, o6 + 1, none⟩))), (59, (.pointer (some ⟨p6, o6 + 4, none⟩))), (60, (.pointer (some ⟨p6, o6 + 5, none⟩)))] := by simpa only [List.length_set, Nat.add_zero] using hf
   refine wl_end (then_n (reg (pz 3 hf fun a hf => ?_)))
   refine wl_end (blk_n (then_n (reg (pz 3 hf fun a hf => ?_))))
   refine wl_end ?_
   have hf := hf.pn [0, 1, 5]
   have hf : Fr a 64 [(0, (.slice A a'.length c)), (1, (.int .i64 (w64 ((w64 (y.1 + 1)) + 1)))), (5, (.int .i64 (w64 (i + 1))))] := by first | exact hf | (simp only [List.length_set, hlen] at hf; exact hf)
   have H := H.lt_ [] [true] [] []
   exact then_n ⟨((((((a2.set (i : Int).toNat ({ Kind := k2, Light := e.Light } : Action)).set (i : Int).toNat ({ Kind := e2.Kind, Light := ({ Id := w64 (k2 + 1), Route := e2.Light.Route, Block := e2.Light.Block } : Light) } : Action)).set (i : Int).toNat ({ Kind := e3.Kind, Light := ({ Id := e3.Light.Id, Route := ({ Start := w64 ((w64 (k2 + 1)) + 1), Fibers := e3.Light.Route.Fibers } : Route), Block := e3.Light.Block } : Light) } : Action)).set (i : Int).toNat ({ e4 with Light := { e4.Light with Route := { e4.Light.Route with Fibers := y.2 } } })).set (i : Int).toNat ({ Kind := e5.Kind, Light := ({ Id := e5.Light.Id, Route := e5.Light.Route, Block := ({ First := y.1, Count := e5.Light.Block.Count } : Block) } : Light) } : Action)).set (i : Int).toNat ({ Kind := e6.Kind, Light := ({ Id := e6.Light.Id, Route := e6.Light.Route, Block := ({ First := e6.Light.Block.First, Count := w64 (y.1 + 1) } : Block) } : Light) } : Action), w64 ((w64 (y.1 + 1)) + 1), w64 (i + 1)), hR1, Fs3, (by simp only [List.length_set, hlen]), hf, H⟩
  ·refine wp_exit (then_x (then_x (blk_e (?_))))
   have hf := hf.pn [0, 1, 5]
   have hf : Fr a 64 [(0, (.slice A a'.length c)), (1, (.int .i64 k2)), (5, (.int .i64 i))] := by first | exact hf | (simp only [List.length_set, hlen] at hf; exact hf)
   have H := H.lt_ [] [true] [] []
   exact ⟨(a2, k2, i), (Option.some.inj hR1).symm, Fs2, (by simp only [List.length_set, hlen]), hf, H⟩
 rintro a w ⟨⟨a3, k3, i2⟩, rfl, Fs4, hlen, hf, H⟩
 try dsimp only at hlen
 have hf : Fr a 64 [(0, (.slice A a3.length c)), (1, (.int .i64 k3)), (5, (.int .i64 i2))] := by rw [hlen]; exact hf
 try dsimp only at hF
 refine then_n (sqz (pz 2 hf fun a hf => ?_))
 refine wl_end (then_n (wp_ret (?_)))
 obtain ⟨F', H⟩ := H.freezeOwn 0 rfl
 rw [hlen] at H
 obtain rfl := Option.some.inj hF
 refine ret_1 hf rfl (rv_tmp hf rfl) ?_
 exact ⟨_, rfl, H.chg, mk_int, _, H.ownAt 0 rfl, H.back⟩
end AT

