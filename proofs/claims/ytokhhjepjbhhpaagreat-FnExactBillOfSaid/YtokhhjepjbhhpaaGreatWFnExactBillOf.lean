/- The Go functions do what is told of them, by program (gen.py). -/
import Derived.Test.YtokhhjepjbhhpaaGreatWFnExactBillOf0
set_option linter.unusedVariables false
set_option linter.unusedSimpArgs false
set_option maxRecDepth 100000
namespace AT
open Go Go.RowKit Go.Proofs

/- loop.example/g00897/impl.BillOf -/
set_option maxHeartbeats 1000000 in
theorem impl_BillOf_ok {fu : Nat} {w0 : World} {S : Nat → Prop} {v0_ : Value} {v1_ : Value} {v2_ : Value} {p : Plan} {reach : Int} {spacing : Int} {r : List Item × Bool} (h0 : VR w0 S v0_ p) (h1 : VR w0 S v1_ reach) (h2 : VR w0 S v2_ spacing) (hF : impl_BillOf fu p reach spacing = some r) :
    Calls Tryz.prog 34 [v0_, v1_, v2_].toArray w0 fun e w' => ∃ v, e = .returned v ∧ (Below w0.heap.size w0 w' ∧ ∃ F0, ∃ u0 u1, v = .tuple #[u0, u1] ∧ VO w' F0 u0 r.1 ∧ VR w' (St ⟨w0, []⟩ S [] [] [] true) u1 r.2 ∧ New w0 w' F0) := by
 obtain ⟨A, c, A2, c2, A3, c3, rfl, hl, hl2, hl3⟩ := Plan_open h0
 obtain rfl := VR_int h1
 obtain rfl := VR_int h2
 have H := Mem.start ⟨w0, []⟩ S
 have H := H.pushArg (MP.val [(.slice A p.Network.Nodes.length c)] p.Network.Nodes) hl
 have H := H.pushArg (MP.val [(.slice A2 p.Network.Fibers.length c2)] p.Network.Fibers) hl2
 have H := H.pushArg (MP.val [(.slice A3 p.Lights.length c3)] p.Lights) hl3
 refine enter Tryz.func34 rfl rfl (nle rfl) rfl fun a hf => ?_
 rw [impl_BillOf] at hF
 refine sq (reg (wl0 rfl (op_box hf H rfl rfl (by decide) fun b' a w hf H => ?_)))
 refine pr 2 hf rfl rfl fun a hf => ?_
 refine wl_end (then_n (sq (sq ?_)))
 obtain ⟨c4, hGc4, hF⟩ := bind_some hF
 have fh := hf.prune [1, 2, 3] rfl
 have Hm := H.let [true] [] [] [0, 1, 2] rfl rfl rfl rfl
 refine midF 30 (.bool c4) fh Hm ?_ fun a w hf H => ?_
 ·refine reg (wl0 rfl (op_q hf (rq_loadBN hf H TF.la37 0 rfl rfl rfl rfl) rfl (by decide) fun a hf => ?_))
  obtain ⟨y, hy, hGc4⟩ := bind_some hGc4
  refine wl0 rfl (op_call hf TF.cl72 rfl (by decide) (impl_IsValidPlan_ok (S := fun _ => True) (Plan_mkv (x := p) (rep_true (α := List ByteArray) (H.get 2 rfl)) (rep_true (α := List Fiber) (H.get 1 rfl)) (rep_true (α := List Light) (H.get 0 rfl))) hy) fun v w a hp hf => ?_)
  obtain ⟨hb, hp⟩ := hp
  obtain rfl := VR_bool hp
  have H := H.keep hb
  refine pr 2 hf rfl rfl fun a hf => ?_
  refine iteB hGc4 (fun hc hGc4 => ?_) fun hc hGc4 => ?_
  ·have hf := hf.lit 21 rfl hc
   refine pr 9 hf rfl rfl fun a hf => ?_
   obtain rfl := Option.some.inj hGc4
   have hf := hf.prune [30, 1, 2, 3] rfl
   have H := H.let [true] [] [] [0, 1, 2] rfl rfl rfl rfl
   exact wl_end ⟨hf, H⟩
  ·have hf := hf.lit 21 rfl hc
   refine pr 1 hf rfl rfl fun a hf => ?_
   obtain ⟨y2, hy2, hGc4⟩ := bind_some hGc4
   refine wlg hf rfl rfl rfl (op_call hf TF.cl85 rfl (by decide) (impl_within_ok (S := fun _ => True) mk_int mk_int mk_int hy2) fun v2 w a hp2 hf => ?_)
   obtain ⟨hb2, hp2⟩ := hp2
   obtain rfl := VR_bool hp2
   have H := H.keep hb2
   refine pr 3 hf rfl rfl fun a hf => ?_
   refine iteB hGc4 (fun hc2 hGc4 => ?_) fun hc2 hGc4 => ?_
   ·have hf := hf.lit 26 rfl hc2
    refine pr 4 hf rfl rfl fun a hf => ?_
    obtain rfl := Option.some.inj hGc4
    have hf := hf.prune [30, 1, 2, 3] rfl
    have H := H.let [true] [] [] [0, 1, 2] rfl rfl rfl rfl
    exact wl_end ⟨hf, H⟩
   ·have hf := hf.lit 26 rfl hc2
    refine pr 1 hf rfl rfl fun a hf => ?_
    obtain ⟨y3, hy3, hGc4⟩ := bind_some hGc4
    refine wlg hf rfl rfl rfl (op_call hf TF.cl85 rfl (by decide) (impl_within_ok (S := fun _ => True) mk_int mk_int mk_int hy3) fun v3 w a hp3 hf => ?_)
    obtain ⟨hb3, hp3⟩ := hp3
    obtain rfl := VR_bool hp3
    have H := H.keep hb3
    refine pr 2 hf rfl rfl fun a hf => ?_
    obtain rfl := Option.some.inj hGc4
    have hf := hf.prune [30, 1, 2, 3] rfl
    have H := H.let [true] [] [] [0, 1, 2] rfl rfl rfl rfl
    exact wl_end ⟨hf, H⟩
 refine then_n (iteB hF (fun hc3 hF => cd_t hf rfl hc3 ?_) fun hc3 hF => cd_f hf rfl hc3 ?_)
 ·refine sq (reg (pr 2 hf rfl rfl fun a hf => ?_))
  refine wl_end (then_n (wp_ret (then_r (?_))))
  have H := H.ownNil (Item)
  have H := H.lend 0 rfl
  obtain rfl := Option.some.inj hF
  refine ret_2 (fn := Tryz.f34) (r := .tmp 6) (s := .tmp 7) hf rfl (rv_tmp hf rfl) (rv_tmp hf rfl) ?_
  have hN := H.ends (X := [(⟨[], MP.own [] [(.slice none 0 0)] ([] : List Item)⟩ : DI)])
  simp only [List.flatMap_cons, List.flatMap_nil, List.append_nil, List.append_assoc] at hN
  exact ⟨_, rfl, H.bel, [], _, _, rfl, (mko_list (H.ownAt 0 rfl)), mk_bool, by first | exact hN | simpa using hN⟩
 ·refine wp_skip (then_n (sq (reg (wl0 rfl (op_q hf (rq_build hf (cs := [(.int .i64 0), (.int .i64 0), (.int .i64 0), (.int .i64 0), (.int .i64 0), (.int .i64 0), (.int .i64 0), (.int .i64 0), (.int .i64 0), (.int .i64 0), (.int .i64 0), (.int .i64 0), (.int .i64 0), (.int .i64 0), (.int .i64 0), (.int .i64 0), (.int .i64 0), (.int .i64 0), (.int .i64 0), (.int .i64 0), (.int .i64 0), (.int .i64 0), (.int .i64 0), (.int .i64 0), (.int .i64 0), (.int .i64 0), (.int .i64 0), (.int .i64 0), (.int .i64 0), (.int .i64 0), (.int .i64 0), (.int .i64 0), (.int .i64 0), (.int .i64 0), (.int .i64 0), (.int .i64 0), (.int .i64 0), (.int .i64 0), (.int .i64 0), (.int .i64 0)]) rfl (fun w => by kernel_rfl)) rfl (by decide) fun a hf => ?_)))))
  refine wl0 rfl (op_box hf H rfl rfl (by decide) fun b2 a w hf H => ?_)
  have H : Mem ⟨w0, []⟩ S [⟨b2, 125, (⟨[0, 0, 0, 0, 0, 0, 0, 0, 0, 0, 0, 0, 0, 0, 0, 0, 0, 0, 0, 0, 0, 0, 0, 0, 0, 0, 0, 0, 0, 0, 0, 0, 0, 0, 0, 0, 0, 0, 0, 0], rfl⟩ : IA 40).cells⟩, ⟨b', 37, [(.slice A p.Network.Nodes.length c), (.slice A2 p.Network.Fibers.length c2), (.slice A3 p.Lights.length c3)]⟩] [] [] [(false, MP.val [(.slice A3 p.Lights.length c3)] (p.Lights : List Light)), (false, MP.val [(.slice A2 p.Network.Fibers.length c2)] (p.Network.Fibers : List Fiber)), (false, MP.val [(.slice A p.Network.Nodes.length c)] (p.Network.Nodes : List ByteArray))] w := H
  refine pr 1 hf rfl rfl fun a hf => ?_
  refine wl_end (then_n (sq (sq (reg (pr 1 hf rfl rfl fun a hf => ?_)))))
  refine wl0 rfl (op_q hf (rq_loadB hf H TF.ls35 1 rfl rfl rfl) rfl (by decide) fun a hf => ?_)
  refine pr 2 hf rfl rfl fun a hf => ?_
  refine wl_end (then_n ?_)
  obtain ⟨out', hB1, hF⟩ := bind_some hF
  have hf := hf.prune [1, 2, 3, 8, 34, 35, 36] rfl
  have H := H.let [true, true] [] [] [0, 1, 2] rfl rfl rfl rfl
  refine loopC (fun (s : Int × IA 40) (a : Act) (w : World) => match s with | (i, m) => Fr a 157 [(1, (.int .i64 reach)), (2, (.int .i64 spacing)), (3, (.pointer (some ⟨b', 0, none⟩))), (8, (.pointer (some ⟨b2, 0, none⟩))), (34, (.slice A3 p.Lights.length c3)), (35, (.int .i64 (p.Lights.length : Int))), (36, (.int .i64 i))] ∧ Mem ⟨w0, []⟩ S [⟨b2, 125, m.cells⟩, ⟨b', 37, [(.slice A p.Network.Nodes.length c), (.slice A2 p.Network.Fibers.length c2), (.slice A3 p.Lights.length c3)]⟩] [] [] [(false, MP.val [(.slice A3 p.Lights.length c3)] (p.Lights : List Light)), (false, MP.val [(.slice A2 p.Network.Fibers.length c2)] (p.Network.Fibers : List Fiber)), (false, MP.val [(.slice A p.Network.Nodes.length c)] (p.Network.Nodes : List ByteArray))] w) (fun k (s : Int × IA 40) => impl_BillOf_L1 fu p reach k s.1 s.2 = some out') (fun s => out' = Out.next s) (0, (⟨[0, 0, 0, 0, 0, 0, 0, 0, 0, 0, 0, 0, 0, 0, 0, 0, 0, 0, 0, 0, 0, 0, 0, 0, 0, 0, 0, 0, 0, 0, 0, 0, 0, 0, 0, 0, 0, 0, 0, 0], rfl⟩ : IA 40)) fu hB1 ⟨hf, H⟩ (fun s h => by cases h) ?_ ?_
  ·rintro fk ⟨i, m⟩ a w hR1 hI
   replace hR1 : impl_BillOf_L1 fu p reach (fk + 1) i m = some out' := hR1
   rw [impl_BillOf_L1] at hR1
   obtain ⟨hf, H⟩ := hI
   refine sq (reg (pr 1 hf rfl rfl fun a hf => ?_))
   refine wl_end (then_n (sq (iteB hR1 (fun hc4 hR1 => cd_t hf rfl hc4 ?_) fun hc4 hR1 => cd_f hf rfl hc4 ?_)))
   ·refine wp_skip (then_n (sq (wp_block (sq (reg ?_)))))
    obtain ⟨e, he, hR1⟩ := bind_some hR1
    refine wl0 rfl (op_iaddr hf H Tryz.underlying35 TF.sz112 0 rfl rfl rfl he (by decide) fun p2 o cs a hf hr H => ?_)
    obtain ⟨A4, c5, rfl, hl4⟩ := Light_cells hr
    have H := H.push (false, MP.val [(.slice A4 e.Route.Fibers.length c5)] e.Route.Fibers) hl4
    refine wl0 rfl (op_q hf (rq_loadIN hf H TF.la112 1 0 rfl rfl rfl rfl) rfl (by decide) fun a hf => ?_)
    refine wl0 rfl (op_alloc hf H TF.zv112 rfl (by decide) fun b3 a w hf H => ?_)
    refine wl0 rfl (op_storeB hf H 0 TF.sz112 rfl rfl rfl rfl rfl rfl (nle rfl) fun w H => ?_)
    refine wl_end (then_n (sq (reg (pr 1 hf rfl rfl fun a hf => ?_))))
    refine wl0 rfl (op_q hf (rq_loadBN hf H TF.la34 2 rfl rfl rfl rfl) rfl (by decide) fun a hf => ?_)
    refine pr 1 hf rfl rfl fun a hf => ?_
    refine wl0 rfl (op_q hf (rq_loadBN hf H TF.la108 0 rfl rfl rfl rfl) rfl (by decide) fun a hf => ?_)
    refine pr 1 hf rfl rfl fun a hf => ?_
    obtain ⟨y4, hy4, hR1⟩ := bind_some hR1
    refine wl0 rfl (op_call hf TF.cl91 rfl (by decide) (impl_regenerators_ok (S := fun _ => True) (Network_mkv (x := p.Network) (rep_true (α := List ByteArray) (H.get 4 rfl)) (rep_true (α := List Fiber) (H.get 3 rfl))) (Route_mkv (x := e.Route) (rep_true (α := List Int) (H.get 0 rfl))) mk_int hy4) fun v4 w a hp4 hf => ?_)
    obtain ⟨hb4, F, v5, v6, rfl, hp5, hp6, hN⟩ := hp4
    obtain ⟨A5, c6, rfl, hl5⟩ := VO_list hp5
    obtain rfl := VR_bool hp6
    have H := H.addOwn hb4 (X := [(⟨F, MP.own F [(.slice A5 y4.1.length c6)] (y4.1 : List Int)⟩ : DI)]) (by simpa using hN.1) (ps1 hl5 ps0) (by simpa using hN.2)
    have H := H.lend 0 rfl
    refine pr 5 hf rfl rfl fun a hf => ?_
    refine wl_end (then_n (sq (sq (reg (pr 2 hf rfl rfl fun a hf => ?_)))))
    have hf := hf.prune [1, 2, 3, 8, 10, 11, 34, 35, 36, 50] rfl
    refine wl_end (then_n (iteB hR1 (fun hc5 hR1 => cd_t hf rfl hc5 ?_) fun hc5 hR1 => cd_f hf rfl hc5 ?_))
    ·refine sq (reg (pr 2 hf rfl rfl fun a hf => ?_))
     refine wl_end (then_n (wp_ret (then_r (blk_r (then_r (then_r (blk_r (then_r (then_r (?_))))))))))
     have H := H.ownNil (Item)
     have H := H.lend 0 rfl
     obtain rfl := Option.some.inj hR1
     replace hF := on_ret hF
     obtain rfl := Option.some.inj hF
     refine ret_2 (fn := Tryz.f34) (r := .tmp 6) (s := .tmp 7) hf rfl (rv_tmp hf rfl) (rv_tmp hf rfl) ?_
     have hN := H.ends (X := [(⟨[], MP.own [] [(.slice none 0 0)] ([] : List Item)⟩ : DI)])
     simp only [List.flatMap_cons, List.flatMap_nil, List.append_nil, List.append_assoc] at hN
     exact ⟨_, rfl, H.bel, [], _, _, rfl, (mko_list (H.ownAt 0 rfl)), mk_bool, by first | exact hN | simpa using hN⟩
    ·refine wp_skip (then_n (sq (drawn [12] (bs := [false, false, false, false, false, false, false, false, false, false, false, false, false]) (fuel := 13) (Checked.mixed Tryz.checked) rfl rfl fun w hb => ?_)))
     have H := H.keep hb
     refine tp 0 rfl rfl hf (by kernel_rfl) (fun _ => trivial) rfl fun a hf => ?_
     refine tp 1 rfl rfl hf (by kernel_rfl) (fun _ => trivial) rfl fun a hf => ?_
     refine tp 2 rfl rfl hf (by kernel_rfl) (fun _ => trivial) rfl fun a hf => ?_
     refine strT (H.let [true, false, false] [] [false] [] rfl rfl rfl rfl) (fun w H => trivial) fun hS => ?_
     refine tS 3 [3, 6, 7, 8, 11, 12] rfl rfl rfl rfl hf (by kernel_rfl) (by kernel_rfl) hS (fun w H => rq_loadB hf H TF.ls3 0 rfl rfl rfl) fun a hf => ?_
     refine tp 4 rfl rfl hf (by kernel_rfl) (fun _ => hS) rfl fun a hf => ?_
     obtain ⟨q, hq, hR1⟩ := bind_some hR1
     refine tP 5 rfl rfl rfl rfl hf (by kernel_rfl) (fun _ => hS) (fun w => rq_iaddrA hf Tryz.underlying125 TF.sz123 rfl rfl hq) fun a hf => ?_
     obtain ⟨q2, hq2, hR1⟩ := bind_some hR1
     refine tP 6 rfl rfl rfl rfl hf (by kernel_rfl) (fun _ => hS) (fun w => rq_iaddrA hf Tryz.underlying123 TF.sz3 rfl rfl hq2) fun a hf => ?_
     refine strT (H.let [true, true, false] [] [false] [] rfl rfl rfl rfl) (fun w H => H.let [true, false] [] [] [] rfl rfl rfl rfl) fun hS => ?_
     obtain ⟨e2, he2, hR1⟩ := bind_some hR1
     refine tS 7 [7, 8, 11, 12] rfl rfl rfl rfl hf (by kernel_rfl) (by kernel_rfl) hS (fun w H => rq_loadArr hf H TF.ls3 1 rfl rfl he2) fun a hf => ?_
     refine tp 8 rfl rfl hf (by kernel_rfl) (fun _ => hS) rfl fun a hf => ?_
     refine tp 9 rfl rfl hf (by kernel_rfl) (fun _ => hS) rfl fun a hf => ?_
     obtain ⟨q3, hq3, hR1⟩ := bind_some hR1
     refine tP 10 rfl rfl rfl rfl hf (by kernel_rfl) (fun _ => hS) (fun w => rq_iaddrA hf Tryz.underlying125 TF.sz123 rfl rfl hq3) fun a hf => ?_
     obtain ⟨q4, hq4, hR1⟩ := bind_some hR1
     refine tP 11 rfl rfl rfl rfl hf (by kernel_rfl) (fun _ => hS) (fun w => rq_iaddrA hf Tryz.underlying123 TF.sz3 rfl rfl hq4) fun a hf => ?_
     obtain ⟨x1, hx1, hR1⟩ := bind_some hR1
     refine n1 12 (by kernel_rfl) rfl rfl (op_storeArr hf H 1 TF.sz3 rfl rfl rfl hx1 fun w H => ?_)
     refine ⟨fun h => absurd h (by decide), ?_⟩
     refine dn (by kernel_rfl) ?_
     have hf := hf.prune [1, 2, 3, 8, 10, 11, 34, 35, 36] rfl
     refine then_n (sq (drawn [14] (bs := [false, false, false, false, false, false, false, false, false, false, false, false, false, false, false]) (fuel := 15) (Checked.mixed Tryz.checked) rfl rfl fun w hb => ?_))
     have H := H.keep hb
     refine tp 0 rfl rfl hf (by kernel_rfl) (fun _ => trivial) rfl fun a hf => ?_
     refine tp 1 rfl rfl hf (by kernel_rfl) (fun _ => trivial) rfl fun a hf => ?_
     refine strT (H.let [false, false, true] [] [false] [] rfl rfl rfl rfl) (fun w H => trivial) fun hS => ?_
     refine tS 2 [2, 5, 8, 9, 10, 13, 14] rfl rfl rfl rfl hf (by kernel_rfl) (by kernel_rfl) hS (fun w H => rq_loadBN hf H TF.la34 0 rfl rfl rfl rfl) fun a hf => ?_
     refine tp 3 rfl rfl hf (by kernel_rfl) (fun _ => hS) rfl fun a hf => ?_
     refine strT (H.let [true, false, true] [] [false] [] rfl rfl rfl rfl) (fun w H => H.let [false, true] [] [] [] rfl rfl rfl rfl) fun hS => ?_
     refine tS 4 [4, 5, 8, 9, 10, 13, 14] rfl rfl rfl rfl hf (by kernel_rfl) (by kernel_rfl) hS (fun w H => rq_loadBN hf H TF.la108 0 rfl rfl rfl rfl) fun a hf => ?_
     refine tp 6 rfl rfl hf (by kernel_rfl) (fun _ => hS) rfl fun a hf => ?_
     obtain ⟨q5, hq5, hR1⟩ := bind_some hR1
     refine tP 7 rfl rfl rfl rfl hf (by kernel_rfl) (fun _ => hS) (fun w => rq_iaddrA hf Tryz.underlying125 TF.sz123 rfl rfl hq5) fun a hf => ?_
     refine tp 11 rfl rfl hf (by kernel_rfl) (fun _ => hS) rfl fun a hf => ?_
     obtain ⟨q6, hq6, hR1⟩ := bind_some hR1
     refine tP 12 rfl rfl rfl rfl hf (by kernel_rfl) (fun _ => hS) (fun w => rq_iaddrA hf Tryz.underlying125 TF.sz123 rfl rfl hq6) fun a hf => ?_
     obtain ⟨y5, hy5, hR1⟩ := bind_some hR1
     refine n1 5 (by kernel_rfl) rfl rfl (op_call hf TF.cl92 rfl (by decide) (impl_endOf_ok (S := fun _ => True) (Network_mkv (x := p.Network) (rep_true (α := List ByteArray) (H.get 5 rfl)) (rep_true (α := List Fiber) (H.get 4 rfl))) (Route_mkv (x := e.Route) (rep_true (α := List Int) (H.get 1 rfl))) hy5) fun v7 w a hp7 hf => ?_)
     obtain ⟨hb5, hp7⟩ := hp7
     obtain rfl := VR_int hp7
     have H := H.keep hb5
     have hS := H.let [true, false, true] [] [false] [] rfl rfl rfl rfl
     refine ⟨fun _ => hS, ?_⟩
     obtain ⟨q7, hq7, hR1⟩ := bind_some hR1
     refine tP 8 rfl rfl rfl rfl hf (by kernel_rfl) (fun _ => hS) (fun w => rq_iaddrA hf Tryz.underlying123 TF.sz3 rfl rfl hq7) fun a hf => ?_
     refine strT (H.let [true, true, true] [] [false] [] rfl rfl rfl rfl) (fun w H => H.let [true, false, true] [] [] [] rfl rfl rfl rfl) fun hS => ?_
     obtain ⟨e3, he3, hR1⟩ := bind_some hR1
     refine tS 9 [9, 10, 13, 14] rfl rfl rfl rfl hf (by kernel_rfl) (by kernel_rfl) hS (fun w H => rq_loadArr hf H TF.ls3 1 rfl rfl he3) fun a hf => ?_
     refine tp 10 rfl rfl hf (by kernel_rfl) (fun _ => hS) rfl fun a hf => ?_
     obtain ⟨q8, hq8, hR1⟩ := bind_some hR1
     refine tP 13 rfl rfl rfl rfl hf (by kernel_rfl) (fun _ => hS) (fun w => rq_iaddrA hf Tryz.underlying123 TF.sz3 rfl rfl hq8) fun a hf => ?_
     obtain ⟨x2, hx2, hR1⟩ := bind_some hR1
     refine n1 14 (by kernel_rfl) rfl rfl (op_storeArr hf H 1 TF.sz3 rfl rfl rfl hx2 fun w H => ?_)
     refine ⟨fun h => absurd h (by decide), ?_⟩
     refine dn (by kernel_rfl) ?_
     have hf := hf.prune [1, 2, 3, 8, 11, 34, 35, 36] rfl
     refine then_n (sq (reg (pr 3 hf rfl rfl fun a hf => ?_)))
     refine wl_end (then_n ?_)
     obtain ⟨out2, hB2, hR1⟩ := bind_some hR1
     have hf := hf.prune [1, 2, 3, 8, 34, 35, 36, 77, 78, 79] rfl
     have H := H.let [false, true, true] [] [true] [0, 3, 4, 5] rfl rfl rfl rfl
     refine loopC (fun (s : Int × IA 40) (a : Act) (w : World) => match s with | (i2, m2) => Fr a 157 [(1, (.int .i64 reach)), (2, (.int .i64 spacing)), (3, (.pointer (some ⟨b', 0, none⟩))), (8, (.pointer (some ⟨b2, 0, none⟩))), (34, (.slice A3 p.Lights.length c3)), (35, (.int .i64 (p.Lights.length : Int))), (36, (.int .i64 i)), (77, (.slice A5 y4.1.length c6)), (78, (.int .i64 (y4.1.length : Int))), (79, (.int .i64 i2))] ∧ Mem ⟨w0, []⟩ S [⟨b2, 125, m2.cells⟩, ⟨b', 37, [(.slice A p.Network.Nodes.length c), (.slice A2 p.Network.Fibers.length c2), (.slice A3 p.Lights.length c3)]⟩] [] [⟨F, MP.own F [(.slice A5 y4.1.length c6)] (y4.1 : List Int)⟩] [(true, MP.val [(.slice A5 y4.1.length c6)] (y4.1 : List Int)), (false, MP.val [(.slice A3 p.Lights.length c3)] (p.Lights : List Light)), (false, MP.val [(.slice A2 p.Network.Fibers.length c2)] (p.Network.Fibers : List Fiber)), (false, MP.val [(.slice A p.Network.Nodes.length c)] (p.Network.Nodes : List ByteArray))] w) (fun k (s : Int × IA 40) => impl_BillOf_L2 fu y4 k s.1 s.2 = some out2) (fun s => out2 = s) (0, x2) fu hB2 ⟨hf, H⟩ (fun s h => by cases h) ?_ ?_
     ·rintro fk ⟨i2, m2⟩ a w hR2 hI
      replace hR2 : impl_BillOf_L2 fu y4 (fk + 1) i2 m2 = some out2 := hR2
      rw [impl_BillOf_L2] at hR2
      obtain ⟨hf, H⟩ := hI
      refine sq (reg (pr 1 hf rfl rfl fun a hf => ?_))
      refine wl_end (then_n (sq (iteB hR2 (fun hc6 hR2 => cd_t hf rfl hc6 ?_) fun hc6 hR2 => cd_f hf rfl hc6 ?_)))
      ·refine wp_skip (then_n (sq (wp_block (sq (reg ?_)))))
       obtain ⟨e4, he4, hR2⟩ := bind_some hR2
       refine wl0 rfl (op_iaddr hf H Tryz.underlying44 TF.sz3 0 rfl rfl rfl he4 (by decide) fun p3 o2 cs2 a hf hr2 H => ?_)
       obtain rfl := hr2
       refine wl0 rfl (op_q hf (rq_loadI hf H TF.ls3 0 0 rfl rfl rfl) rfl (by decide) fun a hf => ?_)
       refine pr 1 hf rfl rfl fun a hf => ?_
       refine wl_end (then_n (drawn [10] (bs := [false, false, false, false, false, false, false, false, false, false, false]) (fuel := 11) (Checked.mixed Tryz.checked) rfl rfl fun w hb => ?_))
       have H := H.keep hb
       refine tp 0 rfl rfl hf (by kernel_rfl) (fun _ => trivial) rfl fun a hf => ?_
       refine tp 1 rfl rfl hf (by kernel_rfl) (fun _ => trivial) rfl fun a hf => ?_
       refine tp 2 rfl rfl hf (by kernel_rfl) (fun _ => trivial) rfl fun a hf => ?_
       obtain ⟨q9, hq9, hR2⟩ := bind_some hR2
       refine tP 3 rfl rfl rfl rfl hf (by kernel_rfl) (fun _ => trivial) (fun w => rq_iaddrA hf Tryz.underlying125 TF.sz123 rfl rfl hq9) fun a hf => ?_
       obtain ⟨q10, hq10, hR2⟩ := bind_some hR2
       refine tP 4 rfl rfl rfl rfl hf (by kernel_rfl) (fun _ => trivial) (fun w => rq_iaddrA hf Tryz.underlying123 TF.sz3 rfl rfl hq10) fun a hf => ?_
       refine strT (H.let [true, false] [] [false] [] rfl rfl rfl rfl) (fun w H => trivial) fun hS => ?_
       obtain ⟨e5, he5, hR2⟩ := bind_some hR2
       refine tS 5 [5, 6, 9, 10] rfl rfl rfl rfl hf (by kernel_rfl) (by kernel_rfl) hS (fun w H => rq_loadArr hf H TF.ls3 0 rfl rfl he5) fun a hf => ?_
       refine tp 6 rfl rfl hf (by kernel_rfl) (fun _ => hS) rfl fun a hf => ?_
       refine tp 7 rfl rfl hf (by kernel_rfl) (fun _ => hS) rfl fun a hf => ?_
       obtain ⟨q11, hq11, hR2⟩ := bind_some hR2
       refine tP 8 rfl rfl rfl rfl hf (by kernel_rfl) (fun _ => hS) (fun w => rq_iaddrA hf Tryz.underlying125 TF.sz123 rfl rfl hq11) fun a hf => ?_
       obtain ⟨q12, hq12, hR2⟩ := bind_some hR2
       refine tP 9 rfl rfl rfl rfl hf (by kernel_rfl) (fun _ => hS) (fun w => rq_iaddrA hf Tryz.underlying123 TF.sz3 rfl rfl hq12) fun a hf => ?_
       obtain ⟨x3, hx3, hR2⟩ := bind_some hR2
       refine n1 10 (by kernel_rfl) rfl rfl (op_storeArr hf H 0 TF.sz3 rfl rfl rfl hx3 fun w H => ?_)
       refine ⟨fun h => absurd h (by decide), ?_⟩
       refine dn (by kernel_rfl) ?_
       have hf := hf.prune [1, 2, 3, 8, 34, 35, 36, 77, 78, 79] rfl
       refine blk_n (then_n (reg (pr 2 hf rfl rfl fun a hf => ?_)))
       refine wl_end ?_
       have hf := hf.prune [1, 2, 3, 8, 34, 35, 36, 77, 78, 79] rfl
       have H := H.let [true, true] [] [true] [1, 2, 3, 4] rfl rfl rfl rfl
       exact then_n ⟨(w64 (i2 + 1), x3), hR2, hf, H⟩
      ·refine wp_exit (then_x (then_x (blk_e (?_))))
       have hf := hf.prune [1, 2, 3, 8, 34, 35, 36, 77, 78, 79] rfl
       have H := H.let [true, true] [] [true] [0, 1, 2, 3] rfl rfl rfl rfl
       exact ⟨(i2, m2), (Option.some.inj hR2).symm, hf, H⟩
     rintro a w ⟨⟨i3, m3⟩, rfl, hf, H⟩
     dsimp only at hR1
     refine blk_n (then_n (reg (pr 2 hf rfl rfl fun a hf => ?_)))
     refine wl_end ?_
     have hf := hf.prune [1, 2, 3, 8, 34, 35, 36] rfl
     have H := H.let [true, true] [] [false] [1, 2, 3] rfl rfl rfl rfl
     exact then_n ⟨(w64 (i + 1), m3), hR1, hf, H⟩
   ·refine wp_exit (then_x (then_x (blk_e (?_))))
    have hf := hf.prune [1, 2, 3, 8, 34, 35, 36] rfl
    have H := H.let [true, true] [] [] [0, 1, 2] rfl rfl rfl rfl
    exact ⟨(i, m), (Option.some.inj hR1).symm, hf, H⟩
  rintro a w ⟨⟨i4, m4⟩, rfl, hf, H⟩
  replace hF := on_next hF
  dsimp only at hF
  refine then_n (sq (sq (reg (wl0 rfl (op_q hf (rq_loadBN hf H TF.la37 1 rfl rfl rfl rfl) rfl (by decide) fun a hf => ?_)))))
  obtain ⟨y6, hy6, hF⟩ := bind_some hF
  refine wl0 rfl (op_call hf TF.cl77 rfl (by decide) (impl_fiberMasks_ok (S := fun _ => True) (Plan_mkv (x := p) (rep_true (α := List ByteArray) (H.get 2 rfl)) (rep_true (α := List Fiber) (H.get 1 rfl)) (rep_true (α := List Light) (H.get 0 rfl))) hy6) fun v8 w a hp8 hf => ?_)
  obtain ⟨hb6, F3, hp9, hN2⟩ := hp8
  obtain ⟨A6, c7, rfl, hl6⟩ := VO_list hp9
  have H := H.addOwn hb6 (X := [(⟨F3, MP.own F3 [(.slice A6 y6.length c7)] (y6 : List Int)⟩ : DI)]) (by simpa using hN2.1) (ps1 hl6 ps0) (by simpa using hN2.2)
  have H := H.lend 0 rfl
  refine pr 2 hf rfl rfl fun a hf => ?_
  refine wl_end (then_n ?_)
  obtain ⟨out3, hB1, hF⟩ := bind_some hF
  have hf := hf.prune [2, 3, 8, 96, 97, 98] rfl
  have H := H.let [true, true] [] [true] [0, 1, 2, 3] rfl rfl rfl rfl
  refine loopC (fun (s : Int × IA 40) (a : Act) (w : World) => match s with | (i5, m5) => Fr a 157 [(2, (.int .i64 spacing)), (3, (.pointer (some ⟨b', 0, none⟩))), (8, (.pointer (some ⟨b2, 0, none⟩))), (96, (.slice A6 y6.length c7)), (97, (.int .i64 (y6.length : Int))), (98, (.int .i64 i5))] ∧ Mem ⟨w0, []⟩ S [⟨b2, 125, m5.cells⟩, ⟨b', 37, [(.slice A p.Network.Nodes.length c), (.slice A2 p.Network.Fibers.length c2), (.slice A3 p.Lights.length c3)]⟩] [] [⟨F3, MP.own F3 [(.slice A6 y6.length c7)] (y6 : List Int)⟩] [(true, MP.val [(.slice A6 y6.length c7)] (y6 : List Int)), (false, MP.val [(.slice A3 p.Lights.length c3)] (p.Lights : List Light)), (false, MP.val [(.slice A2 p.Network.Fibers.length c2)] (p.Network.Fibers : List Fiber)), (false, MP.val [(.slice A p.Network.Nodes.length c)] (p.Network.Nodes : List ByteArray))] w) (fun k (s : Int × IA 40) => impl_BillOf_L3 fu p spacing y6 k s.1 s.2 = some out3) (fun s => out3 = s) (0, m4) fu hB1 ⟨hf, H⟩ (fun s h => by cases h) ?_ ?_
  ·rintro fk ⟨i5, m5⟩ a w hR1 hI
   replace hR1 : impl_BillOf_L3 fu p spacing y6 (fk + 1) i5 m5 = some out3 := hR1
   rw [impl_BillOf_L3] at hR1
   obtain ⟨hf, H⟩ := hI
   refine sq (reg (pr 1 hf rfl rfl fun a hf => ?_))
   refine wl_end (then_n (sq (iteB hR1 (fun hc7 hR1 => cd_t hf rfl hc7 ?_) fun hc7 hR1 => cd_f hf rfl hc7 ?_)))
   ·refine wp_skip (then_n (sq (wp_block (sq (reg (pr 1 hf rfl rfl fun a hf => ?_))))))
    obtain ⟨e6, he6, hR1⟩ := bind_some hR1
    refine wl0 rfl (op_iaddr hf H Tryz.underlying44 TF.sz3 0 rfl rfl rfl he6 (by decide) fun p4 o3 cs3 a hf hr3 H => ?_)
    obtain rfl := hr3
    refine wl0 rfl (op_q hf (rq_loadI hf H TF.ls3 0 0 rfl rfl rfl) rfl (by decide) fun a hf => ?_)
    refine pr 2 hf rfl rfl fun a hf => ?_
    refine wl_end (then_n (sq (reg (pr 2 hf rfl rfl fun a hf => ?_))))
    refine wl0 rfl (op_q hf (rq_loadB hf H TF.ls32 1 rfl rfl rfl) rfl (by decide) fun a hf => ?_)
    refine pr 1 hf rfl rfl fun a hf => ?_
    obtain ⟨e7, he7, hR1⟩ := bind_some hR1
    refine wl0 rfl (op_iaddr hf H Tryz.underlying32 TF.sz120 3 rfl rfl rfl he7 (by decide) fun p5 o4 cs4 a hf hr4 H => ?_)
    obtain rfl := Fiber_cells hr4
    refine wl0 rfl (op_q hf (rq_loadIN hf H TF.la120 0 0 rfl rfl rfl rfl) rfl (by decide) fun a hf => ?_)
    refine wl0 rfl (op_alloc hf H TF.zv120 rfl (by decide) fun b4 a w hf H => ?_)
    refine wl0 rfl (op_storeB hf H 0 TF.sz120 rfl rfl rfl rfl rfl rfl (nle rfl) fun w H => ?_)
    refine wl_end (then_n (sq (reg (pr 2 hf rfl rfl fun a hf => ?_))))
    have hf := hf.prune [2, 3, 8, 17, 96, 97, 98, 110] rfl
    refine wl_end (then_n (iteB hR1 (fun hc8 hR1 => cd_t hf rfl hc8 ?_) fun hc8 hR1 => cd_f hf rfl hc8 ?_))
    ·refine sq (drawn [11] (bs := [false, false, false, false, false, false, false, false, false, false, false, false]) (fuel := 12) (Checked.mixed Tryz.checked) rfl rfl fun w hb => ?_)
     have H := H.keep hb
     refine tp 0 rfl rfl hf (by kernel_rfl) (fun _ => trivial) rfl fun a hf => ?_
     refine tp 1 rfl rfl hf (by kernel_rfl) (fun _ => trivial) rfl fun a hf => ?_
     refine strT (H.let [true, false, false] [] [false] [] rfl rfl rfl rfl) (fun w H => trivial) fun hS => ?_
     refine tS 2 [2, 5, 6, 7, 10, 11] rfl rfl rfl rfl hf (by kernel_rfl) (by kernel_rfl) hS (fun w H => rq_loadB hf H TF.ls3 0 rfl rfl rfl) fun a hf => ?_
     refine tp 3 rfl rfl hf (by kernel_rfl) (fun _ => hS) rfl fun a hf => ?_
     obtain ⟨q13, hq13, hR1⟩ := bind_some hR1
     refine tP 4 rfl rfl rfl rfl hf (by kernel_rfl) (fun _ => hS) (fun w => rq_iaddrA hf Tryz.underlying125 TF.sz123 rfl rfl hq13) fun a hf => ?_
     obtain ⟨q14, hq14, hR1⟩ := bind_some hR1
     refine tP 5 rfl rfl rfl rfl hf (by kernel_rfl) (fun _ => hS) (fun w => rq_iaddrA hf Tryz.underlying123 TF.sz3 rfl rfl hq14) fun a hf => ?_
     refine strT (H.let [true, true, false] [] [false] [] rfl rfl rfl rfl) (fun w H => H.let [true, false] [] [] [] rfl rfl rfl rfl) fun hS => ?_
     obtain ⟨e8, he8, hR1⟩ := bind_some hR1
     refine tS 6 [6, 7, 10, 11] rfl rfl rfl rfl hf (by kernel_rfl) (by kernel_rfl) hS (fun w H => rq_loadArr hf H TF.ls3 1 rfl rfl he8) fun a hf => ?_
     refine tp 7 rfl rfl hf (by kernel_rfl) (fun _ => hS) rfl fun a hf => ?_
     refine tp 8 rfl rfl hf (by kernel_rfl) (fun _ => hS) rfl fun a hf => ?_
     obtain ⟨q15, hq15, hR1⟩ := bind_some hR1
     refine tP 9 rfl rfl rfl rfl hf (by kernel_rfl) (fun _ => hS) (fun w => rq_iaddrA hf Tryz.underlying125 TF.sz123 rfl rfl hq15) fun a hf => ?_
     obtain ⟨q16, hq16, hR1⟩ := bind_some hR1
     refine tP 10 rfl rfl rfl rfl hf (by kernel_rfl) (fun _ => hS) (fun w => rq_iaddrA hf Tryz.underlying123 TF.sz3 rfl rfl hq16) fun a hf => ?_
     obtain ⟨x4, hx4, hR1⟩ := bind_some hR1
     refine n1 11 (by kernel_rfl) rfl rfl (op_storeArr hf H 1 TF.sz3 rfl rfl rfl hx4 fun w H => ?_)
     refine ⟨fun h => absurd h (by decide), ?_⟩
     refine dn (by kernel_rfl) ?_
     refine then_n (sq (drawn [11] (bs := [false, false, false, false, false, false, false, false, false, false, false, false]) (fuel := 12) (Checked.mixed Tryz.checked) rfl rfl fun w hb => ?_))
     have H := H.keep hb
     refine tp 0 rfl rfl hf (by kernel_rfl) (fun _ => trivial) rfl fun a hf => ?_
     refine tp 1 rfl rfl hf (by kernel_rfl) (fun _ => trivial) rfl fun a hf => ?_
     refine strT (H.let [true, false, false] [] [false] [] rfl rfl rfl rfl) (fun w H => trivial) fun hS => ?_
     refine tS 2 [2, 5, 6, 7, 10, 11] rfl rfl rfl rfl hf (by kernel_rfl) (by kernel_rfl) hS (fun w H => rq_loadB hf H TF.ls3 0 rfl rfl rfl) fun a hf => ?_
     refine tp 3 rfl rfl hf (by kernel_rfl) (fun _ => hS) rfl fun a hf => ?_
     obtain ⟨q17, hq17, hR1⟩ := bind_some hR1
     refine tP 4 rfl rfl rfl rfl hf (by kernel_rfl) (fun _ => hS) (fun w => rq_iaddrA hf Tryz.underlying125 TF.sz123 rfl rfl hq17) fun a hf => ?_
     obtain ⟨q18, hq18, hR1⟩ := bind_some hR1
     refine tP 5 rfl rfl rfl rfl hf (by kernel_rfl) (fun _ => hS) (fun w => rq_iaddrA hf Tryz.underlying123 TF.sz3 rfl rfl hq18) fun a hf => ?_
     refine strT (H.let [true, true, false] [] [false] [] rfl rfl rfl rfl) (fun w H => H.let [true, false] [] [] [] rfl rfl rfl rfl) fun hS => ?_
     obtain ⟨e9, he9, hR1⟩ := bind_some hR1
     refine tS 6 [6, 7, 10, 11] rfl rfl rfl rfl hf (by kernel_rfl) (by kernel_rfl) hS (fun w H => rq_loadArr hf H TF.ls3 1 rfl rfl he9) fun a hf => ?_
     refine tp 7 rfl rfl hf (by kernel_rfl) (fun _ => hS) rfl fun a hf => ?_
     refine tp 8 rfl rfl hf (by kernel_rfl) (fun _ => hS) rfl fun a hf => ?_
     obtain ⟨q19, hq19, hR1⟩ := bind_some hR1
     refine tP 9 rfl rfl rfl rfl hf (by kernel_rfl) (fun _ => hS) (fun w => rq_iaddrA hf Tryz.underlying125 TF.sz123 rfl rfl hq19) fun a hf => ?_
     obtain ⟨q20, hq20, hR1⟩ := bind_some hR1
     refine tP 10 rfl rfl rfl rfl hf (by kernel_rfl) (fun _ => hS) (fun w => rq_iaddrA hf Tryz.underlying123 TF.sz3 rfl rfl hq20) fun a hf => ?_
     obtain ⟨x5, hx5, hR1⟩ := bind_some hR1
     refine n1 11 (by kernel_rfl) rfl rfl (op_storeArr hf H 1 TF.sz3 rfl rfl rfl hx5 fun w H => ?_)
     refine ⟨fun h => absurd h (by decide), ?_⟩
     refine dn (by kernel_rfl) ?_
     have hf := hf.prune [2, 3, 8, 17, 96, 97, 98] rfl
     refine then_n (drawn [19] (bs := [false, false, false, false, false, false, false, false, false, false, false, false, false, false, false, false, false, false, false, false]) (fuel := 20) (Checked.mixed Tryz.checked) rfl rfl fun w hb => ?_)
     have H := H.keep hb
     refine tp 0 rfl rfl hf (by kernel_rfl) (fun _ => trivial) rfl fun a hf => ?_
     refine tp 1 rfl rfl hf (by kernel_rfl) (fun _ => trivial) rfl fun a hf => ?_
     refine strT (H.let [true, false, false] [] [false] [] rfl rfl rfl rfl) (fun w H => trivial) fun hS => ?_
     refine tS 2 [2, 5, 6, 15, 18, 19] rfl rfl rfl rfl hf (by kernel_rfl) (by kernel_rfl) hS (fun w H => rq_loadB hf H TF.ls3 0 rfl rfl rfl) fun a hf => ?_
     refine tp 3 rfl rfl hf (by kernel_rfl) (fun _ => hS) rfl fun a hf => ?_
     obtain ⟨q21, hq21, hR1⟩ := bind_some hR1
     refine tP 4 rfl rfl rfl rfl hf (by kernel_rfl) (fun _ => hS) (fun w => rq_iaddrA hf Tryz.underlying125 TF.sz123 rfl rfl hq21) fun a hf => ?_
     obtain ⟨q22, hq22, hR1⟩ := bind_some hR1
     refine tP 5 rfl rfl rfl rfl hf (by kernel_rfl) (fun _ => hS) (fun w => rq_iaddrA hf Tryz.underlying123 TF.sz3 rfl rfl hq22) fun a hf => ?_
     refine strT (H.let [true, true, false] [] [false] [] rfl rfl rfl rfl) (fun w H => H.let [true, false] [] [] [] rfl rfl rfl rfl) fun hS => ?_
     obtain ⟨e10, he10, hR1⟩ := bind_some hR1
     refine tS 6 [6, 15, 18, 19] rfl rfl rfl rfl hf (by kernel_rfl) (by kernel_rfl) hS (fun w H => rq_loadArr hf H TF.ls3 1 rfl rfl he10) fun a hf => ?_
     refine tp 7 rfl rfl hf (by kernel_rfl) (fun _ => hS) rfl fun a hf => ?_
     refine tS 8 [8, 10, 11, 13, 14, 15, 18, 19] rfl rfl rfl rfl hf (by kernel_rfl) (by kernel_rfl) hS (fun w H => rq_loadB hf H TF.ls3 0 rfl rfl rfl) fun a hf => ?_
     refine tp 9 rfl rfl hf (by kernel_rfl) (fun _ => hS) rfl fun a hf => ?_
     refine tp 10 rfl rfl hf (by kernel_rfl) (fun _ => hS) rfl fun a hf => ?_
     refine tp 11 rfl rfl hf (by kernel_rfl) (fun _ => hS) rfl fun a hf => ?_
     refine tp 12 rfl rfl hf (by kernel_rfl) (fun _ => hS) rfl fun a hf => ?_
     obtain ⟨q23, hq23, hR1⟩ := bind_some hR1
     refine tP 13 rfl rfl rfl rfl hf (by kernel_rfl) (fun _ => hS) (fun w => rq_quo hf rfl rfl hq23) fun a hf => ?_
     refine tp 14 rfl rfl hf (by kernel_rfl) (fun _ => hS) rfl fun a hf => ?_
     refine tp 15 rfl rfl hf (by kernel_rfl) (fun _ => hS) rfl fun a hf => ?_
     refine tp 16 rfl rfl hf (by kernel_rfl) (fun _ => hS) rfl fun a hf => ?_
     obtain ⟨q24, hq24, hR1⟩ := bind_some hR1
     refine tP 17 rfl rfl rfl rfl hf (by kernel_rfl) (fun _ => hS) (fun w => rq_iaddrA hf Tryz.underlying125 TF.sz123 rfl rfl hq24) fun a hf => ?_
     obtain ⟨q25, hq25, hR1⟩ := bind_some hR1
     refine tP 18 rfl rfl rfl rfl hf (by kernel_rfl) (fun _ => hS) (fun w => rq_iaddrA hf Tryz.underlying123 TF.sz3 rfl rfl hq25) fun a hf => ?_
     obtain ⟨x6, hx6, hR1⟩ := bind_some hR1
     refine n1 19 (by kernel_rfl) rfl rfl (op_storeArr hf H 1 TF.sz3 rfl rfl rfl hx6 fun w H => ?_)
     refine ⟨fun h => absurd h (by decide), ?_⟩
     refine dn (by kernel_rfl) ?_
     have hf := hf.prune [2, 3, 8, 96, 97, 98] rfl
     refine blk_n (then_n (reg (pr 2 hf rfl rfl fun a hf => ?_)))
     refine wl_end ?_
     have hf := hf.prune [2, 3, 8, 96, 97, 98] rfl
     have H := H.let [false, true, true] [] [true] [2, 3, 4, 5] rfl rfl rfl rfl
     exact then_n ⟨(w64 (i5 + 1), x6), hR1, hf, H⟩
    ·refine wp_skip (blk_n (then_n (reg (pr 2 hf rfl rfl fun a hf => ?_))))
     refine wl_end ?_
     have hf := hf.prune [2, 3, 8, 96, 97, 98] rfl
     have H := H.let [false, true, true] [] [true] [2, 3, 4, 5] rfl rfl rfl rfl
     exact then_n ⟨(w64 (i5 + 1), m5), hR1, hf, H⟩
   ·refine wp_exit (then_x (then_x (blk_e (?_))))
    have hf := hf.prune [2, 3, 8, 96, 97, 98] rfl
    have H := H.let [true, true] [] [true] [0, 1, 2, 3] rfl rfl rfl rfl
    exact ⟨(i5, m5), (Option.some.inj hR1).symm, hf, H⟩
  rintro a w ⟨⟨i6, m6⟩, rfl, hf, H⟩
  dsimp only at hF
  refine then_n (sq (reg (pr 1 hf rfl rfl fun a hf => ?_)))
  obtain ⟨y7, hy7, hF⟩ := bind_some hF
  refine wl0 rfl (op_call hf TF.cl93 rfl (by decide) (impl_tally_bill_ok (S := fun _ => True) (H.boxTrue 0 rfl) (rfl) hy7) fun v9 w a hp10 hf => ?_)
  obtain ⟨hb7, F5, v10, v11, rfl, hp11, hp12, hN3⟩ := hp10
  obtain ⟨A7, c8, rfl, hl7⟩ := VO_list hp11
  obtain rfl := VR_bool hp12
  have H := H.addOwn hb7 (X := [(⟨F5, MP.own F5 [(.slice A7 y7.1.length c8)] (y7.1 : List Item)⟩ : DI)]) (by simpa using hN3.1) (ps1 hl7 ps0) (by simpa using hN3.2)
  have H := H.lend 0 rfl
  refine pr 4 hf rfl rfl fun a hf => ?_
  refine wl_end (then_n (wp_ret (?_)))
  obtain rfl := Option.some.inj hF
  refine ret_2 (fn := Tryz.f34) (r := .tmp 6) (s := .tmp 7) hf rfl (rv_tmp hf rfl) (rv_tmp hf rfl) ?_
  have hN := H.ends (X := [(⟨F5, MP.own F5 [(.slice A7 y7.1.length c8)] (y7.1 : List Item)⟩ : DI)])
  simp only [List.flatMap_cons, List.flatMap_nil, List.append_nil, List.append_assoc] at hN
  exact ⟨_, rfl, H.bel, F5, _, _, rfl, (mko_list (H.ownAt 0 rfl)), mk_bool, by first | exact hN | simpa using hN⟩

/- loop.example/g00897/laws.eqItem -/
set_option maxHeartbeats 1000000 in
theorem laws_eqItem_ok {fu : Nat} {w0 : World} {S : Nat → Prop} {v0_ : Value} {v1_ : Value} {a' : Item} {b' : Item} {r : Bool} (h0 : VR w0 S v0_ a') (h1 : VR w0 S v1_ b') (hF : laws_eqItem fu a' b' = some r) :
    Calls Tryz.prog 94 [v0_, v1_].toArray w0 fun e w' => ∃ v, e = .returned v ∧ (Below w0.heap.size w0 w' ∧ VR w' (St ⟨w0, []⟩ S [] [] [] true) v r) := by
 obtain rfl := Item_open h0
 obtain rfl := Item_open h1
 have H := Mem.start ⟨w0, []⟩ S
 refine enter Tryz.func94 rfl rfl (nle rfl) rfl fun a hf => ?_
 rw [laws_eqItem] at hF
 refine sq (reg (wl0 rfl (op_box hf H rfl rfl (by decide) fun b2 a w hf H => ?_)))
 refine wl0 rfl (op_box hf H rfl rfl (by decide) fun b3 a w hf H => ?_)
 refine pr 1 hf rfl rfl fun a hf => ?_
 refine wl_end (then_n (sq (sq (reg (pr 1 hf rfl rfl fun a hf => ?_)))))
 refine wl0 rfl (op_q hf (rq_loadB hf H TF.ls3 1 rfl rfl rfl) rfl (by decide) fun a hf => ?_)
 refine pr 1 hf rfl rfl fun a hf => ?_
 refine wl0 rfl (op_q hf (rq_loadB hf H TF.ls3 0 rfl rfl rfl) rfl (by decide) fun a hf => ?_)
 refine pr 1 hf rfl rfl fun a hf => ?_
 refine wl_end (then_n (iteB hF (fun hc hF => cd_t hf rfl hc ?_) fun hc hF => cd_f hf rfl hc ?_))
 ·refine sq (reg (pr 1 hf rfl rfl fun a hf => ?_))
  refine wl_end (then_n (wp_ret (then_r (?_))))
  obtain rfl := Option.some.inj hF
  refine ret_1 (fn := Tryz.f94) (r := .tmp 4) hf rfl (rv_tmp hf rfl) ?_
  exact ⟨_, rfl, H.bel, mk_bool⟩
 ·refine wp_skip (then_n (sq (sq (reg (pr 1 hf rfl rfl fun a hf => ?_)))))
  refine wl0 rfl (op_q hf (rq_loadB hf H TF.ls3 1 rfl rfl rfl) rfl (by decide) fun a hf => ?_)
  refine pr 1 hf rfl rfl fun a hf => ?_
  refine wl0 rfl (op_q hf (rq_loadB hf H TF.ls3 0 rfl rfl rfl) rfl (by decide) fun a hf => ?_)
  refine pr 1 hf rfl rfl fun a hf => ?_
  refine wl_end (then_n (iteB hF (fun hc2 hF => cd_t hf rfl hc2 ?_) fun hc2 hF => cd_f hf rfl hc2 ?_))
  ·refine sq (reg (pr 1 hf rfl rfl fun a hf => ?_))
   have hf := hf.prune [4] rfl
   refine wl_end (then_n (wp_ret (then_r (?_))))
   obtain rfl := Option.some.inj hF
   refine ret_1 (fn := Tryz.f94) (r := .tmp 4) hf rfl (rv_tmp hf rfl) ?_
   exact ⟨_, rfl, H.bel, mk_bool⟩
  ·refine wp_skip (then_n (sq (sq (reg (pr 1 hf rfl rfl fun a hf => ?_)))))
   refine wl0 rfl (op_q hf (rq_loadB hf H TF.ls3 1 rfl rfl rfl) rfl (by decide) fun a hf => ?_)
   refine pr 1 hf rfl rfl fun a hf => ?_
   refine wl0 rfl (op_q hf (rq_loadB hf H TF.ls3 0 rfl rfl rfl) rfl (by decide) fun a hf => ?_)
   refine pr 1 hf rfl rfl fun a hf => ?_
   have hf := hf.prune [19] rfl
   refine wl_end (then_n (iteB hF (fun hc3 hF => cd_t hf rfl hc3 ?_) fun hc3 hF => cd_f hf rfl hc3 ?_))
   ·refine sq (reg (pr 1 hf rfl rfl fun a hf => ?_))
    refine wl_end (then_n (wp_ret (then_r (?_))))
    obtain rfl := Option.some.inj hF
    refine ret_1 (fn := Tryz.f94) (r := .tmp 4) hf rfl (rv_tmp hf rfl) ?_
    exact ⟨_, rfl, H.bel, mk_bool⟩
   ·refine wp_skip (then_n (sq (reg (pr 1 hf rfl rfl fun a hf => ?_))))
    refine wl_end (then_n (wp_ret (?_)))
    obtain rfl := Option.some.inj hF
    refine ret_1 (fn := Tryz.f94) (r := .tmp 4) hf rfl (rv_tmp hf rfl) ?_
    exact ⟨_, rfl, H.bel, mk_bool⟩

/- loop.example/g00897/laws.eqItemS -/
set_option maxHeartbeats 1000000 in
theorem laws_eqItemS_ok {fu : Nat} {w0 : World} {S : Nat → Prop} {v0_ : Value} {v1_ : Value} {a' : List Item} {b' : List Item} {r : Bool} (h0 : VR w0 S v0_ a') (h1 : VR w0 S v1_ b') (hF : laws_eqItemS fu a' b' = some r) :
    Calls Tryz.prog 35 [v0_, v1_].toArray w0 fun e w' => ∃ v, e = .returned v ∧ (Below w0.heap.size w0 w' ∧ VR w' (St ⟨w0, []⟩ S [] [] [] true) v r) := by
 obtain ⟨A, c, rfl, hl⟩ := VR_list h0
 obtain ⟨A2, c2, rfl, hl2⟩ := VR_list h1
 have H := Mem.start ⟨w0, []⟩ S
 have H := H.pushArg (MP.val [(.slice A a'.length c)] a') hl
 have H := H.pushArg (MP.val [(.slice A2 b'.length c2)] b') hl2
 refine enter Tryz.func35 rfl rfl (nle rfl) rfl fun a hf => ?_
 rw [laws_eqItemS] at hF
 refine sq (reg (pr 1 hf rfl rfl fun a hf => ?_))
 refine wl_end (then_n (sq (sq (reg (pr 5 hf rfl rfl fun a hf => ?_)))))
 refine wl_end (then_n (iteB hF (fun hc hF => cd_t hf rfl hc ?_) fun hc hF => cd_f hf rfl hc ?_))
 ·refine sq (reg (pr 1 hf rfl rfl fun a hf => ?_))
  refine wl_end (then_n (wp_ret (then_r (?_))))
  obtain rfl := Option.some.inj hF
  refine ret_1 (fn := Tryz.f35) (r := .tmp 4) hf rfl (rv_tmp hf rfl) ?_
  exact ⟨_, rfl, H.bel, mk_bool⟩
 ·refine wp_skip (then_n (sq (sq (reg (pr 1 hf rfl rfl fun a hf => ?_)))))
  refine wl_end (then_n ?_)
  obtain ⟨out', hB1, hF⟩ := bind_some hF
  have hf := hf.prune [0, 1, 5] rfl
  have H := H.let [] [] [] [0, 1] rfl rfl rfl rfl
  refine loopC (fun (s : Int) (a : Act) (w : World) => match s with | i => Fr a 27 [(0, (.slice A a'.length c)), (1, (.slice A2 b'.length c2)), (5, (.int .i64 i))] ∧ Mem ⟨w0, []⟩ S [] [] [] [(false, MP.val [(.slice A2 b'.length c2)] (b' : List Item)), (false, MP.val [(.slice A a'.length c)] (a' : List Item))] w) (fun k (s : Int) => laws_eqItemS_L1 fu a' b' k s = some out') (fun s => out' = Out.next s) 0 fu hB1 ⟨hf, H⟩ (fun s h => by cases h) ?_ ?_
  ·rintro fk i a w hR1 hI
   replace hR1 : laws_eqItemS_L1 fu a' b' (fk + 1) i = some out' := hR1
   rw [laws_eqItemS_L1] at hR1
   obtain ⟨hf, H⟩ := hI
   refine sq (sq (reg (pr 4 hf rfl rfl fun a hf => ?_)))
   refine wl_end (then_n (iteB hR1 (fun hc2 hR1 => cd_t hf rfl hc2 ?_) fun hc2 hR1 => cd_f hf rfl hc2 ?_))
   ·refine wp_skip (then_n (sq (wp_block (sq (drawn [] (bs := [false, false, false, false, false, false, false, false, false, false]) (fuel := 10) (Checked.mixed Tryz.checked) rfl rfl fun w hb => ?_)))))
    have H := H.keep hb
    refine tp 0 rfl rfl hf (by kernel_rfl) (fun _ => trivial) rfl fun a hf => ?_
    refine tp 1 rfl rfl hf (by kernel_rfl) (fun _ => trivial) rfl fun a hf => ?_
    obtain ⟨e, he, hR1⟩ := bind_some hR1
    obtain ⟨p, o, cs, hx, hr, H⟩ := pre_iaddr H Tryz.underlying56 TF.sz117 1 rfl he
    refine tP 2 rfl rfl rfl rfl hf (by kernel_rfl) (fun _ => trivial) (fun w => rq_iaddrE hf rfl rfl rfl hx w) fun a hf => ?_
    obtain rfl := Item_cells hr
    refine strT (H.let [] [] [] [0] rfl rfl rfl rfl) (fun w H => trivial) fun hS => ?_
    refine tS 3 [] rfl rfl rfl rfl hf (by kernel_rfl) (by kernel_rfl) hS (fun w H => rq_loadIN hf H TF.la117 0 0 rfl rfl rfl rfl) fun a hf => ?_
    refine tp 4 rfl rfl hf (by kernel_rfl) (fun _ => hS) rfl fun a hf => ?_
    refine tp 5 rfl rfl hf (by kernel_rfl) (fun _ => hS) rfl fun a hf => ?_
    obtain ⟨e2, he2, hR1⟩ := bind_some hR1
    obtain ⟨p2, o2, cs2, hx2, hr2, H⟩ := pre_iaddr H Tryz.underlying56 TF.sz117 1 rfl he2
    refine tP 6 rfl rfl rfl rfl hf (by kernel_rfl) (fun _ => hS) (fun w => rq_iaddrE hf rfl rfl rfl hx2 w) fun a hf => ?_
    obtain rfl := Item_cells hr2
    refine strT (H.let [] [] [] [0, 1] rfl rfl rfl rfl) (fun w H => H.let [] [] [] [1] rfl rfl rfl rfl) fun hS => ?_
    refine tS 7 [] rfl rfl rfl rfl hf (by kernel_rfl) (by kernel_rfl) hS (fun w H => rq_loadIN hf H TF.la117 0 0 rfl rfl rfl rfl) fun a hf => ?_
    obtain ⟨y, hy, hR1⟩ := bind_some hR1
    refine n1 8 (by kernel_rfl) rfl rfl (op_call hf TF.cl94 rfl (by decide) (laws_eqItem_ok (S := fun _ => True) Item_mkv Item_mkv hy) fun v w a hp hf => ?_)
    obtain ⟨hb, hp⟩ := hp
    obtain rfl := VR_bool hp
    have H := H.keep hb
    have hS := H.let [] [] [] [0, 1] rfl rfl rfl rfl
    refine ⟨fun _ => hS, ?_⟩
    refine tp 9 rfl rfl hf (by kernel_rfl) (fun _ => hS) rfl fun a hf => ?_
    refine dn (by kernel_rfl) ?_
    have hf := hf.prune [0, 1, 5, 26] rfl
    refine then_n (iteB hR1 (fun hc3 hR1 => cd_t hf rfl hc3 ?_) fun hc3 hR1 => cd_f hf rfl hc3 ?_)
    ·refine sq (reg (pr 1 hf rfl rfl fun a hf => ?_))
     refine wl_end (then_n (wp_ret (blk_r (then_r (then_r (blk_r (then_r (then_r (?_)))))))))
     obtain rfl := Option.some.inj hR1
     replace hF := on_ret hF
     obtain rfl := Option.some.inj hF
     refine ret_1 (fn := Tryz.f35) (r := .tmp 4) hf rfl (rv_tmp hf rfl) ?_
     exact ⟨_, rfl, H.bel, mk_bool⟩
    ·refine wp_skip (blk_n (then_n (reg (pr 3 hf rfl rfl fun a hf => ?_))))
     refine wl_end ?_
     have hf := hf.prune [0, 1, 5] rfl
     have H := H.let [] [] [] [2, 3] rfl rfl rfl rfl
     exact then_n ⟨w64 (i + 1), hR1, hf, H⟩
   ·refine wp_exit (then_x (then_x (blk_e (?_))))
    have hf := hf.prune [0, 1, 5] rfl
    have H := H.let [] [] [] [0, 1] rfl rfl rfl rfl
    exact ⟨i, (Option.some.inj hR1).symm, hf, H⟩
  rintro a w ⟨i2, rfl, hf, H⟩
  replace hF := on_next hF
  refine then_n (sq (reg (pr 1 hf rfl rfl fun a hf => ?_)))
  refine wl_end (then_n (wp_ret (?_)))
  obtain rfl := Option.some.inj hF
  refine ret_1 (fn := Tryz.f35) (r := .tmp 4) hf rfl (rv_tmp hf rfl) ?_
  exact ⟨_, rfl, H.bel, mk_bool⟩

/- loop.example/g00897/laws.markItemS -/
set_option maxHeartbeats 1000000 in
theorem laws_markItemS_ok {fu : Nat} {w0 : World} {S : Nat → Prop} {F : List Nat} {cs : List Value} {v1_ : Value} {a' : List Item} {k' : Int} {r : Int × List Item} (hO : GoTy.own w0 F cs a') (hn : F.Nodup) (h1 : VR w0 S v1_ k') (hF : laws_markItemS fu a' k' = some r) :
    Calls Tryz.prog 36 [(bif GoTy.agg (List Item) then .agg cs.toArray else cs.headD undef), v1_].toArray w0 fun e w' => ∃ v, e = .returned v ∧ (Chg w0 w' F ∧ VR w' (fun _ => True) v r.1 ∧ ∃ F', GoTy.own w' F' cs r.2 ∧ Back w0 w' F F') := by
 obtain rfl := VR_int h1
 obtain ⟨A, c, rfl, hO⟩ := own_list hO
 have H := Mem.startG S hO hn
 obtain ⟨Fs, E, H, -⟩ := H.thaw rfl
 have H := H.rowSh 0 rfl
 refine enter Tryz.func36 rfl rfl (nle rfl) rfl fun a hf => ?_
 rw [laws_markItemS] at hF
 refine sq (reg (pr 1 hf rfl rfl fun a hf => ?_))
 refine wl_end (then_n (sq (sq (reg (pr 1 hf rfl rfl fun a hf => ?_)))))
 refine wl_end (then_n ?_)
 obtain ⟨out', hB1, hF⟩ := bind_some hF
 have hf := hf.prune [0, 1, 5] rfl
 have hf : Fr a 34 [(0, (.slice A a'.length c)), (1, (.int .i64 k')), (5, (.int .i64 0))] := by first | exact hf | (simp only [List.length_set] at hf; exact hf)
 have H := H.let [] [true] [] [] rfl rfl rfl rfl
 refine loopC (fun (s : List Item × Int × Int) (a : Act) (w : World) => match s with | (a2, k2, i) => a2.length = a'.length ∧ Fr a 34 [(0, (.slice A a'.length c)), (1, (.int .i64 k2)), (5, (.int .i64 i))] ∧ Mem ⟨w0, F⟩ S [] [⟨.sh true, E, A, c, (a2 : List Item)⟩] [] [] w) (fun k (s : List Item × Int × Int) => laws_markItemS_L1 fu k s.1 s.2.1 s.2.2 = some out') (fun s => out' = s) (a', k', 0) fu hB1 ⟨rfl, hf, H⟩ (fun s h => by cases h) ?_ ?_
 ·rintro fk ⟨a2, k2, i⟩ a w hR1 hI
  replace hR1 : laws_markItemS_L1 fu (fk + 1) a2 k2 i = some out' := hR1
  rw [laws_markItemS_L1] at hR1
  obtain ⟨hlen, hf, H⟩ := hI
  have hf : Fr a 34 [(0, (.slice A a2.length c)), (1, (.int .i64 k2)), (5, (.int .i64 i))] := by rw [hlen]; exact hf
  refine sq (sq (reg (pr 4 hf rfl rfl fun a hf => ?_)))
  refine wl_end (then_n (iteB hR1 (fun hc hR1 => cd_t hf rfl hc ?_) fun hc hR1 => cd_f hf rfl hc ?_))
  ·refine wp_skip (then_n (sq (wp_block (sq (reg (pr 3 hf rfl rfl fun a hf => ?_))))))
   obtain ⟨e, he, hR1⟩ := bind_some hR1
   refine wl0 rfl (op_iaddrR hf H Tryz.underlying56 TF.sz117 0 rfl rfl rfl he (by decide) fun p o cs a hf hA hr hk => ?_)
   obtain rfl := Item_cells hr
   refine pr 1 hf rfl rfl fun a hf => ?_
   refine wl0 rfl (op_storeR (e' := ({ Kind := k2, Node := e.Node, Count := e.Count } : Item)) (o := o) (off := 0) hf H TF.sz3 0 rfl rfl rfl rfl rfl (nle rfl) rfl hA he (fun cs h => by obtain rfl := Item_cells h; exact Item_mk (x := ({ Kind := k2, Node := e.Node, Count := e.Count } : Item))) fun w H => ?_)
   replace hf : Fr a 34 [(0, (.slice A a2.length c)), (1, (.int .i64 k2)), (5, (.int .i64 i)), (6, (.int .i64 i)), (7, (.slice A a2.length c)), (8, (.int .i64 (a2.length : Int))), (9, (.bool (decide (i < (a2.length : Int))))), (12, (.slice A a2.length c)), (13, (.int .i64 i)), (14, (.int .i64 k2)), (15, (.pointer (some ⟨p, o + 0, none⟩))), (16, (.pointer (some ⟨p, o + 0, none⟩)))] := hf.prune [0, 1, 5, 6, 7, 8, 9, 12, 13, 14, 15, 16] rfl
   replace hf : Fr a 34 [(0, (.slice A (a2.set (i).toNat ({ Kind := k2, Node := e.Node, Count := e.Count } : Item)).length c)), (1, (.int .i64 k2)), (5, (.int .i64 i)), (6, (.int .i64 i)), (7, (.slice A (a2.set (i).toNat ({ Kind := k2, Node := e.Node, Count := e.Count } : Item)).length c)), (8, (.int .i64 (a2.length : Int))), (9, (.bool (decide (i < (a2.length : Int))))), (12, (.slice A (a2.set (i).toNat ({ Kind := k2, Node := e.Node, Count := e.Count } : Item)).length c)), (13, (.int .i64 i)), (14, (.int .i64 k2)), (15, (.pointer (some ⟨p, o + 0, none⟩))), (16, (.pointer (some ⟨p, o + 0, none⟩)))] := by simpa only [List.length_set, Nat.add_zero] using hf
   refine wl_end (then_n (sq (reg (pr 3 hf rfl rfl fun a hf => ?_))))
   refine wl_end (then_n (sq (reg (pr 3 hf rfl rfl fun a hf => ?_))))
   obtain ⟨e2, he2, hR1⟩ := bind_some hR1
   refine wl0 rfl (op_iaddrR hf H Tryz.underlying56 TF.sz117 0 rfl rfl rfl he2 (by decide) fun p2 o2 cs2 a hf hA2 hr2 hk2 => ?_)
   obtain rfl := Item_cells hr2
   refine pr 1 hf rfl rfl fun a hf => ?_
   refine wl0 rfl (op_storeR (e' := ({ Kind := e2.Kind, Node := w64 (k2 + 1), Count := e2.Count } : Item)) (o := o2) (off := 1) hf H TF.sz3 0 rfl rfl rfl rfl rfl (nle rfl) rfl hA2 he2 (fun cs h => by obtain rfl := Item_cells h; exact Item_mk (x := ({ Kind := e2.Kind, Node := w64 (k2 + 1), Count := e2.Count } : Item))) fun w H => ?_)
   replace hf : Fr a 34 [(0, (.slice A (a2.set (i).toNat ({ Kind := k2, Node := e.Node, Count := e.Count } : Item)).length c)), (1, (.int .i64 (w64 (k2 + 1)))), (5, (.int .i64 i)), (6, (.int .i64 i)), (7, (.slice A (a2.set (i).toNat ({ Kind := k2, Node := e.Node, Count := e.Count } : Item)).length c)), (8, (.int .i64 (a2.length : Int))), (9, (.bool (decide (i < (a2.length : Int))))), (12, (.slice A (a2.set (i).toNat ({ Kind := k2, Node := e.Node, Count := e.Count } : Item)).length c)), (13, (.int .i64 i)), (14, (.int .i64 k2)), (15, (.pointer (some ⟨p, o + 0, none⟩))), (16, (.pointer (some ⟨p, o + 0, none⟩))), (17, (.int .i64 k2)), (18, (.int .i64 (w64 (k2 + 1)))), (19, (.slice A (a2.set (i).toNat ({ Kind := k2, Node := e.Node, Count := e.Count } : Item)).length c)), (20, (.int .i64 i)), (21, (.int .i64 (w64 (k2 + 1)))), (22, (.pointer (some ⟨p2, o2 + 0, none⟩))), (23, (.pointer (some ⟨p2, o2 + 1, none⟩)))] := hf.prune [0, 1, 5, 6, 7, 8, 9, 12, 13, 14, 15, 16, 17, 18, 19, 20, 21, 22, 23] rfl
   replace hf : Fr a 34 [(0, (.slice A ((a2.set (i).toNat ({ Kind := k2, Node := e.Node, Count := e.Count } : Item)).set (i).toNat ({ Kind := e2.Kind, Node := w64 (k2 + 1), Count := e2.Count } : Item)).length c)), (1, (.int .i64 (w64 (k2 + 1)))), (5, (.int .i64 i)), (6, (.int .i64 i)), (7, (.slice A ((a2.set (i).toNat ({ Kind := k2, Node := e.Node, Count := e.Count } : Item)).set (i).toNat ({ Kind := e2.Kind, Node := w64 (k2 + 1), Count := e2.Count } : Item)).length c)), (8, (.int .i64 (a2.length : Int))), (9, (.bool (decide (i < (a2.length : Int))))), (12, (.slice A ((a2.set (i).toNat ({ Kind := k2, Node := e.Node, Count := e.Count } : Item)).set (i).toNat ({ Kind := e2.Kind, Node := w64 (k2 + 1), Count := e2.Count } : Item)).length c)), (13, (.int .i64 i)), (14, (.int .i64 k2)), (15, (.pointer (some ⟨p, o + 0, none⟩))), (16, (.pointer (some ⟨p, o + 0, none⟩))), (17, (.int .i64 k2)), (18, (.int .i64 (w64 (k2 + 1)))), (19, (.slice A ((a2.set (i).toNat ({ Kind := k2, Node := e.Node, Count := e.Count } : Item)).set (i).toNat ({ Kind := e2.Kind, Node := w64 (k2 + 1), Count := e2.Count } : Item)).length c)), (20, (.int .i64 i)), (21, (.int .i64 (w64 (k2 + 1)))), (22, (.pointer (some ⟨p2, o2 + 0, none⟩))), (23, (.pointer (some ⟨p2, o2 + 1, none⟩)))] := by simpa only [List.length_set, Nat.add_zero] using hf
   have hf := hf.prune [0, 1, 5] rfl
   refine wl_end (then_n (sq (reg (pr 3 hf rfl rfl fun a hf => ?_))))
   refine wl_end (then_n (sq (reg (pr 3 hf rfl rfl fun a hf => ?_))))
   obtain ⟨e3, he3, hR1⟩ := bind_some hR1
   refine wl0 rfl (op_iaddrR hf H Tryz.underlying56 TF.sz117 0 rfl rfl rfl he3 (by decide) fun p3 o3 cs3 a hf hA3 hr3 hk3 => ?_)
   obtain rfl := Item_cells hr3
   refine pr 1 hf rfl rfl fun a hf => ?_
   refine wl0 rfl (op_storeR (e' := ({ Kind := e3.Kind, Node := e3.Node, Count := w64 ((w64 (k2 + 1)) + 1) } : Item)) (o := o3) (off := 2) hf H TF.sz3 0 rfl rfl rfl rfl rfl (nle rfl) rfl hA3 he3 (fun cs h => by obtain rfl := Item_cells h; exact Item_mk (x := ({ Kind := e3.Kind, Node := e3.Node, Count := w64 ((w64 (k2 + 1)) + 1) } : Item))) fun w H => ?_)
   replace hf : Fr a 34 [(0, (.slice A ((a2.set (i).toNat ({ Kind := k2, Node := e.Node, Count := e.Count } : Item)).set (i).toNat ({ Kind := e2.Kind, Node := w64 (k2 + 1), Count := e2.Count } : Item)).length c)), (1, (.int .i64 (w64 ((w64 (k2 + 1)) + 1)))), (5, (.int .i64 i)), (24, (.int .i64 (w64 (k2 + 1)))), (25, (.int .i64 (w64 ((w64 (k2 + 1)) + 1)))), (26, (.slice A ((a2.set (i).toNat ({ Kind := k2, Node := e.Node, Count := e.Count } : Item)).set (i).toNat ({ Kind := e2.Kind, Node := w64 (k2 + 1), Count := e2.Count } : Item)).length c)), (27, (.int .i64 i)), (28, (.int .i64 (w64 ((w64 (k2 + 1)) + 1)))), (29, (.pointer (some ⟨p3, o3 + 0, none⟩))), (30, (.pointer (some ⟨p3, o3 + 2, none⟩)))] := hf.prune [0, 1, 5, 24, 25, 26, 27, 28, 29, 30] rfl
   replace hf : Fr a 34 [(0, (.slice A (((a2.set (i).toNat ({ Kind := k2, Node := e.Node, Count := e.Count } : Item)).set (i).toNat ({ Kind := e2.Kind, Node := w64 (k2 + 1), Count := e2.Count } : Item)).set (i).toNat ({ Kind := e3.Kind, Node := e3.Node, Count := w64 ((w64 (k2 + 1)) + 1) } : Item)).length c)), (1, (.int .i64 (w64 ((w64 (k2 + 1)) + 1)))), (5, (.int .i64 i)), (24, (.int .i64 (w64 (k2 + 1)))), (25, (.int .i64 (w64 ((w64 (k2 + 1)) + 1)))), (26, (.slice A (((a2.set (i).toNat ({ Kind := k2, Node := e.Node, Count := e.Count } : Item)).set (i).toNat ({ Kind := e2.Kind, Node := w64 (k2 + 1), Count := e2.Count } : Item)).set (i).toNat ({ Kind := e3.Kind, Node := e3.Node, Count := w64 ((w64 (k2 + 1)) + 1) } : Item)).length c)), (27, (.int .i64 i)), (28, (.int .i64 (w64 ((w64 (k2 + 1)) + 1)))), (29, (.pointer (some ⟨p3, o3 + 0, none⟩))), (30, (.pointer (some ⟨p3, o3 + 2, none⟩)))] := by simpa only [List.length_set, Nat.add_zero] using hf
   refine wl_end (then_n (reg (pr 3 hf rfl rfl fun a hf => ?_)))
   refine wl_end (blk_n (then_n (reg (pr 3 hf rfl rfl fun a hf => ?_))))
   refine wl_end ?_
   have hf := hf.prune [0, 1, 5] rfl
   have hf : Fr a 34 [(0, (.slice A a'.length c)), (1, (.int .i64 (w64 ((w64 ((w64 (k2 + 1)) + 1)) + 1)))), (5, (.int .i64 (w64 (i + 1))))] := by first | exact hf | (simp only [List.length_set, hlen] at hf; exact hf)
   have H := H.let [] [true] [] [] rfl rfl rfl rfl
   exact then_n ⟨(((a2.set (i).toNat ({ Kind := k2, Node := e.Node, Count := e.Count } : Item)).set (i).toNat ({ Kind := e2.Kind, Node := w64 (k2 + 1), Count := e2.Count } : Item)).set (i).toNat ({ Kind := e3.Kind, Node := e3.Node, Count := w64 ((w64 (k2 + 1)) + 1) } : Item), w64 ((w64 ((w64 (k2 + 1)) + 1)) + 1), w64 (i + 1)), hR1, (by simp only [List.length_set, hlen]), hf, H⟩
  ·refine wp_exit (then_x (then_x (blk_e (?_))))
   have hf := hf.prune [0, 1, 5] rfl
   have hf : Fr a 34 [(0, (.slice A a'.length c)), (1, (.int .i64 k2)), (5, (.int .i64 i))] := by first | exact hf | (simp only [List.length_set, hlen] at hf; exact hf)
   have H := H.let [] [true] [] [] rfl rfl rfl rfl
   exact ⟨(a2, k2, i), (Option.some.inj hR1).symm, (by simp only [List.length_set, hlen]), hf, H⟩
 rintro a w ⟨⟨a3, k3, i2⟩, rfl, hlen, hf, H⟩
 try dsimp only at hlen
 have hf : Fr a 34 [(0, (.slice A a3.length c)), (1, (.int .i64 k3)), (5, (.int .i64 i2))] := by rw [hlen]; exact hf
 dsimp only at hF
 refine then_n (sq (reg (pr 2 hf rfl rfl fun a hf => ?_)))
 refine wl_end (then_n (wp_ret (?_)))
 have H := H.rowOwn 0 rfl rfl
 obtain ⟨F', H⟩ := H.freezeOwn 0 rfl
 rw [hlen] at H
 obtain rfl := Option.some.inj hF
 refine ret_1 (fn := Tryz.f36) (r := .tmp 4) hf rfl (rv_tmp hf rfl) ?_
 exact ⟨_, rfl, H.chg, mk_int, _, H.ownAt 0 rfl, H.back⟩

/- loop.example/g00897/laws.heldItemS -/
set_option maxHeartbeats 1000000 in
theorem laws_heldItemS_ok {fu : Nat} {w0 : World} {S : Nat → Prop} {v0_ : Value} {v1_ : Value} {a' : List Item} {k' : Int} {r : Int} (h0 : VR w0 S v0_ a') (h1 : VR w0 S v1_ k') (hF : laws_heldItemS fu a' k' = some r) :
    Calls Tryz.prog 37 [v0_, v1_].toArray w0 fun e w' => ∃ v, e = .returned v ∧ (Below w0.heap.size w0 w' ∧ VR w' (St ⟨w0, []⟩ S [] [] [] true) v r) := by
 obtain ⟨A, c, rfl, hl⟩ := VR_list h0
 obtain rfl := VR_int h1
 have H := Mem.start ⟨w0, []⟩ S
 have H := H.pushArg (MP.val [(.slice A a'.length c)] a') hl
 refine enter Tryz.func37 rfl rfl (nle rfl) rfl fun a hf => ?_
 rw [laws_heldItemS] at hF
 refine sq (reg (pr 1 hf rfl rfl fun a hf => ?_))
 refine wl_end (then_n (sq (sq (reg (pr 1 hf rfl rfl fun a hf => ?_)))))
 refine wl_end (then_n ?_)
 obtain ⟨out', hB1, hF⟩ := bind_some hF
 have hf := hf.prune [0, 1, 5] rfl
 have H := H.let [] [] [] [0] rfl rfl rfl rfl
 refine loopC (fun (s : Int × Int) (a : Act) (w : World) => match s with | (k2, i) => Fr a 40 [(0, (.slice A a'.length c)), (1, (.int .i64 k2)), (5, (.int .i64 i))] ∧ Mem ⟨w0, []⟩ S [] [] [] [(false, MP.val [(.slice A a'.length c)] (a' : List Item))] w) (fun k (s : Int × Int) => laws_heldItemS_L1 fu a' k s.1 s.2 = some out') (fun s => out' = Out.next s) (k', 0) fu hB1 ⟨hf, H⟩ (fun s h => by cases h) ?_ ?_
 ·rintro fk ⟨k2, i⟩ a w hR1 hI
  replace hR1 : laws_heldItemS_L1 fu a' (fk + 1) k2 i = some out' := hR1
  rw [laws_heldItemS_L1] at hR1
  obtain ⟨hf, H⟩ := hI
  refine sq (sq (reg (pr 4 hf rfl rfl fun a hf => ?_)))
  refine wl_end (then_n (iteB hR1 (fun hc hR1 => cd_t hf rfl hc ?_) fun hc hR1 => cd_f hf rfl hc ?_))
  ·refine wp_skip (then_n (sq (wp_block (sq (sq (reg (pr 2 hf rfl rfl fun a hf => ?_)))))))
   obtain ⟨e, he, hR1⟩ := bind_some hR1
   refine wl0 rfl (op_iaddr hf H Tryz.underlying56 TF.sz117 0 rfl rfl rfl he (by decide) fun p o cs a hf hr H => ?_)
   obtain rfl := Item_cells hr
   refine pr 1 hf rfl rfl fun a hf => ?_
   refine wl0 rfl (op_q hf (rq_loadI hf H TF.ls3 0 0 rfl rfl rfl) rfl (by decide) fun a hf => ?_)
   refine pr 2 hf rfl rfl fun a hf => ?_
   refine wl_end (then_n (iteB hR1 (fun hc2 hR1 => cd_t hf rfl hc2 ?_) fun hc2 hR1 => cd_f hf rfl hc2 ?_))
   ·refine sq (reg (pr 1 hf rfl rfl fun a hf => ?_))
    have hf := hf.prune [4] rfl
    refine wl_end (then_n (wp_ret (then_r (blk_r (then_r (then_r (blk_r (then_r (then_r (?_))))))))))
    obtain rfl := Option.some.inj hR1
    replace hF := on_ret hF
    obtain rfl := Option.some.inj hF
    refine ret_1 (fn := Tryz.f37) (r := .tmp 4) hf rfl (rv_tmp hf rfl) ?_
    exact ⟨_, rfl, H.bel, mk_int⟩
   ·refine wp_skip (then_n (sq (reg (pr 3 hf rfl rfl fun a hf => ?_))))
    have hf := hf.prune [0, 1, 5] rfl
    refine wl_end (then_n (sq (sq (reg (pr 2 hf rfl rfl fun a hf => ?_)))))
    obtain ⟨e2, he2, hR1⟩ := bind_some hR1
    refine wl0 rfl (op_iaddr hf H Tryz.underlying56 TF.sz117 1 rfl rfl rfl he2 (by decide) fun p2 o2 cs2 a hf hr2 H => ?_)
    obtain rfl := Item_cells hr2
    refine pr 1 hf rfl rfl fun a hf => ?_
    refine wl0 rfl (op_q hf (rq_loadI hf H TF.ls3 0 1 rfl rfl rfl) rfl (by decide) fun a hf => ?_)
    refine pr 2 hf rfl rfl fun a hf => ?_
    refine wl_end (then_n (iteB hR1 (fun hc3 hR1 => cd_t hf rfl hc3 ?_) fun hc3 hR1 => cd_f hf rfl hc3 ?_))
    ·refine sq (reg (pr 1 hf rfl rfl fun a hf => ?_))
     refine wl_end (then_n (wp_ret (then_r (blk_r (then_r (then_r (blk_r (then_r (then_r (?_))))))))))
     obtain rfl := Option.some.inj hR1
     replace hF := on_ret hF
     obtain rfl := Option.some.inj hF
     refine ret_1 (fn := Tryz.f37) (r := .tmp 4) hf rfl (rv_tmp hf rfl) ?_
     exact ⟨_, rfl, H.bel, mk_int⟩
    ·refine wp_skip (then_n (sq (reg (pr 3 hf rfl rfl fun a hf => ?_))))
     refine wl_end (then_n (sq (sq (reg (pr 2 hf rfl rfl fun a hf => ?_)))))
     obtain ⟨e3, he3, hR1⟩ := bind_some hR1
     refine wl0 rfl (op_iaddr hf H Tryz.underlying56 TF.sz117 2 rfl rfl rfl he3 (by decide) fun p3 o3 cs3 a hf hr3 H => ?_)
     obtain rfl := Item_cells hr3
     refine pr 1 hf rfl rfl fun a hf => ?_
     refine wl0 rfl (op_q hf (rq_loadI hf H TF.ls3 0 2 rfl rfl rfl) rfl (by decide) fun a hf => ?_)
     refine pr 2 hf rfl rfl fun a hf => ?_
     have hf := hf.prune [0, 1, 5, 36] rfl
     refine wl_end (then_n (iteB hR1 (fun hc4 hR1 => cd_t hf rfl hc4 ?_) fun hc4 hR1 => cd_f hf rfl hc4 ?_))
     ·refine sq (reg (pr 1 hf rfl rfl fun a hf => ?_))
      refine wl_end (then_n (wp_ret (then_r (blk_r (then_r (then_r (blk_r (then_r (then_r (?_))))))))))
      obtain rfl := Option.some.inj hR1
      replace hF := on_ret hF
      obtain rfl := Option.some.inj hF
      refine ret_1 (fn := Tryz.f37) (r := .tmp 4) hf rfl (rv_tmp hf rfl) ?_
      exact ⟨_, rfl, H.bel, mk_int⟩
     ·refine wp_skip (then_n (reg (pr 3 hf rfl rfl fun a hf => ?_)))
      refine wl_end (blk_n (then_n (reg (pr 3 hf rfl rfl fun a hf => ?_))))
      refine wl_end ?_
      have hf := hf.prune [0, 1, 5] rfl
      have H := H.let [] [] [] [3] rfl rfl rfl rfl
      exact then_n ⟨(w64 ((w64 ((w64 (k2 + 1)) + 1)) + 1), w64 (i + 1)), hR1, hf, H⟩
  ·refine wp_exit (then_x (then_x (blk_e (?_))))
   have hf := hf.prune [0, 1, 5] rfl
   have H := H.let [] [] [] [0] rfl rfl rfl rfl
   exact ⟨(k2, i), (Option.some.inj hR1).symm, hf, H⟩
 rintro a w ⟨⟨k3, i2⟩, rfl, hf, H⟩
 replace hF := on_next hF
 dsimp only at hF
 refine then_n (sq (reg (pr 2 hf rfl rfl fun a hf => ?_)))
 refine wl_end (then_n (wp_ret (?_)))
 obtain rfl := Option.some.inj hF
 refine ret_1 (fn := Tryz.f37) (r := .tmp 4) hf rfl (rv_tmp hf rfl) ?_
 exact ⟨_, rfl, H.bel, mk_int⟩

/- loop.example/g00897/laws.FnExactBillOf -/
set_option maxHeartbeats 1000000 in
theorem laws_FnExactBillOf_ok {fu : Nat} {w0 : World} {S : Nat → Prop} {v0_ : Value} {v1_ : Value} {v2_ : Value} {aP : Plan} {aReach : Int} {aSpacing : Int} {r : Bool} (h0 : VR w0 S v0_ aP) (h1 : VR w0 S v1_ aReach) (h2 : VR w0 S v2_ aSpacing) (hF : laws_FnExactBillOf fu aP aReach aSpacing = some r) :
    Calls Tryz.prog 8 [v0_, v1_, v2_].toArray w0 fun e w' => ∃ v, e = .returned v ∧ (Below w0.heap.size w0 w' ∧ VR w' (St ⟨w0, []⟩ S [] [] [] true) v r) := by
 obtain ⟨A, c, A2, c2, A3, c3, rfl, hl, hl2, hl3⟩ := Plan_open h0
 obtain rfl := VR_int h1
 obtain rfl := VR_int h2
 have H := Mem.start ⟨w0, []⟩ S
 have H := H.pushArg (MP.val [(.slice A aP.Network.Nodes.length c)] aP.Network.Nodes) hl
 have H := H.pushArg (MP.val [(.slice A2 aP.Network.Fibers.length c2)] aP.Network.Fibers) hl2
 have H := H.pushArg (MP.val [(.slice A3 aP.Lights.length c3)] aP.Lights) hl3
 refine enter Tryz.func8 rfl rfl (nle rfl) rfl fun a hf => ?_
 rw [laws_FnExactBillOf] at hF
 refine sq (reg (wl0 rfl (op_box hf H rfl rfl (by decide) fun b' a w hf H => ?_)))
 refine pr 1 hf rfl rfl fun a hf => ?_
 refine wl_end (then_n (sq (reg (pr 1 hf rfl rfl fun a hf => ?_))))
 refine wl_end (then_n (sq (reg (wl0 rfl (op_q hf (rq_loadBN hf H TF.la28 0 rfl rfl rfl rfl) rfl (by decide) fun a hf => ?_)))))
 refine pr 1 hf rfl rfl fun a hf => ?_
 obtain ⟨y, hy, hF⟩ := bind_some hF
 refine wl0 rfl (op_call hf TF.cl15 rfl (by decide) (laws_szPlan_ok (S := fun _ => True) (Plan_mkv (x := aP) (rep_true (α := List ByteArray) (H.get 2 rfl)) (rep_true (α := List Fiber) (H.get 1 rfl)) (rep_true (α := List Light) (H.get 0 rfl))) mk_int hy) fun v w a hp hf => ?_)
 obtain ⟨hb, hp⟩ := hp
 obtain rfl := VR_int hp
 have H := H.keep hb
 refine pr 1 hf rfl rfl fun a hf => ?_
 refine wl_end (then_n (sq (sq (reg (pr 2 hf rfl rfl fun a hf => ?_)))))
 refine wl_end (then_n (iteB hF (fun hc hF => cd_t hf rfl hc ?_) fun hc hF => cd_f hf rfl hc ?_))
 ·refine sq (reg (pr 1 hf rfl rfl fun a hf => ?_))
  refine wl_end (then_n (wp_ret (then_r (?_))))
  obtain rfl := Option.some.inj hF
  refine ret_1 (fn := Tryz.f8) (r := .tmp 6) hf rfl (rv_tmp hf rfl) ?_
  exact ⟨_, rfl, H.bel, mk_bool⟩
 ·refine wp_skip (then_n (sq (reg (wl0 rfl (op_q hf (rq_loadBN hf H TF.la28 0 rfl rfl rfl rfl) rfl (by decide) fun a hf => ?_)))))
  obtain ⟨y2, hy2, hF⟩ := bind_some hF
  refine wl0 rfl (op_call hf TF.cl17 rfl (by decide) (laws_toPlan_ok (S := fun _ => True) (Plan_mkv (x := aP) (rep_true (α := List ByteArray) (H.get 2 rfl)) (rep_true (α := List Fiber) (H.get 1 rfl)) (rep_true (α := List Light) (H.get 0 rfl))) hy2) fun v2 w a hp2 hf => ?_)
  obtain ⟨hb2, F, hp3, hN⟩ := hp2
  obtain ⟨A4, c4, F2, A5, c5, F3, A6, c6, F4, rfl, rfl, hl4, hl5, hl6⟩ := Plan_vo hp3
  have H := H.addOwn hb2 (X := [(⟨F2, MP.own F2 [(.slice A4 y2.Network.Nodes.length c4)] (y2.Network.Nodes : List ByteArray)⟩ : DI), (⟨F3, MP.own F3 [(.slice A5 y2.Network.Fibers.length c5)] (y2.Network.Fibers : List Fiber)⟩ : DI), (⟨F4, MP.own F4 [(.slice A6 y2.Lights.length c6)] (y2.Lights : List Light)⟩ : DI)]) (by simpa using hN.1) (ps1 hl4 (ps1 hl5 (ps1 hl6 ps0))) (by simpa using hN.2)
  have H := H.lend 0 rfl
  have H := H.lend 1 rfl
  have H := H.lend 2 rfl
  refine pr 2 hf rfl rfl fun a hf => ?_
  obtain ⟨y3, hy3, hF⟩ := bind_some hF
  refine wl0 rfl (op_call hf TF.cl33 rfl (by decide) (spec_BillOf_ok (S := fun _ => True) (Plan_mkv (x := y2) (rep_true (α := List ByteArray) (H.get 2 rfl)) (rep_true (α := List Fiber) (H.get 1 rfl)) (rep_true (α := List Light) (H.get 0 rfl))) mk_int mk_int hy3) fun v3 w a hp4 hf => ?_)
  obtain ⟨hb3, v4, v5, rfl, hp5, hp6⟩ := hp4
  obtain ⟨A7, c7, rfl, hl7⟩ := VR_list hp5
  obtain rfl := VR_bool hp6
  obtain ⟨F5, H⟩ := H.addRo hb3 (p := MP.val [(.slice A7 y3.1.length c7)] (y3.1 : List Item)) hl7
  have H := H.lendQ 0 (q := MP.val [(.slice A7 y3.1.length c7)] (y3.1 : List Item)) rfl fun _ _ h => h
  refine pr 5 hf rfl rfl fun a hf => ?_
  have hf := hf.prune [1, 2, 3, 8, 9] rfl
  refine wl_end (then_n (sq (reg (wl0 rfl (op_q hf (rq_loadBN hf H TF.la28 0 rfl rfl rfl rfl) rfl (by decide) fun a hf => ?_)))))
  obtain ⟨y4, hy4, hF⟩ := bind_some hF
  refine wl0 rfl (op_call hf TF.cl17 rfl (by decide) (laws_toPlan_ok (S := fun _ => True) (Plan_mkv (x := aP) (rep_true (α := List ByteArray) (H.get 6 rfl)) (rep_true (α := List Fiber) (H.get 5 rfl)) (rep_true (α := List Light) (H.get 4 rfl))) hy4) fun v6 w a hp7 hf => ?_)
  obtain ⟨hb4, F6, hp8, hN2⟩ := hp7
  obtain ⟨A8, c8, F7, A9, c9, F8, A10, c10, F9, rfl, rfl, hl8, hl9, hl10⟩ := Plan_vo hp8
  have H := H.addOwn hb4 (X := [(⟨F7, MP.own F7 [(.slice A8 y4.Network.Nodes.length c8)] (y4.Network.Nodes : List ByteArray)⟩ : DI), (⟨F8, MP.own F8 [(.slice A9 y4.Network.Fibers.length c9)] (y4.Network.Fibers : List Fiber)⟩ : DI), (⟨F9, MP.own F9 [(.slice A10 y4.Lights.length c10)] (y4.Lights : List Light)⟩ : DI)]) (by simpa using hN2.1) (ps1 hl8 (ps1 hl9 (ps1 hl10 ps0))) (by simpa using hN2.2)
  have H := H.lend 0 rfl
  have H := H.lend 1 rfl
  have H := H.lend 2 rfl
  refine wl0 rfl (op_alloc hf H TF.zv37 rfl (by decide) fun b2 a w hf H => ?_)
  refine wl0 rfl (op_storeB hf H 0 TF.sz37 rfl rfl rfl rfl rfl rfl (nle rfl) fun w H => ?_)
  refine wl_end (then_n (sq (reg (wl0 rfl (op_q hf (rq_loadBN hf H TF.la37 0 rfl rfl rfl rfl) rfl (by decide) fun a hf => ?_)))))
  refine pr 2 hf rfl rfl fun a hf => ?_
  obtain ⟨y5, hy5, hF⟩ := bind_some hF
  refine wl0 rfl (op_call hf TF.cl34 rfl (by decide) (impl_BillOf_ok (S := fun _ => True) (Plan_mkv (x := y4) (rep_true (α := List ByteArray) (H.get 2 rfl)) (rep_true (α := List Fiber) (H.get 1 rfl)) (rep_true (α := List Light) (H.get 0 rfl))) mk_int mk_int hy5) fun v7 w a hp9 hf => ?_)
  obtain ⟨hb5, F10, v8, v9, rfl, hp10, hp11, hN3⟩ := hp9
  obtain ⟨A11, c11, rfl, hl11⟩ := VO_list hp10
  obtain rfl := VR_bool hp11
  have H := H.addOwn hb5 (X := [(⟨F10, MP.own F10 [(.slice A11 y5.1.length c11)] (y5.1 : List Item)⟩ : DI)]) (by simpa using hN3.1) (ps1 hl11 ps0) (by simpa using hN3.2)
  have H := H.lend 0 rfl
  refine pr 5 hf rfl rfl fun a hf => ?_
  refine wl_end (then_n (sq (sq ?_)))
  obtain ⟨c12, hGc12, hF⟩ := bind_some hF
  have fh := hf.prune [1, 2, 3, 8, 9, 10, 11, 12] rfl
  have Hm := H.let [true, true] [] [true, true, true, true, true, false, false, false] [0, 1, 2, 3, 4, 8, 9, 10] rfl rfl rfl rfl
  refine midF 48 (.bool c12) fh Hm ?_ fun a w hf H => ?_
  ·refine reg (pr 2 hf rfl rfl fun a hf => ?_)
   obtain ⟨y6, hy6, hGc12⟩ := bind_some hGc12
   refine wl0 rfl (op_call hf TF.cl35 rfl (by decide) (laws_eqItemS_ok (S := fun _ => True) (mk_list (rep_true (α := List Item) (H.get 0 rfl))) (mk_list (rep_true (α := List Item) (H.get 4 rfl))) hy6) fun v10 w a hp12 hf => ?_)
   obtain ⟨hb6, hp12⟩ := hp12
   obtain rfl := VR_bool hp12
   have H := H.keep hb6
   refine pr 2 hf rfl rfl fun a hf => ?_
   refine iteB hGc12 (fun hc2 hGc12 => ?_) fun hc2 hGc12 => ?_
   ·have hf := hf.lit 44 rfl hc2
    refine pr 4 hf rfl rfl fun a hf => ?_
    obtain rfl := Option.some.inj hGc12
    have hf := hf.prune [48, 1, 2, 3, 8, 9, 10, 11, 12] rfl
    have H := H.let [true, true] [] [true, true, true, true, true, false, false, false] [0, 1, 2, 3, 4, 8, 9, 10] rfl rfl rfl rfl
    exact wl_end ⟨hf, H⟩
   ·have hf := hf.lit 44 rfl hc2
    refine pr 4 hf rfl rfl fun a hf => ?_
    obtain rfl := Option.some.inj hGc12
    have hf := hf.prune [48, 1, 2, 3, 8, 9, 10, 11, 12] rfl
    have H := H.let [true, true] [] [true, true, true, true, true, false, false, false] [0, 1, 2, 3, 4, 8, 9, 10] rfl rfl rfl rfl
    exact wl_end ⟨hf, H⟩
  refine then_n (iteB hF (fun hc3 hF => cd_t hf rfl hc3 ?_) fun hc3 hF => cd_f hf rfl hc3 ?_)
  ·refine sq (reg (pr 1 hf rfl rfl fun a hf => ?_))
   refine wl_end (then_n (wp_ret (then_r (?_))))
   obtain rfl := Option.some.inj hF
   refine ret_1 (fn := Tryz.f8) (r := .tmp 6) hf rfl (rv_tmp hf rfl) ?_
   exact ⟨_, rfl, H.bel, mk_bool⟩
  ·refine wp_skip (then_n (sq (sq (drawn [] (bs := [false, false, false, false, false]) (fuel := 5) (Checked.mixed Tryz.checked) rfl rfl fun w hb => ?_))))
   have H := H.keep hb
   refine strT (H.let [true, false] [] [false, false, false, false, false] [] rfl rfl rfl rfl) (fun w H => trivial) fun hS => ?_
   refine tS 0 [] rfl rfl rfl rfl hf (by kernel_rfl) (by kernel_rfl) hS (fun w H => rq_loadBN hf H TF.la37 0 rfl rfl rfl rfl) fun a hf => ?_
   refine strT (H.let [true, true] [] [false, false, false, false, false] [] rfl rfl rfl rfl) (fun w H => H.let [true, false] [] [] [] rfl rfl rfl rfl) fun hS => ?_
   refine tS 1 [] rfl rfl rfl rfl hf (by kernel_rfl) (by kernel_rfl) hS (fun w H => rq_loadBN hf H TF.la28 1 rfl rfl rfl rfl) fun a hf => ?_
   obtain ⟨y7, hy7, hF⟩ := bind_some hF
   refine n1 2 (by kernel_rfl) rfl rfl (op_call hf TF.cl17 rfl (by decide) (laws_toPlan_ok (S := fun _ => True) (Plan_mkv (x := aP) (rep_true (α := List ByteArray) (H.get 7 rfl)) (rep_true (α := List Fiber) (H.get 6 rfl)) (rep_true (α := List Light) (H.get 5 rfl))) hy7) fun v11 w a hp13 hf => ?_)
   obtain ⟨hb7, F12, hp14, hN4⟩ := hp13
   obtain ⟨A12, c13, F13, A13, c14, F14, A14, c15, F15, rfl, rfl, hl12, hl13, hl14⟩ := Plan_vo hp14
   have H := H.addOwn hb7 (X := [(⟨F13, MP.own F13 [(.slice A12 y7.Network.Nodes.length c13)] (y7.Network.Nodes : List ByteArray)⟩ : DI), (⟨F14, MP.own F14 [(.slice A13 y7.Network.Fibers.length c14)] (y7.Network.Fibers : List Fiber)⟩ : DI), (⟨F15, MP.own F15 [(.slice A14 y7.Lights.length c15)] (y7.Lights : List Light)⟩ : DI)]) (by simpa using hN4.1) (ps1 hl12 (ps1 hl13 (ps1 hl14 ps0))) (by simpa using hN4.2)
   have H := H.lend 0 rfl
   have H := H.lend 1 rfl
   have H := H.lend 2 rfl
   have hS := H.let [true, true] [] [false, false, false, false, false, false, false, false] [] rfl rfl rfl rfl
   refine ⟨fun _ => hS, ?_⟩
   obtain ⟨y8, hy8, hF⟩ := bind_some hF
   refine n1 3 (by kernel_rfl) rfl rfl (op_call hf TF.cl19 rfl (by decide) (laws_eqPlan_ok (S := fun _ => True) (Plan_mkv (x := y4) (rep_true (α := List ByteArray) (H.get 6 rfl)) (rep_true (α := List Fiber) (H.get 5 rfl)) (rep_true (α := List Light) (H.get 4 rfl))) (Plan_mkv (x := y7) (rep_true (α := List ByteArray) (H.get 2 rfl)) (rep_true (α := List Fiber) (H.get 1 rfl)) (rep_true (α := List Light) (H.get 0 rfl))) hy8) fun v12 w a hp15 hf => ?_)
   obtain ⟨hb8, hp15⟩ := hp15
   obtain rfl := VR_bool hp15
   have H := H.keep hb8
   have hS := H.let [true, true] [] [false, false, false, false, false, false, false, false] [] rfl rfl rfl rfl
   refine ⟨fun _ => hS, ?_⟩
   refine tp 4 rfl rfl hf (by kernel_rfl) (fun _ => hS) rfl fun a hf => ?_
   refine dn (by kernel_rfl) ?_
   refine then_n (iteB hF (fun hc4 hF => cd_t hf rfl hc4 ?_) fun hc4 hF => cd_f hf rfl hc4 ?_)
   ·refine sq (reg (pr 1 hf rfl rfl fun a hf => ?_))
    have hf := hf.prune [6] rfl
    refine wl_end (then_n (wp_ret (then_r (?_))))
    obtain rfl := Option.some.inj hF
    refine ret_1 (fn := Tryz.f8) (r := .tmp 6) hf rfl (rv_tmp hf rfl) ?_
    exact ⟨_, rfl, H.bel, mk_bool⟩
   ·refine wp_skip (then_n (sq (reg (pr 1 hf rfl rfl fun a hf => ?_))))
    refine wl_end (then_n (sq (reg (wl0 rfl (op_q hf (rq_loadBN hf H TF.la37 0 rfl rfl rfl rfl) rfl (by decide) fun a hf => ?_)))))
    refine pr 1 hf rfl rfl fun a hf => ?_
    have H := H.frontD 6 rfl
    have H := H.frontD 6 rfl
    have H := H.frontD 6 rfl
    have H := H.recast (X := [(⟨F7, MP.own F7 [(.slice A8 y4.Network.Nodes.length c8)] (y4.Network.Nodes : List ByteArray)⟩ : DI), (⟨F8, MP.own F8 [(.slice A9 y4.Network.Fibers.length c9)] (y4.Network.Fibers : List Fiber)⟩ : DI), (⟨F9, MP.own F9 [(.slice A10 y4.Lights.length c10)] (y4.Lights : List Light)⟩ : DI)]) (Y := [(⟨(F7 ++ (F8 ++ F9)), MP.own (F7 ++ (F8 ++ F9)) [(.slice A8 y4.Network.Nodes.length c8), (.slice A9 y4.Network.Fibers.length c9), (.slice A10 y4.Lights.length c10)] (y4 : Plan)⟩ : DI)]) (List.Perm.of_eq (by simp)) fun _ => ps1 (Plan_ownmk (x := y4) (H.ownAt 0 rfl) (H.ownAt 1 rfl) (H.ownAt 2 rfl)) ps0
    obtain ⟨y9, hy9, hF⟩ := bind_some hF
    refine wl0 rfl (op_call hf TF.cl25 rfl (by decide) (laws_markPlan_ok (S := fun _ => True) (F := (F7 ++ (F8 ++ F9))) (cs := [(.slice A8 y4.Network.Nodes.length c8), (.slice A9 y4.Network.Fibers.length c9), (.slice A10 y4.Lights.length c10)]) (H.ownAt 0 rfl) H.diNd.1 mk_int hy9) fun v13 w a hp16 hf => ?_)
    obtain ⟨hch, hv, F16, ho, hbk⟩ := hp16
    obtain rfl := VR_int hv
    have H := H.wrote rfl hch ho hbk
    obtain ⟨F17, F18, F19, hFe, hl15, hl16, hl17⟩ := Plan_ownc (H.ownAt 0 rfl)
    have H := H.recast (X := [(⟨F16, MP.own F16 [(.slice A8 y4.Network.Nodes.length c8), (.slice A9 y4.Network.Fibers.length c9), (.slice A10 y4.Lights.length c10)] (y9.2 : Plan)⟩ : DI)]) (Y := [(⟨F17, MP.own F17 [(.slice A8 y4.Network.Nodes.length c8)] (y9.2.Network.Nodes : List ByteArray)⟩ : DI), (⟨F18, MP.own F18 [(.slice A9 y4.Network.Fibers.length c9)] (y9.2.Network.Fibers : List Fiber)⟩ : DI), (⟨F19, MP.own F19 [(.slice A10 y4.Lights.length c10)] (y9.2.Lights : List Light)⟩ : DI)]) (List.Perm.of_eq (by simp [hFe])) fun _ => (ps1 hl15 (ps1 hl16 (ps1 hl17 ps0)))
    have H := H.arg (p := MP.val [(.slice A aP.Network.Nodes.length c)] aP.Network.Nodes) hl
    have H := H.arg (p := MP.val [(.slice A2 aP.Network.Fibers.length c2)] aP.Network.Fibers) hl2
    have H := H.arg (p := MP.val [(.slice A3 aP.Lights.length c3)] aP.Lights) hl3
    have H := H.lend 0 rfl
    have H := H.lend 1 rfl
    have H := H.lend 2 rfl
    have H := H.lend 3 rfl
    have H := H.lend 4 rfl
    have H := H.lend 5 rfl
    have H := H.lend 6 rfl
    have H := H.lendQ 7 (q := MP.val [(.slice A7 y3.1.length c7)] (y3.1 : List Item)) rfl fun _ _ h => h
    refine pr 1 hf rfl rfl fun a hf => ?_
    refine wl_end (then_n (sq (sq ?_)))
    obtain ⟨c16, hGc16, hF⟩ := bind_some hF
    have fh2 := hf.prune [1, 2, 3, 8, 9, 11] rfl
    have Hm2 := H.let [false, true] [] [false, false, false, false, false, false, true, true] [0, 1, 8, 9, 10] rfl rfl rfl rfl
    refine midF 69 (.bool c16) fh2 Hm2 ?_ fun a w hf H => ?_
    ·refine reg (pr 3 hf rfl rfl fun a hf => ?_)
     refine iteB hGc16 (fun hc5 hGc16 => ?_) fun hc5 hGc16 => ?_
     ·have hf := hf.lit 59 rfl hc5
      refine pr 10 hf rfl rfl fun a hf => ?_
      obtain rfl := Option.some.inj hGc16
      have hf := hf.prune [69, 1, 2, 3, 8, 9, 11] rfl
      have H := H.let [false, true] [] [false, false, false, false, false, false, true, true] [0, 1, 8, 9, 10] rfl rfl rfl rfl
      exact wl_end ⟨hf, H⟩
     ·have hf := hf.lit 59 rfl hc5
      refine pr 2 hf rfl rfl fun a hf => ?_
      obtain ⟨y10, hy10, hGc16⟩ := bind_some hGc16
      refine wlg hf rfl rfl rfl (op_call hf TF.cl35 rfl (by decide) (laws_eqItemS_ok (S := fun _ => True) (mk_list (rep_true (α := List Item) (H.get 1 rfl))) (mk_list (rep_true (α := List Item) (H.get 0 rfl))) hy10) fun v14 w a hp17 hf => ?_)
      obtain ⟨hb9, hp17⟩ := hp17
      obtain rfl := VR_bool hp17
      have H := H.keep hb9
      refine pr 3 hf rfl rfl fun a hf => ?_
      refine iteB hGc16 (fun hc6 hGc16 => ?_) fun hc6 hGc16 => ?_
      ·have hf := hf.lit 65 rfl hc6
       refine pr 4 hf rfl rfl fun a hf => ?_
       obtain rfl := Option.some.inj hGc16
       have hf := hf.prune [69, 1, 2, 3, 8, 9, 11] rfl
       have H := H.let [false, true] [] [false, false, false, false, false, false, true, true] [0, 1, 8, 9, 10] rfl rfl rfl rfl
       exact wl_end ⟨hf, H⟩
      ·have hf := hf.lit 65 rfl hc6
       refine pr 4 hf rfl rfl fun a hf => ?_
       obtain rfl := Option.some.inj hGc16
       have hf := hf.prune [69, 1, 2, 3, 8, 9, 11] rfl
       have H := H.let [false, true] [] [false, false, false, false, false, false, true, true] [0, 1, 8, 9, 10] rfl rfl rfl rfl
       exact wl_end ⟨hf, H⟩
    refine then_n (iteB hF (fun hc7 hF => cd_t hf rfl hc7 ?_) fun hc7 hF => cd_f hf rfl hc7 ?_)
    ·refine sq (reg (pr 1 hf rfl rfl fun a hf => ?_))
     refine wl_end (then_n (wp_ret (then_r (?_))))
     obtain rfl := Option.some.inj hF
     refine ret_1 (fn := Tryz.f8) (r := .tmp 6) hf rfl (rv_tmp hf rfl) ?_
     exact ⟨_, rfl, H.bel, mk_bool⟩
    ·refine wp_skip (then_n (sq (reg (pr 1 hf rfl rfl fun a hf => ?_))))
     refine wl_end (then_n (sq (reg (pr 2 hf rfl rfl fun a hf => ?_))))
     obtain ⟨y11, hy11, hF⟩ := bind_some hF
     refine wl0 rfl (op_call hf TF.cl36 rfl (by decide) (laws_markItemS_ok (S := fun _ => True) (F := F10) (cs := [(.slice A11 y5.1.length c11)]) (H.ownAt 0 rfl) H.diNd.1 mk_int hy11) fun v15 w a hp18 hf => ?_)
     obtain ⟨hch2, hv2, F20, ho2, hbk2⟩ := hp18
     obtain rfl := VR_int hv2
     have H := H.wrote rfl hch2 ho2 hbk2
     have H := H.arg (p := MP.val [(.slice A aP.Network.Nodes.length c)] aP.Network.Nodes) hl
     have H := H.arg (p := MP.val [(.slice A2 aP.Network.Fibers.length c2)] aP.Network.Fibers) hl2
     have H := H.arg (p := MP.val [(.slice A3 aP.Lights.length c3)] aP.Lights) hl3
     have H := H.lend 0 rfl
     have H := H.lendQ 1 (q := MP.val [(.slice A7 y3.1.length c7)] (y3.1 : List Item)) rfl fun _ _ h => h
     refine pr 1 hf rfl rfl fun a hf => ?_
     refine wl_end (then_n (sq (reg (pr 1 hf rfl rfl fun a hf => ?_))))
     refine wl_end (then_n (sq (reg (pr 2 hf rfl rfl fun a hf => ?_))))
     obtain ⟨y12, hy12, hF⟩ := bind_some hF
     refine wl0 rfl (op_call hf TF.cl37 rfl (by decide) (laws_heldItemS_ok (S := fun _ => True) (mk_list (rep_true (α := List Item) (H.get 1 rfl))) mk_int hy12) fun v16 w a hp19 hf => ?_)
     obtain ⟨hb10, hp19⟩ := hp19
     obtain rfl := VR_int hp19
     have H := H.keep hb10
     refine pr 1 hf rfl rfl fun a hf => ?_
     refine wl_end (then_n (sq (sq (reg (pr 2 hf rfl rfl fun a hf => ?_)))))
     refine wl_end (then_n (iteB hF (fun hc8 hF => cd_t hf rfl hc8 ?_) fun hc8 hF => cd_f hf rfl hc8 ?_))
     ·refine sq (reg (pr 1 hf rfl rfl fun a hf => ?_))
      have hf := hf.prune [6] rfl
      refine wl_end (then_n (wp_ret (then_r (?_))))
      obtain rfl := Option.some.inj hF
      refine ret_1 (fn := Tryz.f8) (r := .tmp 6) hf rfl (rv_tmp hf rfl) ?_
      exact ⟨_, rfl, H.bel, mk_bool⟩
     ·refine wp_skip (then_n (sq (sq (reg (pr 3 hf rfl rfl fun a hf => ?_)))))
      refine wl_end (then_n (iteB hF (fun hc9 hF => cd_t hf rfl hc9 ?_) fun hc9 hF => cd_f hf rfl hc9 ?_))
      ·refine sq (reg (pr 1 hf rfl rfl fun a hf => ?_))
       have hf := hf.prune [6] rfl
       refine wl_end (then_n (wp_ret (then_r (?_))))
       obtain rfl := Option.some.inj hF
       refine ret_1 (fn := Tryz.f8) (r := .tmp 6) hf rfl (rv_tmp hf rfl) ?_
       exact ⟨_, rfl, H.bel, mk_bool⟩
      ·refine wp_skip (then_n (sq (reg (wl0 rfl (op_q hf (rq_loadBN hf H TF.la28 0 rfl rfl rfl rfl) rfl (by decide) fun a hf => ?_)))))
       obtain ⟨y13, hy13, hF⟩ := bind_some hF
       refine wl0 rfl (op_call hf TF.cl17 rfl (by decide) (laws_toPlan_ok (S := fun _ => True) (Plan_mkv (x := aP) (rep_true (α := List ByteArray) (H.get 4 rfl)) (rep_true (α := List Fiber) (H.get 3 rfl)) (rep_true (α := List Light) (H.get 2 rfl))) hy13) fun v17 w a hp20 hf => ?_)
       obtain ⟨hb11, F21, hp21, hN5⟩ := hp20
       obtain ⟨A15, c17, F22, A16, c18, F23, A17, c19, F24, rfl, rfl, hl18, hl19, hl20⟩ := Plan_vo hp21
       have H := H.addOwn hb11 (X := [(⟨F22, MP.own F22 [(.slice A15 y13.Network.Nodes.length c17)] (y13.Network.Nodes : List ByteArray)⟩ : DI), (⟨F23, MP.own F23 [(.slice A16 y13.Network.Fibers.length c18)] (y13.Network.Fibers : List Fiber)⟩ : DI), (⟨F24, MP.own F24 [(.slice A17 y13.Lights.length c19)] (y13.Lights : List Light)⟩ : DI)]) (by simpa using hN5.1) (ps1 hl18 (ps1 hl19 (ps1 hl20 ps0))) (by simpa using hN5.2)
       have H := H.lend 0 rfl
       have H := H.lend 1 rfl
       have H := H.lend 2 rfl
       refine pr 2 hf rfl rfl fun a hf => ?_
       obtain ⟨y14, hy14, hF⟩ := bind_some hF
       refine wl0 rfl (op_call hf TF.cl34 rfl (by decide) (impl_BillOf_ok (S := fun _ => True) (Plan_mkv (x := y13) (rep_true (α := List ByteArray) (H.get 2 rfl)) (rep_true (α := List Fiber) (H.get 1 rfl)) (rep_true (α := List Light) (H.get 0 rfl))) mk_int mk_int hy14) fun v18 w a hp22 hf => ?_)
       obtain ⟨hb12, F25, v19, v20, rfl, hp23, hp24, hN6⟩ := hp22
       obtain ⟨A18, c20, rfl, hl21⟩ := VO_list hp23
       obtain rfl := VR_bool hp24
       have H := H.addOwn hb12 (X := [(⟨F25, MP.own F25 [(.slice A18 y14.1.length c20)] (y14.1 : List Item)⟩ : DI)]) (by simpa using hN6.1) (ps1 hl21 ps0) (by simpa using hN6.2)
       have H := H.lend 0 rfl
       refine pr 5 hf rfl rfl fun a hf => ?_
       have hf := hf.prune [8, 9, 11, 14, 16, 17] rfl
       refine wl_end (then_n (sq (sq ?_)))
       obtain ⟨c21, hGc21, hF⟩ := bind_some hF
       have fh3 := hf.prune [11, 14] rfl
       have Hm3 := H.let [false] [] [false, false, false, false, true, false] [5] rfl rfl rfl rfl
       refine midF 97 (.bool c21) fh3 Hm3 ?_ fun a w hf H => ?_
       ·refine reg (pr 2 hf rfl rfl fun a hf => ?_)
        obtain ⟨y15, hy15, hGc21⟩ := bind_some hGc21
        refine wl0 rfl (op_call hf TF.cl35 rfl (by decide) (laws_eqItemS_ok (S := fun _ => True) (mk_list (rep_true (α := List Item) (H.get 0 rfl))) (mk_list (rep_true (α := List Item) (H.get 4 rfl))) hy15) fun v21 w a hp25 hf => ?_)
        obtain ⟨hb13, hp25⟩ := hp25
        obtain rfl := VR_bool hp25
        have H := H.keep hb13
        refine pr 2 hf rfl rfl fun a hf => ?_
        refine iteB hGc21 (fun hc10 hGc21 => ?_) fun hc10 hGc21 => ?_
        ·have hf := hf.lit 93 rfl hc10
         refine pr 4 hf rfl rfl fun a hf => ?_
         obtain rfl := Option.some.inj hGc21
         have hf := hf.prune [97, 11, 14] rfl
         have H := H.let [false] [] [false, false, false, false, true, false] [5] rfl rfl rfl rfl
         exact wl_end ⟨hf, H⟩
        ·have hf := hf.lit 93 rfl hc10
         refine pr 4 hf rfl rfl fun a hf => ?_
         obtain rfl := Option.some.inj hGc21
         have hf := hf.prune [97, 11, 14] rfl
         have H := H.let [false] [] [false, false, false, false, true, false] [5] rfl rfl rfl rfl
         exact wl_end ⟨hf, H⟩
       refine then_n (iteB hF (fun hc11 hF => cd_t hf rfl hc11 ?_) fun hc11 hF => cd_f hf rfl hc11 ?_)
       ·refine sq (reg (pr 1 hf rfl rfl fun a hf => ?_))
        refine wl_end (then_n (wp_ret (then_r (?_))))
        obtain rfl := Option.some.inj hF
        refine ret_1 (fn := Tryz.f8) (r := .tmp 6) hf rfl (rv_tmp hf rfl) ?_
        exact ⟨_, rfl, H.bel, mk_bool⟩
       ·refine wp_skip (then_n (sq (reg (pr 1 hf rfl rfl fun a hf => ?_))))
        refine wl_end (then_n (sq (reg (pr 2 hf rfl rfl fun a hf => ?_))))
        obtain ⟨y16, hy16, hF⟩ := bind_some hF
        refine wl0 rfl (op_call hf TF.cl37 rfl (by decide) (laws_heldItemS_ok (S := fun _ => True) (mk_list (rep_true (α := List Item) (H.get 0 rfl))) mk_int hy16) fun v22 w a hp26 hf => ?_)
        obtain ⟨hb14, hp26⟩ := hp26
        obtain rfl := VR_int hp26
        have H := H.keep hb14
        refine pr 1 hf rfl rfl fun a hf => ?_
        refine wl_end (then_n (sq (sq (reg (pr 2 hf rfl rfl fun a hf => ?_)))))
        refine wl_end (then_n (iteB hF (fun hc12 hF => cd_t hf rfl hc12 ?_) fun hc12 hF => cd_f hf rfl hc12 ?_))
        ·refine sq (reg (pr 1 hf rfl rfl fun a hf => ?_))
         refine wl_end (then_n (wp_ret (then_r (?_))))
         obtain rfl := Option.some.inj hF
         refine ret_1 (fn := Tryz.f8) (r := .tmp 6) hf rfl (rv_tmp hf rfl) ?_
         exact ⟨_, rfl, H.bel, mk_bool⟩
        ·refine wp_skip (then_n (sq (sq (reg (pr 3 hf rfl rfl fun a hf => ?_)))))
         refine wl_end (then_n (iteB hF (fun hc13 hF => cd_t hf rfl hc13 ?_) fun hc13 hF => cd_f hf rfl hc13 ?_))
         ·refine sq (reg (pr 1 hf rfl rfl fun a hf => ?_))
          refine wl_end (then_n (wp_ret (then_r (?_))))
          obtain rfl := Option.some.inj hF
          refine ret_1 (fn := Tryz.f8) (r := .tmp 6) hf rfl (rv_tmp hf rfl) ?_
          exact ⟨_, rfl, H.bel, mk_bool⟩
         ·refine wp_skip (then_n (sq (reg (pr 1 hf rfl rfl fun a hf => ?_))))
          refine wl_end (then_n (wp_ret (?_)))
          obtain rfl := Option.some.inj hF
          refine ret_1 (fn := Tryz.f8) (r := .tmp 6) hf rfl (rv_tmp hf rfl) ?_
          exact ⟨_, rfl, H.bel, mk_bool⟩
end AT
