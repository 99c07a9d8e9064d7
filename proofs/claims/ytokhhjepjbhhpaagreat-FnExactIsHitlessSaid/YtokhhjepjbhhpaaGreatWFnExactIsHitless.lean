/- The Go functions do what is told of them, by program (gen.py). -/
import Derived.Test.YtokhhjepjbhhpaaGreatWFnExactIsHitless0
set_option linter.unusedVariables false
set_option linter.unusedSimpArgs false
set_option maxRecDepth 100000
namespace AT
open Go Go.RowKit Go.Proofs

/- loop.example/g00897/spec.IsHitless -/
set_option maxHeartbeats 1000000 in
theorem spec_IsHitless_ok {fu : Nat} {w0 : World} {S : Nat → Prop} {v0_ : Value} {v1_ : Value} {p : Plan} {list : List Action} {r : Bool × Bool} (h0 : VR w0 S v0_ p) (h1 : VR w0 S v1_ list) (hF : spec_IsHitless fu p list = some r) :
    Calls Tryz.prog 54 [v0_, v1_].toArray w0 fun e w' => ∃ v, e = .returned v ∧ (Below w0.heap.size w0 w' ∧ ∃ u0 u1, v = .tuple #[u0, u1] ∧ VR w' (St ⟨w0, []⟩ S [] [] [] true) u0 r.1 ∧ VR w' (St ⟨w0, []⟩ S [] [] [] true) u1 r.2) := by
 obtain ⟨A, c, A2, c2, A3, c3, rfl, hl, hl2, hl3⟩ := Plan_open h0
 obtain ⟨A4, c4, rfl, hl4⟩ := VR_list h1
 have H := Mem.start ⟨w0, []⟩ S
 have H := H.pushArg (MP.val [(.slice A p.Network.Nodes.length c)] p.Network.Nodes) hl
 have H := H.pushArg (MP.val [(.slice A2 p.Network.Fibers.length c2)] p.Network.Fibers) hl2
 have H := H.pushArg (MP.val [(.slice A3 p.Lights.length c3)] p.Lights) hl3
 have H := H.pushArg (MP.val [(.slice A4 list.length c4)] list) hl4
 refine enter Tryz.func54 rfl rfl (nle rfl) rfl fun a hf => ?_
 rw [spec_IsHitless] at hF
 refine sq (reg (wl0 rfl (op_box hf H rfl rfl (by decide) fun b' a w hf H => ?_)))
 refine pr 2 hf rfl rfl fun a hf => ?_
 refine wl_end (then_n (sq (sq ?_)))
 obtain ⟨c5, hGc5, hF⟩ := bind_some hF
 have fh := hf.prune [1, 2] rfl
 have Hm := H.let [true] [] [] [0, 1, 2, 3] rfl rfl rfl rfl
 refine midF 17 (.bool c5) fh Hm ?_ fun a w hf H => ?_
 ·refine reg (wl0 rfl (op_q hf (rq_loadBN hf H TF.la37 0 rfl rfl rfl rfl) rfl (by decide) fun a hf => ?_))
  obtain ⟨y, hy, hGc5⟩ := bind_some hGc5
  refine wl0 rfl (op_call hf TF.cl62 rfl (by decide) (spec_l9Good_ok (S := fun _ => True) (Plan_mkv (x := p) (rep_true (α := List ByteArray) (H.get 3 rfl)) (rep_true (α := List Fiber) (H.get 2 rfl)) (rep_true (α := List Light) (H.get 1 rfl))) hy) fun v w a hp hf => ?_)
  obtain ⟨hb, hp⟩ := hp
  obtain rfl := VR_bool hp
  have H := H.keep hb
  refine pr 2 hf rfl rfl fun a hf => ?_
  refine iteB hGc5 (fun hc hGc5 => ?_) fun hc hGc5 => ?_
  ·have hf := hf.lit 13 rfl hc
   refine pr 4 hf rfl rfl fun a hf => ?_
   obtain rfl := Option.some.inj hGc5
   have hf := hf.prune [17, 1, 2] rfl
   have H := H.let [true] [] [] [0, 1, 2, 3] rfl rfl rfl rfl
   exact wl_end ⟨hf, H⟩
  ·have hf := hf.lit 13 rfl hc
   refine pr 4 hf rfl rfl fun a hf => ?_
   obtain rfl := Option.some.inj hGc5
   have hf := hf.prune [17, 1, 2] rfl
   have H := H.let [true] [] [] [0, 1, 2, 3] rfl rfl rfl rfl
   exact wl_end ⟨hf, H⟩
 refine then_n (iteB hF (fun hc2 hF => cd_t hf rfl hc2 ?_) fun hc2 hF => cd_f hf rfl hc2 ?_)
 ·refine sq (reg (pr 2 hf rfl rfl fun a hf => ?_))
  refine wl_end (then_n (wp_ret (then_r (?_))))
  obtain rfl := Option.some.inj hF
  refine ret_2 (fn := Tryz.f54) (r := .tmp 4) (s := .tmp 5) hf rfl (rv_tmp hf rfl) (rv_tmp hf rfl) ?_
  exact ⟨_, rfl, H.bel, _, _, rfl, mk_bool, mk_bool⟩
 ·refine wp_skip (then_n (sq (reg (wl0 rfl (op_q hf (rq_loadBN hf H TF.la37 0 rfl rfl rfl rfl) rfl (by decide) fun a hf => ?_)))))
  obtain ⟨y2, hy2, hF⟩ := bind_some hF
  refine wl0 rfl (op_call hf TF.cl84 rfl (by decide) (spec_l9Own_ok (S := fun _ => True) (Plan_mkv (x := p) (rep_true (α := List ByteArray) (H.get 3 rfl)) (rep_true (α := List Fiber) (H.get 2 rfl)) (rep_true (α := List Light) (H.get 1 rfl))) hy2) fun v2 w a hp2 hf => ?_)
  obtain ⟨hb2, F, hp3, hN⟩ := hp2
  obtain ⟨A5, c6, F2, A6, c7, F3, A7, c8, F4, rfl, rfl, hl5, hl6, hl7⟩ := Plan_vo hp3
  have H := H.addOwn hb2 (X := [(⟨F2, MP.own F2 [(.slice A5 y2.Network.Nodes.length c6)] (y2.Network.Nodes : List ByteArray)⟩ : DI), (⟨F3, MP.own F3 [(.slice A6 y2.Network.Fibers.length c7)] (y2.Network.Fibers : List Fiber)⟩ : DI), (⟨F4, MP.own F4 [(.slice A7 y2.Lights.length c8)] (y2.Lights : List Light)⟩ : DI)]) (by simpa using hN.1) (ps1 hl5 (ps1 hl6 (ps1 hl7 ps0))) (by simpa using hN.2)
  have H := H.lend 0 rfl
  have H := H.lend 1 rfl
  have H := H.lend 2 rfl
  refine wl0 rfl (op_alloc hf H TF.zv37 rfl (by decide) fun b2 a w hf H => ?_)
  refine wl0 rfl (op_storeB hf H 0 TF.sz37 rfl rfl rfl rfl rfl rfl (nle rfl) fun w H => ?_)
  refine wl_end (then_n (sq (sq (reg (pr 1 hf rfl rfl fun a hf => ?_)))))
  refine wl_end (then_n ?_)
  obtain ⟨out', hB1, hF⟩ := bind_some hF
  have hf := hf.prune [1, 6, 7] rfl
  have H := H.let [true, false] [] [false, false, false] [0, 1, 2, 3] rfl rfl rfl rfl
  refine loopC (fun (s : Int × List ByteArray × List Fiber × List Light) (a : Act) (w : World) => match s with | (i, m, m2, m3) => ∃ (A8 : Option Addr) (c9 : Nat) (A9 : Option Addr) (c10 : Nat) (A10 : Option Addr) (c11 : Nat), Fr a 64 [(1, (.slice A4 list.length c4)), (6, (.pointer (some ⟨b2, 0, none⟩))), (7, (.int .i64 i))] ∧ Mem ⟨w0, []⟩ S [⟨b2, 37, [(.slice A8 m.length c9), (.slice A9 m2.length c10), (.slice A10 m3.length c11)]⟩] [] [] [(true, MP.val [(.slice A10 m3.length c11)] (m3 : List Light)), (true, MP.val [(.slice A9 m2.length c10)] (m2 : List Fiber)), (true, MP.val [(.slice A8 m.length c9)] (m : List ByteArray)), (false, MP.val [(.slice A4 list.length c4)] (list : List Action))] w) (fun k (s : Int × List ByteArray × List Fiber × List Light) => spec_IsHitless_L1 fu list k s.1 s.2.1 s.2.2.1 s.2.2.2 = some out') (fun s => out' = Out.next s) (0, y2.Network.Nodes, y2.Network.Fibers, y2.Lights) fu hB1 ⟨A5, c6, A6, c7, A7, c8, hf, H⟩ (fun s h => by cases h) ?_ ?_
  ·rintro fk ⟨i, m, m2, m3⟩ a w hR1 hI
   replace hR1 : spec_IsHitless_L1 fu list (fk + 1) i m m2 m3 = some out' := hR1
   rw [spec_IsHitless_L1] at hR1
   obtain ⟨A8, c9, A9, c10, A10, c11, hf, H⟩ := hI
   refine sq (sq (reg (pr 4 hf rfl rfl fun a hf => ?_)))
   refine wl_end (then_n (iteB hR1 (fun hc3 hR1 => cd_t hf rfl hc3 ?_) fun hc3 hR1 => cd_f hf rfl hc3 ?_))
   ·refine wp_skip (then_n (sq (wp_block (sq (drawn [10] (bs := [false, false, false, false, false, false, false, false, false, false, false, false]) (fuel := 12) (Checked.mixed Tryz.checked) rfl rfl fun w hb => ?_)))))
    have H := H.keep hb
    refine strT (H.let [true] [] [] [] rfl rfl rfl rfl) (fun w H => trivial) fun hS => ?_
    refine tS 0 [0, 5, 6, 7, 8, 10, 11] rfl rfl rfl rfl hf (by kernel_rfl) (by kernel_rfl) hS (fun w H => rq_loadBN hf H TF.la37 0 rfl rfl rfl rfl) fun a hf => ?_
    refine tp 1 rfl rfl hf (by kernel_rfl) (fun _ => hS) rfl fun a hf => ?_
    refine tp 2 rfl rfl hf (by kernel_rfl) (fun _ => hS) rfl fun a hf => ?_
    obtain ⟨e, he, hR1⟩ := bind_some hR1
    obtain ⟨p2, o, cs, hx, hr, H⟩ := pre_iaddr H Tryz.underlying65 TF.sz136 3 rfl he
    refine tP 3 rfl rfl rfl rfl hf (by kernel_rfl) (fun _ => hS) (fun w => rq_iaddrE hf rfl rfl rfl hx w) fun a hf => ?_
    obtain ⟨A11, c12, rfl, hl8⟩ := Action_cells hr
    have H := H.push (false, MP.val [(.slice A11 e.Light.Route.Fibers.length c12)] e.Light.Route.Fibers) hl8
    refine strT (H.let [true] [] [] [1] rfl rfl rfl rfl) (fun w H => H.let [true] [] [] [] rfl rfl rfl rfl) fun hS => ?_
    refine tS 4 [4, 5, 6, 7, 8, 10, 11] rfl rfl rfl rfl hf (by kernel_rfl) (by kernel_rfl) hS (fun w H => rq_loadIN hf H TF.la136 0 0 rfl rfl rfl rfl) fun a hf => ?_
    refine on2 (i := 5) (j := 9) (bi := [true, true, true, true, true, true, false, false, false, false, false, false]) (bj := [true, true, true, true, true, false, false, false, false, true, false, false]) (by kernel_rfl) rfl rfl rfl rfl rfl rfl ?_ ?_
    ·obtain ⟨y3, hy3, hR1⟩ := bind_some hR1
     refine (op_call hf TF.cl111 rfl (by decide) (spec_l20Apply_ok (S := fun _ => True) (Plan_mkv (x := ({ Network := ({ Nodes := m, Fibers := m2 } : Network), Lights := m3 } : Plan)) (rep_true (α := List ByteArray) (H.get 4 rfl)) (rep_true (α := List Fiber) (H.get 3 rfl)) (rep_true (α := List Light) (H.get 2 rfl))) (Action_mkv (x := e) (rep_true (α := List Int) (H.get 0 rfl))) hy3) fun v3 w a hp4 hf => ?_)
     obtain ⟨hb3, v4, v5, rfl, hp5, hp6⟩ := hp4
     obtain ⟨A12, c13, A13, c14, A14, c15, rfl, hl9, hl10, hl11⟩ := Plan_open hp5
     replace hl9 := H.resF (f := MP.val [(.slice A12 y3.1.Network.Nodes.length c13)] y3.1.Network.Nodes) hl9
     replace hl10 := H.resF (f := MP.val [(.slice A13 y3.1.Network.Fibers.length c14)] y3.1.Network.Fibers) hl10
     replace hl11 := H.resF (f := MP.val [(.slice A14 y3.1.Lights.length c15)] y3.1.Lights) hl11
     obtain rfl := VR_bool hp6
     have H := H.keep hb3
     have H := H.push (true, MP.val [(.slice A12 y3.1.Network.Nodes.length c13)] y3.1.Network.Nodes) hl9
     have H := H.push (true, MP.val [(.slice A13 y3.1.Network.Fibers.length c14)] y3.1.Network.Fibers) hl10
     have H := H.push (true, MP.val [(.slice A14 y3.1.Lights.length c15)] y3.1.Lights) hl11
     have hS := H.let [true] [] [] [4] rfl rfl rfl rfl
     refine ⟨fun _ => hS, ?_⟩
     refine tp 6 rfl rfl hf (by kernel_rfl) (fun _ => hS) rfl fun a hf => ?_
     refine tp 7 rfl rfl hf (by kernel_rfl) (fun _ => hS) rfl fun a hf => ?_
     refine tp 8 rfl rfl hf (by kernel_rfl) (fun _ => hS) rfl fun a hf => ?_
     refine n1 9 (by kernel_rfl) rfl rfl (op_alloc hf H TF.zv37 rfl (by decide) fun b3 a w hf H => ?_)
     have hS := H.let [false, true] [] [] [4] rfl rfl rfl rfl
     refine ⟨fun _ => hS, ?_⟩
     refine n1 10 (by kernel_rfl) rfl rfl (op_storeB hf H 0 TF.sz37 rfl rfl rfl rfl rfl rfl (nle rfl) fun w H => ?_)
     refine ⟨fun h => absurd h (by decide), ?_⟩
     refine tp 11 rfl rfl hf (by kernel_rfl) (fun h => absurd h (by decide)) rfl fun a hf => ?_
     refine dn (by kernel_rfl) ?_
     have hf := hf.prune [1, 6, 7, 8, 9] rfl
     refine then_n (sq (sq (reg (pr 2 hf rfl rfl fun a hf => ?_))))
     refine wl_end (then_n (iteB hR1 (fun hc4 hR1 => cd_t hf rfl hc4 ?_) fun hc4 hR1 => cd_f hf rfl hc4 ?_))
     ·refine sq (reg (pr 2 hf rfl rfl fun a hf => ?_))
      refine wl_end (then_n (wp_ret (then_r (blk_r (then_r (then_r (blk_r (then_r (then_r (?_))))))))))
      obtain rfl := Option.some.inj hR1
      replace hF := on_ret hF
      obtain rfl := Option.some.inj hF
      refine ret_2 (fn := Tryz.f54) (r := .tmp 4) (s := .tmp 5) hf rfl (rv_tmp hf rfl) (rv_tmp hf rfl) ?_
      exact ⟨_, rfl, H.bel, _, _, rfl, mk_bool, mk_bool⟩
     ·refine wp_skip (then_n (sq (sq ?_)))
      obtain ⟨c16, hGc16, hR1⟩ := bind_some hR1
      have fh2 := hf.prune [1, 6, 7, 8] rfl
      have Hm2 := H.let [true, true] [] [] [0, 1, 2, 5, 6, 7, 8] rfl rfl rfl rfl
      refine midF 62 (.bool c16) fh2 Hm2 ?_ fun a w hf H => ?_
      ·refine drawn [] (bs := [false, false, false, false, false, false, false, false, false, false, false, false, false, false, false, false, false, false, false, false, false, false, false, false, false, false]) (fuel := 26) (Checked.mixed Tryz.checked) rfl rfl fun w hb => ?_
       have H := H.keep hb
       refine tp 0 rfl rfl hf (by kernel_rfl) (fun _ => trivial) rfl fun a hf => ?_
       refine tp 1 rfl rfl hf (by kernel_rfl) (fun _ => trivial) rfl fun a hf => ?_
       obtain ⟨e2, he2, hGc16⟩ := bind_some hGc16
       obtain ⟨p3, o2, cs2, hx2, hr2, H⟩ := pre_iaddr H Tryz.underlying65 TF.sz136 8 rfl he2
       refine tP 2 rfl rfl rfl rfl hf (by kernel_rfl) (fun _ => trivial) (fun w => rq_iaddrE hf rfl rfl rfl hx2 w) fun a hf => ?_
       obtain ⟨A15, c17, rfl, hl12⟩ := Action_cells hr2
       have H := H.push (false, MP.val [(.slice A15 e2.Light.Route.Fibers.length c17)] e2.Light.Route.Fibers) hl12
       refine tp 3 rfl rfl hf (by kernel_rfl) (fun _ => trivial) rfl fun a hf => ?_
       refine strT (H.let [false, false] [] [] [1] rfl rfl rfl rfl) (fun w H => trivial) fun hS => ?_
       refine tS 4 [] rfl rfl rfl rfl hf (by kernel_rfl) (by kernel_rfl) hS (fun w H => rq_loadI hf H TF.ls3 0 0 rfl rfl rfl) fun a hf => ?_
       refine tp 5 rfl rfl hf (by kernel_rfl) (fun _ => hS) rfl fun a hf => ?_
       refine tp 6 rfl rfl hf (by kernel_rfl) (fun _ => hS) rfl fun a hf => ?_
       refine iteB hGc16 (fun hc5 hGc16 => ?_) fun hc5 hGc16 => ?_
       ·have hf := hf.lit 43 rfl hc5
        refine tpg 7 rfl rfl rfl rfl hf (by kernel_rfl) (fun _ => hS) rfl fun a hf => ?_
        refine strT (H.let [false, true] [] [] [1] rfl rfl rfl rfl) (fun w H => H.let [false] [] [] [0] rfl rfl rfl rfl) fun hS => ?_
        refine tSg 8 [] rfl rfl rfl rfl rfl rfl hf (by kernel_rfl) (by kernel_rfl) hS (fun w H => rq_loadB hf H TF.ls35 0 rfl rfl rfl) fun a hf => ?_
        refine tSg 9 [] rfl rfl rfl rfl rfl rfl hf (by kernel_rfl) (by kernel_rfl) hS (fun w H => rq_loadBN hf H TF.la37 0 rfl rfl rfl rfl) fun a hf => ?_
        refine tpg 10 rfl rfl rfl rfl hf (by kernel_rfl) (fun _ => hS) rfl fun a hf => ?_
        refine tpg 11 rfl rfl rfl rfl hf (by kernel_rfl) (fun _ => hS) rfl fun a hf => ?_
        obtain ⟨e3, he3, hGc16⟩ := bind_some hGc16
        obtain ⟨p4, o3, cs3, hx3, hr3, H⟩ := pre_iaddr H Tryz.underlying65 TF.sz136 10 rfl he3
        refine tPg 12 rfl rfl rfl rfl rfl rfl hf (by kernel_rfl) (fun _ => hS) (fun w => rq_iaddrE hf rfl rfl rfl hx3 w) fun a hf => ?_
        obtain ⟨A16, c18, rfl, hl13⟩ := Action_cells hr3
        have H := H.push (false, MP.val [(.slice A16 e3.Light.Route.Fibers.length c18)] e3.Light.Route.Fibers) hl13
        refine tpg 13 rfl rfl rfl rfl hf (by kernel_rfl) (fun _ => hS) rfl fun a hf => ?_
        refine tpg 14 rfl rfl rfl rfl hf (by kernel_rfl) (fun _ => hS) rfl fun a hf => ?_
        refine strT (H.let [false, true] [] [] [1, 3] rfl rfl rfl rfl) (fun w H => H.let [true] [] [] [1] rfl rfl rfl rfl) fun hS => ?_
        refine tSg 15 [] rfl rfl rfl rfl rfl rfl hf (by kernel_rfl) (by kernel_rfl) hS (fun w H => rq_loadI hf H TF.ls3 0 1 rfl rfl rfl) fun a hf => ?_
        refine tpg 19 rfl rfl rfl rfl hf (by kernel_rfl) (fun _ => hS) rfl fun a hf => ?_
        refine tpg 20 rfl rfl rfl rfl hf (by kernel_rfl) (fun _ => hS) rfl fun a hf => ?_
        obtain ⟨e4, he4, hGc16⟩ := bind_some hGc16
        obtain ⟨p5, o4, cs4, hx4, hr4, H⟩ := pre_iaddr H Tryz.underlying65 TF.sz136 12 rfl he4
        refine tPg 21 rfl rfl rfl rfl rfl rfl hf (by kernel_rfl) (fun _ => hS) (fun w => rq_iaddrE hf rfl rfl rfl hx4 w) fun a hf => ?_
        obtain ⟨A17, c19, rfl, hl14⟩ := Action_cells hr4
        have H := H.push (false, MP.val [(.slice A17 e4.Light.Route.Fibers.length c19)] e4.Light.Route.Fibers) hl14
        refine tpg 22 rfl rfl rfl rfl hf (by kernel_rfl) (fun _ => hS) rfl fun a hf => ?_
        refine strT (H.let [false, true] [] [] [1, 3, 5] rfl rfl rfl rfl) (fun w H => H.let [true] [] [] [1, 2] rfl rfl rfl rfl) fun hS => ?_
        refine tSg 23 [] rfl rfl rfl rfl rfl rfl hf (by kernel_rfl) (by kernel_rfl) hS (fun w H => rq_loadIN hf H TF.la112 0 1 rfl rfl rfl rfl) fun a hf => ?_
        obtain ⟨y4, hy4, hGc16⟩ := bind_some hGc16
        refine n1g 16 (by kernel_rfl) rfl rfl rfl rfl hf (op_call hf TF.cl63 rfl (by decide) (spec_l9Find_ok (S := fun _ => True) (Plan_mkv (x := ({ Network := ({ Nodes := m, Fibers := m2 } : Network), Lights := m3 } : Plan)) (rep_true (α := List ByteArray) (H.get 13 rfl)) (rep_true (α := List Fiber) (H.get 12 rfl)) (rep_true (α := List Light) (H.get 11 rfl))) mk_int hy4) fun v6 w a hp7 hf => ?_)
        obtain ⟨hb4, hp7⟩ := hp7
        obtain rfl := VR_int hp7
        have H := H.keep hb4
        have hS := H.let [false, true] [] [] [1, 3, 5] rfl rfl rfl rfl
        refine ⟨fun _ => hS, ?_⟩
        obtain ⟨e5, he5, hGc16⟩ := bind_some hGc16
        obtain ⟨p6, o5, cs5, hx5, hr5, H⟩ := pre_iaddr H Tryz.underlying35 TF.sz112 11 rfl he5
        refine tPg 17 rfl rfl rfl rfl rfl rfl hf (by kernel_rfl) (fun _ => hS) (fun w => rq_iaddrE hf rfl rfl rfl hx5 w) fun a hf => ?_
        obtain ⟨A18, c20, rfl, hl15⟩ := Light_cells hr5
        have H := H.push (true, MP.val [(.slice A18 e5.Route.Fibers.length c20)] e5.Route.Fibers) hl15
        refine strT (H.let [false, true] [] [] [1, 3, 5, 7] rfl rfl rfl rfl) (fun w H => H.let [true] [] [] [1, 2, 3] rfl rfl rfl rfl) fun hS => ?_
        refine tSg 18 [] rfl rfl rfl rfl rfl rfl hf (by kernel_rfl) (by kernel_rfl) hS (fun w H => rq_loadIN hf H TF.la112 0 0 rfl rfl rfl rfl) fun a hf => ?_
        obtain ⟨y5, hy5, hGc16⟩ := bind_some hGc16
        refine n1g 24 (by kernel_rfl) rfl rfl rfl rfl hf (op_call hf TF.cl112 rfl (by decide) (spec_l9Collide_ok (S := fun _ => True) (Light_mkv (x := e5) (rep_true (α := List Int) (H.get 0 rfl))) (Light_mkv (x := e4.Light) (rep_true (α := List Int) (H.get 2 rfl))) hy5) fun v7 w a hp8 hf => ?_)
        obtain ⟨hb5, hp8⟩ := hp8
        obtain rfl := VR_bool hp8
        have H := H.keep hb5
        have hS := H.let [false, true] [] [] [1, 3, 5, 7] rfl rfl rfl rfl
        refine ⟨fun _ => hS, ?_⟩
        refine tp 25 rfl rfl hf (by kernel_rfl) (fun _ => hS) rfl fun a hf => ?_
        refine dn (by kernel_rfl) ?_
        obtain rfl := Option.some.inj hGc16
        have hf := hf.prune [62, 1, 6, 7, 8] rfl
        have H := H.let [true, true] [] [] [8, 9, 10, 13, 14, 15, 16] rfl rfl rfl rfl
        exact ⟨hf, H⟩
       ·have hf := hf.lit 43 rfl hc5
        refine tU 7 rfl rfl rfl rfl rfl rfl rfl hf (by kernel_rfl) (fun _ => hS) fun a hf => ?_
        refine tU 8 rfl rfl rfl rfl rfl rfl rfl hf (by kernel_rfl) (fun _ => hS) fun a hf => ?_
        refine tU 9 rfl rfl rfl rfl rfl rfl rfl hf (by kernel_rfl) (fun _ => hS) fun a hf => ?_
        refine tU 10 rfl rfl rfl rfl rfl rfl rfl hf (by kernel_rfl) (fun _ => hS) fun a hf => ?_
        refine tU 11 rfl rfl rfl rfl rfl rfl rfl hf (by kernel_rfl) (fun _ => hS) fun a hf => ?_
        refine tU 12 rfl rfl rfl rfl rfl rfl rfl hf (by kernel_rfl) (fun _ => hS) fun a hf => ?_
        refine tU 13 rfl rfl rfl rfl rfl rfl rfl hf (by kernel_rfl) (fun _ => hS) fun a hf => ?_
        refine tU 14 rfl rfl rfl rfl rfl rfl rfl hf (by kernel_rfl) (fun _ => hS) fun a hf => ?_
        refine tU 15 rfl rfl rfl rfl rfl rfl rfl hf (by kernel_rfl) (fun _ => hS) fun a hf => ?_
        refine tU 16 rfl rfl rfl rfl rfl rfl rfl hf (by kernel_rfl) (fun _ => hS) fun a hf => ?_
        refine tU 17 rfl rfl rfl rfl rfl rfl rfl hf (by kernel_rfl) (fun _ => hS) fun a hf => ?_
        refine tU 18 rfl rfl rfl rfl rfl rfl rfl hf (by kernel_rfl) (fun _ => hS) fun a hf => ?_
        refine tU 19 rfl rfl rfl rfl rfl rfl rfl hf (by kernel_rfl) (fun _ => hS) fun a hf => ?_
        refine tU 20 rfl rfl rfl rfl rfl rfl rfl hf (by kernel_rfl) (fun _ => hS) fun a hf => ?_
        refine tU 21 rfl rfl rfl rfl rfl rfl rfl hf (by kernel_rfl) (fun _ => hS) fun a hf => ?_
        refine tU 22 rfl rfl rfl rfl rfl rfl rfl hf (by kernel_rfl) (fun _ => hS) fun a hf => ?_
        refine tU 23 rfl rfl rfl rfl rfl rfl rfl hf (by kernel_rfl) (fun _ => hS) fun a hf => ?_
        refine tU 24 rfl rfl rfl rfl rfl rfl rfl hf (by kernel_rfl) (fun _ => hS) fun a hf => ?_
        refine tp 25 rfl rfl hf (by kernel_rfl) (fun _ => hS) rfl fun a hf => ?_
        refine dn (by kernel_rfl) ?_
        obtain rfl := Option.some.inj hGc16
        have hf := hf.prune [62, 1, 6, 7, 8] rfl
        have H := H.let [true, true] [] [] [2, 3, 4, 7, 8, 9, 10] rfl rfl rfl rfl
        exact ⟨hf, H⟩
      refine then_n (iteB hR1 (fun hc6 hR1 => cd_t hf rfl hc6 ?_) fun hc6 hR1 => cd_f hf rfl hc6 ?_)
      ·refine sq (reg (pr 2 hf rfl rfl fun a hf => ?_))
       refine wl_end (then_n (wp_ret (then_r (blk_r (then_r (then_r (blk_r (then_r (then_r (?_))))))))))
       obtain rfl := Option.some.inj hR1
       replace hF := on_ret hF
       obtain rfl := Option.some.inj hF
       refine ret_2 (fn := Tryz.f54) (r := .tmp 4) (s := .tmp 5) hf rfl (rv_tmp hf rfl) (rv_tmp hf rfl) ?_
       exact ⟨_, rfl, H.bel, _, _, rfl, mk_bool, mk_bool⟩
      ·refine wp_skip (then_n (reg (wl0 rfl (op_q hf (rq_loadBN hf H TF.la37 0 rfl rfl rfl rfl) rfl (by decide) fun a hf => ?_))))
       refine wl0 rfl (op_storeB hf H 1 TF.sz37 rfl rfl rfl rfl rfl rfl (nle rfl) fun w H => ?_)
       refine wl_end (blk_n (then_n (reg (pr 3 hf rfl rfl fun a hf => ?_))))
       refine wl_end ?_
       have hf := hf.prune [1, 6, 7] rfl
       have H := H.let [false, true] [] [] [0, 1, 2, 6] rfl rfl rfl rfl
       exact then_n ⟨(w64 (i + 1), y3.1.Network.Nodes, y3.1.Network.Fibers, y3.1.Lights), hR1, A12, c13, A13, c14, A14, c15, hf, H⟩
    ·refine (op_alloc hf H TF.zv37 rfl (by decide) fun b3 a w hf H => ?_)
     have hS := H.let [false, true] [] [] [1] rfl rfl rfl rfl
     refine ⟨fun _ => hS, ?_⟩
     obtain ⟨y3, hy3, hR1⟩ := bind_some hR1
     refine n1 5 (by kernel_rfl) rfl rfl (op_call hf TF.cl111 rfl (by decide) (spec_l20Apply_ok (S := fun _ => True) (Plan_mkv (x := ({ Network := ({ Nodes := m, Fibers := m2 } : Network), Lights := m3 } : Plan)) (rep_true (α := List ByteArray) (H.get 4 rfl)) (rep_true (α := List Fiber) (H.get 3 rfl)) (rep_true (α := List Light) (H.get 2 rfl))) (Action_mkv (x := e) (rep_true (α := List Int) (H.get 0 rfl))) hy3) fun v3 w a hp4 hf => ?_)
     obtain ⟨hb3, v4, v5, rfl, hp5, hp6⟩ := hp4
     obtain ⟨A12, c13, A13, c14, A14, c15, rfl, hl9, hl10, hl11⟩ := Plan_open hp5
     replace hl9 := H.resF (f := MP.val [(.slice A12 y3.1.Network.Nodes.length c13)] y3.1.Network.Nodes) hl9
     replace hl10 := H.resF (f := MP.val [(.slice A13 y3.1.Network.Fibers.length c14)] y3.1.Network.Fibers) hl10
     replace hl11 := H.resF (f := MP.val [(.slice A14 y3.1.Lights.length c15)] y3.1.Lights) hl11
     obtain rfl := VR_bool hp6
     have H := H.keep hb3
     have H := H.push (true, MP.val [(.slice A12 y3.1.Network.Nodes.length c13)] y3.1.Network.Nodes) hl9
     have H := H.push (true, MP.val [(.slice A13 y3.1.Network.Fibers.length c14)] y3.1.Network.Fibers) hl10
     have H := H.push (true, MP.val [(.slice A14 y3.1.Lights.length c15)] y3.1.Lights) hl11
     have hS := H.let [false, true] [] [] [4] rfl rfl rfl rfl
     refine ⟨fun _ => hS, ?_⟩
     refine tp 6 rfl rfl hf (by kernel_rfl) (fun _ => hS) rfl fun a hf => ?_
     refine tp 7 rfl rfl hf (by kernel_rfl) (fun _ => hS) rfl fun a hf => ?_
     refine tp 8 rfl rfl hf (by kernel_rfl) (fun _ => hS) rfl fun a hf => ?_
     refine n1 10 (by kernel_rfl) rfl rfl (op_storeB hf H 0 TF.sz37 rfl rfl rfl rfl rfl rfl (nle rfl) fun w H => ?_)
     refine ⟨fun h => absurd h (by decide), ?_⟩
     refine tp 11 rfl rfl hf (by kernel_rfl) (fun h => absurd h (by decide)) rfl fun a hf => ?_
     refine dn (by kernel_rfl) ?_
     have hf := hf.prune [1, 6, 7, 8, 9] rfl
     refine then_n (sq (sq (reg (pr 2 hf rfl rfl fun a hf => ?_))))
     refine wl_end (then_n (iteB hR1 (fun hc4 hR1 => cd_t hf rfl hc4 ?_) fun hc4 hR1 => cd_f hf rfl hc4 ?_))
     ·refine sq (reg (pr 2 hf rfl rfl fun a hf => ?_))
      refine wl_end (then_n (wp_ret (then_r (blk_r (then_r (then_r (blk_r (then_r (then_r (?_))))))))))
      obtain rfl := Option.some.inj hR1
      replace hF := on_ret hF
      obtain rfl := Option.some.inj hF
      refine ret_2 (fn := Tryz.f54) (r := .tmp 4) (s := .tmp 5) hf rfl (rv_tmp hf rfl) (rv_tmp hf rfl) ?_
      exact ⟨_, rfl, H.bel, _, _, rfl, mk_bool, mk_bool⟩
     ·refine wp_skip (then_n (sq (sq ?_)))
      obtain ⟨c16, hGc16, hR1⟩ := bind_some hR1
      have fh2 := hf.prune [1, 6, 7, 8] rfl
      have Hm2 := H.let [true, true] [] [] [0, 1, 2, 5, 6, 7, 8] rfl rfl rfl rfl
      refine midF 62 (.bool c16) fh2 Hm2 ?_ fun a w hf H => ?_
      ·refine drawn [] (bs := [false, false, false, false, false, false, false, false, false, false, false, false, false, false, false, false, false, false, false, false, false, false, false, false, false, false]) (fuel := 26) (Checked.mixed Tryz.checked) rfl rfl fun w hb => ?_
       have H := H.keep hb
       refine tp 0 rfl rfl hf (by kernel_rfl) (fun _ => trivial) rfl fun a hf => ?_
       refine tp 1 rfl rfl hf (by kernel_rfl) (fun _ => trivial) rfl fun a hf => ?_
       obtain ⟨e2, he2, hGc16⟩ := bind_some hGc16
       obtain ⟨p3, o2, cs2, hx2, hr2, H⟩ := pre_iaddr H Tryz.underlying65 TF.sz136 8 rfl he2
       refine tP 2 rfl rfl rfl rfl hf (by kernel_rfl) (fun _ => trivial) (fun w => rq_iaddrE hf rfl rfl rfl hx2 w) fun a hf => ?_
       obtain ⟨A15, c17, rfl, hl12⟩ := Action_cells hr2
       have H := H.push (false, MP.val [(.slice A15 e2.Light.Route.Fibers.length c17)] e2.Light.Route.Fibers) hl12
       refine tp 3 rfl rfl hf (by kernel_rfl) (fun _ => trivial) rfl fun a hf => ?_
       refine strT (H.let [false, false] [] [] [1] rfl rfl rfl rfl) (fun w H => trivial) fun hS => ?_
       refine tS 4 [] rfl rfl rfl rfl hf (by kernel_rfl) (by kernel_rfl) hS (fun w H => rq_loadI hf H TF.ls3 0 0 rfl rfl rfl) fun a hf => ?_
       refine tp 5 rfl rfl hf (by kernel_rfl) (fun _ => hS) rfl fun a hf => ?_
       refine tp 6 rfl rfl hf (by kernel_rfl) (fun _ => hS) rfl fun a hf => ?_
       refine iteB hGc16 (fun hc5 hGc16 => ?_) fun hc5 hGc16 => ?_
       ·have hf := hf.lit 43 rfl hc5
        refine tpg 7 rfl rfl rfl rfl hf (by kernel_rfl) (fun _ => hS) rfl fun a hf => ?_
        refine strT (H.let [false, true] [] [] [1] rfl rfl rfl rfl) (fun w H => H.let [false] [] [] [0] rfl rfl rfl rfl) fun hS => ?_
        refine tSg 8 [] rfl rfl rfl rfl rfl rfl hf (by kernel_rfl) (by kernel_rfl) hS (fun w H => rq_loadB hf H TF.ls35 0 rfl rfl rfl) fun a hf => ?_
        refine tSg 9 [] rfl rfl rfl rfl rfl rfl hf (by kernel_rfl) (by kernel_rfl) hS (fun w H => rq_loadBN hf H TF.la37 0 rfl rfl rfl rfl) fun a hf => ?_
        refine tpg 10 rfl rfl rfl rfl hf (by kernel_rfl) (fun _ => hS) rfl fun a hf => ?_
        refine tpg 11 rfl rfl rfl rfl hf (by kernel_rfl) (fun _ => hS) rfl fun a hf => ?_
        obtain ⟨e3, he3, hGc16⟩ := bind_some hGc16
        obtain ⟨p4, o3, cs3, hx3, hr3, H⟩ := pre_iaddr H Tryz.underlying65 TF.sz136 10 rfl he3
        refine tPg 12 rfl rfl rfl rfl rfl rfl hf (by kernel_rfl) (fun _ => hS) (fun w => rq_iaddrE hf rfl rfl rfl hx3 w) fun a hf => ?_
        obtain ⟨A16, c18, rfl, hl13⟩ := Action_cells hr3
        have H := H.push (false, MP.val [(.slice A16 e3.Light.Route.Fibers.length c18)] e3.Light.Route.Fibers) hl13
        refine tpg 13 rfl rfl rfl rfl hf (by kernel_rfl) (fun _ => hS) rfl fun a hf => ?_
        refine tpg 14 rfl rfl rfl rfl hf (by kernel_rfl) (fun _ => hS) rfl fun a hf => ?_
        refine strT (H.let [false, true] [] [] [1, 3] rfl rfl rfl rfl) (fun w H => H.let [true] [] [] [1] rfl rfl rfl rfl) fun hS => ?_
        refine tSg 15 [] rfl rfl rfl rfl rfl rfl hf (by kernel_rfl) (by kernel_rfl) hS (fun w H => rq_loadI hf H TF.ls3 0 1 rfl rfl rfl) fun a hf => ?_
        refine tpg 19 rfl rfl rfl rfl hf (by kernel_rfl) (fun _ => hS) rfl fun a hf => ?_
        refine tpg 20 rfl rfl rfl rfl hf (by kernel_rfl) (fun _ => hS) rfl fun a hf => ?_
        obtain ⟨e4, he4, hGc16⟩ := bind_some hGc16
        obtain ⟨p5, o4, cs4, hx4, hr4, H⟩ := pre_iaddr H Tryz.underlying65 TF.sz136 12 rfl he4
        refine tPg 21 rfl rfl rfl rfl rfl rfl hf (by kernel_rfl) (fun _ => hS) (fun w => rq_iaddrE hf rfl rfl rfl hx4 w) fun a hf => ?_
        obtain ⟨A17, c19, rfl, hl14⟩ := Action_cells hr4
        have H := H.push (false, MP.val [(.slice A17 e4.Light.Route.Fibers.length c19)] e4.Light.Route.Fibers) hl14
        refine tpg 22 rfl rfl rfl rfl hf (by kernel_rfl) (fun _ => hS) rfl fun a hf => ?_
        refine strT (H.let [false, true] [] [] [1, 3, 5] rfl rfl rfl rfl) (fun w H => H.let [true] [] [] [1, 2] rfl rfl rfl rfl) fun hS => ?_
        refine tSg 23 [] rfl rfl rfl rfl rfl rfl hf (by kernel_rfl) (by kernel_rfl) hS (fun w H => rq_loadIN hf H TF.la112 0 1 rfl rfl rfl rfl) fun a hf => ?_
        obtain ⟨y4, hy4, hGc16⟩ := bind_some hGc16
        refine n1g 16 (by kernel_rfl) rfl rfl rfl rfl hf (op_call hf TF.cl63 rfl (by decide) (spec_l9Find_ok (S := fun _ => True) (Plan_mkv (x := ({ Network := ({ Nodes := m, Fibers := m2 } : Network), Lights := m3 } : Plan)) (rep_true (α := List ByteArray) (H.get 13 rfl)) (rep_true (α := List Fiber) (H.get 12 rfl)) (rep_true (α := List Light) (H.get 11 rfl))) mk_int hy4) fun v6 w a hp7 hf => ?_)
        obtain ⟨hb4, hp7⟩ := hp7
        obtain rfl := VR_int hp7
        have H := H.keep hb4
        have hS := H.let [false, true] [] [] [1, 3, 5] rfl rfl rfl rfl
        refine ⟨fun _ => hS, ?_⟩
        obtain ⟨e5, he5, hGc16⟩ := bind_some hGc16
        obtain ⟨p6, o5, cs5, hx5, hr5, H⟩ := pre_iaddr H Tryz.underlying35 TF.sz112 11 rfl he5
        refine tPg 17 rfl rfl rfl rfl rfl rfl hf (by kernel_rfl) (fun _ => hS) (fun w => rq_iaddrE hf rfl rfl rfl hx5 w) fun a hf => ?_
        obtain ⟨A18, c20, rfl, hl15⟩ := Light_cells hr5
        have H := H.push (true, MP.val [(.slice A18 e5.Route.Fibers.length c20)] e5.Route.Fibers) hl15
        refine strT (H.let [false, true] [] [] [1, 3, 5, 7] rfl rfl rfl rfl) (fun w H => H.let [true] [] [] [1, 2, 3] rfl rfl rfl rfl) fun hS => ?_
        refine tSg 18 [] rfl rfl rfl rfl rfl rfl hf (by kernel_rfl) (by kernel_rfl) hS (fun w H => rq_loadIN hf H TF.la112 0 0 rfl rfl rfl rfl) fun a hf => ?_
        obtain ⟨y5, hy5, hGc16⟩ := bind_some hGc16
        refine n1g 24 (by kernel_rfl) rfl rfl rfl rfl hf (op_call hf TF.cl112 rfl (by decide) (spec_l9Collide_ok (S := fun _ => True) (Light_mkv (x := e5) (rep_true (α := List Int) (H.get 0 rfl))) (Light_mkv (x := e4.Light) (rep_true (α := List Int) (H.get 2 rfl))) hy5) fun v7 w a hp8 hf => ?_)
        obtain ⟨hb5, hp8⟩ := hp8
        obtain rfl := VR_bool hp8
        have H := H.keep hb5
        have hS := H.let [false, true] [] [] [1, 3, 5, 7] rfl rfl rfl rfl
        refine ⟨fun _ => hS, ?_⟩
        refine tp 25 rfl rfl hf (by kernel_rfl) (fun _ => hS) rfl fun a hf => ?_
        refine dn (by kernel_rfl) ?_
        obtain rfl := Option.some.inj hGc16
        have hf := hf.prune [62, 1, 6, 7, 8] rfl
        have H := H.let [true, true] [] [] [8, 9, 10, 13, 14, 15, 16] rfl rfl rfl rfl
        exact ⟨hf, H⟩
       ·have hf := hf.lit 43 rfl hc5
        refine tU 7 rfl rfl rfl rfl rfl rfl rfl hf (by kernel_rfl) (fun _ => hS) fun a hf => ?_
        refine tU 8 rfl rfl rfl rfl rfl rfl rfl hf (by kernel_rfl) (fun _ => hS) fun a hf => ?_
        refine tU 9 rfl rfl rfl rfl rfl rfl rfl hf (by kernel_rfl) (fun _ => hS) fun a hf => ?_
        refine tU 10 rfl rfl rfl rfl rfl rfl rfl hf (by kernel_rfl) (fun _ => hS) fun a hf => ?_
        refine tU 11 rfl rfl rfl rfl rfl rfl rfl hf (by kernel_rfl) (fun _ => hS) fun a hf => ?_
        refine tU 12 rfl rfl rfl rfl rfl rfl rfl hf (by kernel_rfl) (fun _ => hS) fun a hf => ?_
        refine tU 13 rfl rfl rfl rfl rfl rfl rfl hf (by kernel_rfl) (fun _ => hS) fun a hf => ?_
        refine tU 14 rfl rfl rfl rfl rfl rfl rfl hf (by kernel_rfl) (fun _ => hS) fun a hf => ?_
        refine tU 15 rfl rfl rfl rfl rfl rfl rfl hf (by kernel_rfl) (fun _ => hS) fun a hf => ?_
        refine tU 16 rfl rfl rfl rfl rfl rfl rfl hf (by kernel_rfl) (fun _ => hS) fun a hf => ?_
        refine tU 17 rfl rfl rfl rfl rfl rfl rfl hf (by kernel_rfl) (fun _ => hS) fun a hf => ?_
        refine tU 18 rfl rfl rfl rfl rfl rfl rfl hf (by kernel_rfl) (fun _ => hS) fun a hf => ?_
        refine tU 19 rfl rfl rfl rfl rfl rfl rfl hf (by kernel_rfl) (fun _ => hS) fun a hf => ?_
        refine tU 20 rfl rfl rfl rfl rfl rfl rfl hf (by kernel_rfl) (fun _ => hS) fun a hf => ?_
        refine tU 21 rfl rfl rfl rfl rfl rfl rfl hf (by kernel_rfl) (fun _ => hS) fun a hf => ?_
        refine tU 22 rfl rfl rfl rfl rfl rfl rfl hf (by kernel_rfl) (fun _ => hS) fun a hf => ?_
        refine tU 23 rfl rfl rfl rfl rfl rfl rfl hf (by kernel_rfl) (fun _ => hS) fun a hf => ?_
        refine tU 24 rfl rfl rfl rfl rfl rfl rfl hf (by kernel_rfl) (fun _ => hS) fun a hf => ?_
        refine tp 25 rfl rfl hf (by kernel_rfl) (fun _ => hS) rfl fun a hf => ?_
        refine dn (by kernel_rfl) ?_
        obtain rfl := Option.some.inj hGc16
        have hf := hf.prune [62, 1, 6, 7, 8] rfl
        have H := H.let [true, true] [] [] [2, 3, 4, 7, 8, 9, 10] rfl rfl rfl rfl
        exact ⟨hf, H⟩
      refine then_n (iteB hR1 (fun hc6 hR1 => cd_t hf rfl hc6 ?_) fun hc6 hR1 => cd_f hf rfl hc6 ?_)
      ·refine sq (reg (pr 2 hf rfl rfl fun a hf => ?_))
       refine wl_end (then_n (wp_ret (then_r (blk_r (then_r (then_r (blk_r (then_r (then_r (?_))))))))))
       obtain rfl := Option.some.inj hR1
       replace hF := on_ret hF
       obtain rfl := Option.some.inj hF
       refine ret_2 (fn := Tryz.f54) (r := .tmp 4) (s := .tmp 5) hf rfl (rv_tmp hf rfl) (rv_tmp hf rfl) ?_
       exact ⟨_, rfl, H.bel, _, _, rfl, mk_bool, mk_bool⟩
      ·refine wp_skip (then_n (reg (wl0 rfl (op_q hf (rq_loadBN hf H TF.la37 0 rfl rfl rfl rfl) rfl (by decide) fun a hf => ?_))))
       refine wl0 rfl (op_storeB hf H 1 TF.sz37 rfl rfl rfl rfl rfl rfl (nle rfl) fun w H => ?_)
       refine wl_end (blk_n (then_n (reg (pr 3 hf rfl rfl fun a hf => ?_))))
       refine wl_end ?_
       have hf := hf.prune [1, 6, 7] rfl
       have H := H.let [false, true] [] [] [0, 1, 2, 6] rfl rfl rfl rfl
       exact then_n ⟨(w64 (i + 1), y3.1.Network.Nodes, y3.1.Network.Fibers, y3.1.Lights), hR1, A12, c13, A13, c14, A14, c15, hf, H⟩
   ·refine wp_exit (then_x (then_x (blk_e (?_))))
    have hf := hf.prune [1, 6, 7] rfl
    have H := H.let [true] [] [] [0, 1, 2, 3] rfl rfl rfl rfl
    exact ⟨(i, m, m2, m3), (Option.some.inj hR1).symm, A8, c9, A9, c10, A10, c11, hf, H⟩
  rintro a w ⟨⟨i2, m4, m5, m6⟩, rfl, A19, c21, A20, c22, A21, c23, hf, H⟩
  replace hF := on_next hF
  try dsimp only at hF
  refine then_n (sq (reg (pr 2 hf rfl rfl fun a hf => ?_)))
  refine wl_end (then_n (wp_ret (?_)))
  obtain rfl := Option.some.inj hF
  refine ret_2 (fn := Tryz.f54) (r := .tmp 4) (s := .tmp 5) hf rfl (rv_tmp hf rfl) (rv_tmp hf rfl) ?_
  exact ⟨_, rfl, H.bel, _, _, rfl, mk_bool, mk_bool⟩

/- loop.example/g00897/impl.withLight -/
set_option maxHeartbeats 1000000 in
theorem impl_withLight_ok {fu : Nat} {w0 : World} {S : Nat → Prop} {v0_ : Value} {v1_ : Value} {p : Plan} {x1 : Light} {r : Plan} (h0 : VR w0 S v0_ p) (h1 : VR w0 S v1_ x1) (hF : impl_withLight fu p x1 = some r) :
    Calls Tryz.prog 215 [v0_, v1_].toArray w0 fun e w' => ∃ v, e = .returned v ∧ (Below w0.heap.size w0 w' ∧ ∃ F0, VO w' F0 v r ∧ New w0 w' F0) := by
 obtain ⟨A, c, A2, c2, A3, c3, rfl, hl, hl2, hl3⟩ := Plan_open h0
 obtain ⟨A4, c4, rfl, hl4⟩ := Light_open h1
 have H := Mem.start ⟨w0, []⟩ S
 have H := H.pushArg (MP.val [(.slice A p.Network.Nodes.length c)] p.Network.Nodes) hl
 have H := H.pushArg (MP.val [(.slice A2 p.Network.Fibers.length c2)] p.Network.Fibers) hl2
 have H := H.pushArg (MP.val [(.slice A3 p.Lights.length c3)] p.Lights) hl3
 have H := H.pushArg (MP.val [(.slice A4 x1.Route.Fibers.length c4)] x1.Route.Fibers) hl4
 refine enter Tryz.func215 rfl rfl (nle rfl) rfl fun a hf => ?_
 rw [impl_withLight] at hF
 refine sq (reg (wl0 rfl (op_box hf H rfl rfl (by decide) fun b' a w hf H => ?_)))
 refine wl0 rfl (op_box hf H rfl rfl (by decide) fun b2 a w hf H => ?_)
 refine wl0 rfl (op_alloc hf H TF.zv37 rfl (by decide) fun b3 a w hf H => ?_)
 refine wl_end (then_n (sq (reg (wl0 rfl (op_q hf (rq_loadBN hf H TF.la37 2 rfl rfl rfl rfl) rfl (by decide) fun a hf => ?_)))))
 obtain ⟨y, hy, hF⟩ := bind_some hF
 refine wl0 rfl (op_call hf TF.cl86 rfl (by decide) (impl_copyPlan_ok (S := fun _ => True) (Plan_mkv (x := p) (rep_true (α := List ByteArray) (H.get 3 rfl)) (rep_true (α := List Fiber) (H.get 2 rfl)) (rep_true (α := List Light) (H.get 1 rfl))) hy) fun v w a hp hf => ?_)
 obtain ⟨hb, F, hp2, hN⟩ := hp
 obtain ⟨A5, c5, F2, A6, c6, F3, A7, c7, F4, rfl, rfl, hl5, hl6, hl7⟩ := Plan_vo hp2
 have H := H.addOwn hb (X := [(⟨F2, MP.own F2 [(.slice A5 y.Network.Nodes.length c5)] (y.Network.Nodes : List ByteArray)⟩ : DI), (⟨F3, MP.own F3 [(.slice A6 y.Network.Fibers.length c6)] (y.Network.Fibers : List Fiber)⟩ : DI), (⟨F4, MP.own F4 [(.slice A7 y.Lights.length c7)] (y.Lights : List Light)⟩ : DI)]) (by simpa using hN.1) (ps1 hl5 (ps1 hl6 (ps1 hl7 ps0))) (by simpa using hN.2)
 have H := H.lend 0 rfl
 have H := H.lend 1 rfl
 have H := H.lend 2 rfl
 refine wl0 rfl (op_alloc hf H TF.zv37 rfl (by decide) fun b4 a w hf H => ?_)
 refine wl0 rfl (op_storeB hf H 0 TF.sz37 rfl rfl rfl rfl rfl rfl (nle rfl) fun w H => ?_)
 refine pr 1 hf rfl rfl fun a hf => ?_
 refine wl_end (then_n (sq ?_))
 obtain ⟨out', hB1, hF⟩ := bind_some hF
 have hf := hf.prune [2, 3, 4, 5, 6] rfl
 have H := H.let [true, true, true, true] [] [true, true, true] [0, 1, 2, 3, 4, 5, 6] rfl rfl rfl rfl
 refine loopC (fun (s : Int) (a : Act) (w : World) => match s with | at' => Fr a 39 [(2, (.pointer (some ⟨b', 0, none⟩))), (3, (.pointer (some ⟨b2, 0, none⟩))), (4, (.pointer (some ⟨b3, 0, none⟩))), (5, (.pointer (some ⟨b4, 0, none⟩))), (6, (.int .i64 at'))] ∧ Mem ⟨w0, []⟩ S [⟨b4, 37, [(.slice A5 y.Network.Nodes.length c5), (.slice A6 y.Network.Fibers.length c6), (.slice A7 y.Lights.length c7)]⟩, ⟨b3, 37, [(.slice none 0 0), (.slice none 0 0), (.slice none 0 0)]⟩, ⟨b2, 112, [(.int .i64 x1.Id), (.int .i64 x1.Route.Start), (.slice A4 x1.Route.Fibers.length c4), (.int .i64 x1.Block.First), (.int .i64 x1.Block.Count)]⟩, ⟨b', 37, [(.slice A p.Network.Nodes.length c), (.slice A2 p.Network.Fibers.length c2), (.slice A3 p.Lights.length c3)]⟩] [] [⟨F2, MP.own F2 [(.slice A5 y.Network.Nodes.length c5)] (y.Network.Nodes : List ByteArray)⟩, ⟨F3, MP.own F3 [(.slice A6 y.Network.Fibers.length c6)] (y.Network.Fibers : List Fiber)⟩, ⟨F4, MP.own F4 [(.slice A7 y.Lights.length c7)] (y.Lights : List Light)⟩] [(true, MP.val [(.slice A7 y.Lights.length c7)] (y.Lights : List Light)), (true, MP.val [(.slice A6 y.Network.Fibers.length c6)] (y.Network.Fibers : List Fiber)), (true, MP.val [(.slice A5 y.Network.Nodes.length c5)] (y.Network.Nodes : List ByteArray)), (false, MP.val [(.slice A4 x1.Route.Fibers.length c4)] (x1.Route.Fibers : List Int)), (false, MP.val [(.slice A3 p.Lights.length c3)] (p.Lights : List Light)), (false, MP.val [(.slice A2 p.Network.Fibers.length c2)] (p.Network.Fibers : List Fiber)), (false, MP.val [(.slice A p.Network.Nodes.length c)] (p.Network.Nodes : List ByteArray))] w) (fun k (s : Int) => impl_withLight_L1 fu p x1 k s = some out') (fun s => out' = s) 0 fu hB1 ⟨hf, H⟩ (fun s h => by cases h) ?_ ?_
 ·rintro fk at' a w hR1 hI
  replace hR1 : impl_withLight_L1 fu p x1 (fk + 1) at' = some out' := hR1
  rw [impl_withLight_L1] at hR1
  obtain ⟨hf, H⟩ := hI
  refine sq (sq ?_)
  obtain ⟨c8, hGc8, hR1⟩ := bind_some hR1
  have fh := hf.prune [2, 3, 4, 5, 6] rfl
  have Hm := H.let [true, true, true, true] [] [true, true, true] [0, 1, 2, 3, 4, 5, 6] rfl rfl rfl rfl
  refine midF 24 (.bool c8) fh Hm ?_ fun a w hf H => ?_
  ·refine drawn [] (bs := [false, false, false, false, false, false, false, false, false, false, false, false, false, false, false, false]) (fuel := 16) (Checked.mixed Tryz.checked) rfl rfl fun w hb => ?_
   have H := H.keep hb
   refine tp 0 rfl rfl hf (by kernel_rfl) (fun _ => trivial) rfl fun a hf => ?_
   refine tp 1 rfl rfl hf (by kernel_rfl) (fun _ => trivial) rfl fun a hf => ?_
   refine strT (H.let [false, false, false, true] [] [false, false, false] [] rfl rfl rfl rfl) (fun w H => trivial) fun hS => ?_
   refine tS 2 [] rfl rfl rfl rfl hf (by kernel_rfl) (by kernel_rfl) hS (fun w H => rq_loadB hf H TF.ls35 0 rfl rfl rfl) fun a hf => ?_
   refine tp 3 rfl rfl hf (by kernel_rfl) (fun _ => hS) rfl fun a hf => ?_
   refine tp 4 rfl rfl hf (by kernel_rfl) (fun _ => hS) rfl fun a hf => ?_
   refine tp 5 rfl rfl hf (by kernel_rfl) (fun _ => hS) rfl fun a hf => ?_
   refine iteB hGc8 (fun hc hGc8 => ?_) fun hc hGc8 => ?_
   ·have hf := hf.lit 14 rfl hc
    refine tpg 6 rfl rfl rfl rfl hf (by kernel_rfl) (fun _ => hS) rfl fun a hf => ?_
    refine tSg 7 [] rfl rfl rfl rfl rfl rfl hf (by kernel_rfl) (by kernel_rfl) hS (fun w H => rq_loadB hf H TF.ls35 0 rfl rfl rfl) fun a hf => ?_
    refine tpg 8 rfl rfl rfl rfl hf (by kernel_rfl) (fun _ => hS) rfl fun a hf => ?_
    obtain ⟨e, he, hGc8⟩ := bind_some hGc8
    obtain ⟨p2, o, cs, hx, hr, H⟩ := pre_iaddr H Tryz.underlying35 TF.sz112 4 rfl he
    refine tPg 9 rfl rfl rfl rfl rfl rfl hf (by kernel_rfl) (fun _ => hS) (fun w => rq_iaddrE hf rfl rfl rfl hx w) fun a hf => ?_
    obtain ⟨A8, c9, rfl, hl8⟩ := Light_cells hr
    have H := H.push (false, MP.val [(.slice A8 e.Route.Fibers.length c9)] e.Route.Fibers) hl8
    refine tpg 10 rfl rfl rfl rfl hf (by kernel_rfl) (fun _ => hS) rfl fun a hf => ?_
    refine strT (H.let [false, false, false, true] [] [false, false, false] [1] rfl rfl rfl rfl) (fun w H => H.let [true] [] [] [] rfl rfl rfl rfl) fun hS => ?_
    refine tSg 11 [] rfl rfl rfl rfl rfl rfl hf (by kernel_rfl) (by kernel_rfl) hS (fun w H => rq_loadI hf H TF.ls3 0 0 rfl rfl rfl) fun a hf => ?_
    refine tpg 12 rfl rfl rfl rfl hf (by kernel_rfl) (fun _ => hS) rfl fun a hf => ?_
    refine strT (H.let [false, false, true, true] [] [false, false, false] [1] rfl rfl rfl rfl) (fun w H => H.let [false, true] [] [] [0] rfl rfl rfl rfl) fun hS => ?_
    refine tSg 13 [] rfl rfl rfl rfl rfl rfl hf (by kernel_rfl) (by kernel_rfl) hS (fun w H => rq_loadB hf H TF.ls3 0 rfl rfl rfl) fun a hf => ?_
    refine tpg 14 rfl rfl rfl rfl hf (by kernel_rfl) (fun _ => hS) rfl fun a hf => ?_
    refine tp 15 rfl rfl hf (by kernel_rfl) (fun _ => hS) rfl fun a hf => ?_
    refine dn (by kernel_rfl) ?_
    obtain rfl := Option.some.inj hGc8
    have hf := hf.prune [24, 2, 3, 4, 5, 6] rfl
    have H := H.let [true, true, true, true] [] [true, true, true] [2, 3, 4, 5, 6, 7, 8] rfl rfl rfl rfl
    exact ⟨hf, H⟩
   ·have hf := hf.lit 14 rfl hc
    refine tU 6 rfl rfl rfl rfl rfl rfl rfl hf (by kernel_rfl) (fun _ => hS) fun a hf => ?_
    refine tU 7 rfl rfl rfl rfl rfl rfl rfl hf (by kernel_rfl) (fun _ => hS) fun a hf => ?_
    refine tU 8 rfl rfl rfl rfl rfl rfl rfl hf (by kernel_rfl) (fun _ => hS) fun a hf => ?_
    refine tU 9 rfl rfl rfl rfl rfl rfl rfl hf (by kernel_rfl) (fun _ => hS) fun a hf => ?_
    refine tU 10 rfl rfl rfl rfl rfl rfl rfl hf (by kernel_rfl) (fun _ => hS) fun a hf => ?_
    refine tU 11 rfl rfl rfl rfl rfl rfl rfl hf (by kernel_rfl) (fun _ => hS) fun a hf => ?_
    refine tU 12 rfl rfl rfl rfl rfl rfl rfl hf (by kernel_rfl) (fun _ => hS) fun a hf => ?_
    refine tU 13 rfl rfl rfl rfl rfl rfl rfl hf (by kernel_rfl) (fun _ => hS) fun a hf => ?_
    refine tU 14 rfl rfl rfl rfl rfl rfl rfl hf (by kernel_rfl) (fun _ => hS) fun a hf => ?_
    refine tp 15 rfl rfl hf (by kernel_rfl) (fun _ => hS) rfl fun a hf => ?_
    refine dn (by kernel_rfl) ?_
    obtain rfl := Option.some.inj hGc8
    have hf := hf.prune [24, 2, 3, 4, 5, 6] rfl
    have H := H.let [true, true, true, true] [] [true, true, true] [0, 1, 2, 3, 4, 5, 6] rfl rfl rfl rfl
    exact ⟨hf, H⟩
  refine then_n (iteB hR1 (fun hc2 hR1 => cd_t hf rfl hc2 ?_) fun hc2 hR1 => cd_f hf rfl hc2 ?_)
  ·refine wp_skip (then_n (wp_block (reg (pr 3 hf rfl rfl fun a hf => ?_))))
   refine wl_end (blk_n ?_)
   have hf := hf.prune [2, 3, 4, 5, 6] rfl
   have H := H.let [true, true, true, true] [] [true, true, true] [0, 1, 2, 3, 4, 5, 6] rfl rfl rfl rfl
   exact then_n ⟨w64 (at' + 1), hR1, hf, H⟩
  ·refine wp_exit (then_x (then_x (blk_e (?_))))
   have hf := hf.prune [2, 3, 4, 5, 6] rfl
   have H := H.let [true, true, true, true] [] [true, true, true] [0, 1, 2, 3, 4, 5, 6] rfl rfl rfl rfl
   exact ⟨at', (Option.some.inj hR1).symm, hf, H⟩
 rintro a w ⟨out', rfl, hf, H⟩
 refine then_n (sq (reg (pr 1 hf rfl rfl fun a hf => ?_)))
 refine wl0 rfl (op_q hf (rq_loadBN hf H TF.la108 2 rfl rfl rfl rfl) rfl (by decide) fun a hf => ?_)
 obtain ⟨y2, hy2, hF⟩ := bind_some hF
 refine wl0 rfl (op_call hf TF.cl152 rfl (by decide) (impl_copyRoute_ok (S := fun _ => True) (Route_mkv (x := x1.Route) (rep_true (α := List Int) (H.get 3 rfl))) hy2) fun v2 w a hp3 hf => ?_)
 obtain ⟨hb2, F5, hp4, hN2⟩ := hp3
 obtain ⟨A9, c10, F6, rfl, rfl, hl9⟩ := Route_vo hp4
 have H := H.addOwn hb2 (X := [(⟨F6, MP.own F6 [(.slice A9 y2.Fibers.length c10)] (y2.Fibers : List Int)⟩ : DI)]) (by simpa using hN2.1) (ps1 hl9 ps0) (by simpa using hN2.2)
 have H := H.lend 0 rfl
 refine pr 1 hf rfl rfl fun a hf => ?_
 refine wl0 rfl (op_storeB hf H 2 TF.sz108 rfl rfl rfl rfl rfl rfl (nle rfl) fun w H => ?_)
 refine wl_end (then_n (sq (reg (pr 1 hf rfl rfl fun a hf => ?_))))
 refine wl0 rfl (op_q hf (rq_loadB hf H TF.ls35 0 rfl rfl rfl) rfl (by decide) fun a hf => ?_)
 refine pr 1 hf rfl rfl fun a hf => ?_
 refine wl0 rfl (op_q hf (rq_loadBN hf H TF.la112 2 rfl rfl rfl rfl) rfl (by decide) fun a hf => ?_)
 have H := H.recast (X := [(⟨F6, MP.own F6 [(.slice A9 y2.Fibers.length c10)] (y2.Fibers : List Int)⟩ : DI)]) (Y := [(⟨F6, MP.own F6 [(.int .i64 x1.Id), (.int .i64 y2.Start), (.slice A9 y2.Fibers.length c10), (.int .i64 x1.Block.First), (.int .i64 x1.Block.Count)] (({ Id := x1.Id, Route := y2, Block := x1.Block } : Light) : Light)⟩ : DI)]) (List.Perm.of_eq (by simp)) fun _ => ps1 (Light_ownmk (x := ({ Id := x1.Id, Route := y2, Block := x1.Block } : Light)) (H.ownAt 0 rfl)) ps0
 refine wl0 rfl (op_bsliceO hf 112 H rfl (fun w => by kernel_rfl) (by decide) fun A10 a w hf H => ?_)
 have H := H.frontD 2 rfl
 obtain ⟨Fs, E, H, -⟩ := H.thaw rfl
 have H := H.arg (p := MP.val [(.slice A p.Network.Nodes.length c)] p.Network.Nodes) hl
 have H := H.arg (p := MP.val [(.slice A2 p.Network.Fibers.length c2)] p.Network.Fibers) hl2
 have H := H.arg (p := MP.val [(.slice A3 p.Lights.length c3)] p.Lights) hl3
 have H := H.arg (p := MP.val [(.slice A4 x1.Route.Fibers.length c4)] x1.Route.Fibers) hl4
 have H := H.lend 0 rfl
 have H := H.lend 1 rfl
 obtain ⟨l, hl, hF⟩ := bind_some hF
 have H := H.frontR 1 rfl
 have H := H.frontR 1 rfl
 refine wl0 rfl (op_insR hf H TF.cl232 ins_spec_232 rfl hl (by decide) fun Fs2 E2 A11 c11 a w hf H => ?_)
 refine pr 1 hf rfl rfl fun a hf => ?_
 refine wl0 rfl (op_storeB hf H 0 TF.sz35 rfl rfl rfl rfl rfl rfl (nle rfl) fun w H => ?_)
 have hf := hf.prune [4, 5] rfl
 refine wl_end (then_n (sq (reg (wl0 rfl (op_q hf (rq_loadBN hf H TF.la37 0 rfl rfl rfl rfl) rfl (by decide) fun a hf => ?_)))))
 refine wl0 rfl (op_storeB hf H 1 TF.sz37 rfl rfl rfl rfl rfl rfl (nle rfl) fun w H => ?_)
 refine wl_end (then_n (wp_ret (?_)))
 obtain ⟨F7, H⟩ := H.freezeOwn 0 rfl
 have H := H.lend 0 rfl
 have H := H.frontD 2 rfl
 have H := H.frontD 2 rfl
 obtain rfl := Option.some.inj hF
 refine ret_1 (fn := Tryz.f215) (r := .cell 4 37) hf rfl (rv_cellN hf H 1 TF.la37 rfl rfl rfl) ?_
 have hN := H.ends (X := [(⟨F2, MP.own F2 [(.slice A5 y.Network.Nodes.length c5)] (y.Network.Nodes : List ByteArray)⟩ : DI), (⟨F3, MP.own F3 [(.slice A6 y.Network.Fibers.length c6)] (y.Network.Fibers : List Fiber)⟩ : DI), (⟨F7, MP.own F7 [(.slice A11 l.length c11)] (l : List Light)⟩ : DI)])
 simp only [List.flatMap_cons, List.flatMap_nil, List.append_nil, List.append_assoc] at hN
 exact ⟨_, rfl, H.bel, (F2 ++ (F3 ++ F7)), ⟨_, Plan_ownmk (x := ({ Network := y.Network, Lights := l } : Plan)) (H.ownAt 0 rfl) (H.ownAt 1 rfl) (H.ownAt 2 rfl), rfl⟩, by first | exact hN | simpa using hN⟩

/- loop.example/g00897/impl.planIf -/
set_option maxHeartbeats 1000000 in
theorem impl_planIf_ok {fu : Nat} {w0 : World} {S : Nat → Prop} {v0_ : Value} {p : Plan} {r : Plan × Bool} (h0 : VR w0 S v0_ p) (hF : impl_planIf fu p = some r) :
    Calls Tryz.prog 214 [v0_].toArray w0 fun e w' => ∃ v, e = .returned v ∧ (Below w0.heap.size w0 w' ∧ ∃ u0 u1, v = .tuple #[u0, u1] ∧ VR w' (St ⟨w0, []⟩ S [] [] [] false) u0 r.1 ∧ VR w' (St ⟨w0, []⟩ S [] [] [] true) u1 r.2) := by
 obtain ⟨A, c, A2, c2, A3, c3, rfl, hl, hl2, hl3⟩ := Plan_open h0
 have H := Mem.start ⟨w0, []⟩ S
 have H := H.pushArg (MP.val [(.slice A p.Network.Nodes.length c)] p.Network.Nodes) hl
 have H := H.pushArg (MP.val [(.slice A2 p.Network.Fibers.length c2)] p.Network.Fibers) hl2
 have H := H.pushArg (MP.val [(.slice A3 p.Lights.length c3)] p.Lights) hl3
 refine enter Tryz.func214 rfl rfl (nle rfl) rfl fun a hf => ?_
 rw [impl_planIf] at hF
 refine sq (reg (wl0 rfl (op_box hf H rfl rfl (by decide) fun b' a w hf H => ?_)))
 refine wl0 rfl (op_alloc hf H TF.zv37 rfl (by decide) fun b2 a w hf H => ?_)
 refine pr 1 hf rfl rfl fun a hf => ?_
 refine wl_end (then_n (sq (sq (reg (wl0 rfl (op_q hf (rq_loadBN hf H TF.la37 1 rfl rfl rfl rfl) rfl (by decide) fun a hf => ?_))))))
 obtain ⟨y, hy, hF⟩ := bind_some hF
 refine wl0 rfl (op_call hf TF.cl72 rfl (by decide) (impl_IsValidPlan_ok (S := fun _ => True) (Plan_mkv (x := p) (rep_true (α := List ByteArray) (H.get 2 rfl)) (rep_true (α := List Fiber) (H.get 1 rfl)) (rep_true (α := List Light) (H.get 0 rfl))) hy) fun v w a hp hf => ?_)
 obtain ⟨hb, hp⟩ := hp
 obtain rfl := VR_bool hp
 have H := H.keep hb
 refine pr 1 hf rfl rfl fun a hf => ?_
 refine wl_end (then_n (iteB hF (fun hc hF => cd_t hf rfl hc ?_) fun hc hF => cd_f hf rfl hc ?_))
 ·refine sq (reg (wl0 rfl (op_q hf (rq_build hf (cs := [(.slice none 0 0), (.slice none 0 0), (.slice none 0 0)]) rfl (fun w => by kernel_rfl)) rfl (by decide) fun a hf => ?_)))
  refine wl0 rfl (op_storeB hf H 0 TF.sz37 rfl rfl rfl rfl rfl rfl (nle rfl) fun w H => ?_)
  refine pr 1 hf rfl rfl fun a hf => ?_
  refine wl_end (then_n (wp_ret (then_r (?_))))
  have H := H.pushNil (ByteArray) true
  have H := H.pushNil (Fiber) true
  have H := H.pushNil (Light) true
  obtain rfl := Option.some.inj hF
  refine ret_2 (fn := Tryz.f214) (r := .cell 2 37) (s := .tmp 3) hf rfl (rv_cellN hf H 0 TF.la37 rfl rfl rfl) (rv_tmp hf rfl) ?_
  exact ⟨_, rfl, H.bel, _, _, rfl, (Plan_mkv (x := ({ Network := ({ Nodes := [], Fibers := [] } : Network), Lights := [] } : Plan)) (rep_endw (α := List ByteArray) (H.get 2 rfl)) (rep_endw (α := List Fiber) (H.get 1 rfl)) (rep_endw (α := List Light) (H.get 0 rfl))), mk_bool⟩
 ·refine wp_skip (then_n (sq (reg (wl0 rfl (op_q hf (rq_loadBN hf H TF.la37 1 rfl rfl rfl rfl) rfl (by decide) fun a hf => ?_)))))
  refine wl0 rfl (op_storeB hf H 0 TF.sz37 rfl rfl rfl rfl rfl rfl (nle rfl) fun w H => ?_)
  refine pr 1 hf rfl rfl fun a hf => ?_
  refine wl_end (then_n (wp_ret (?_)))
  obtain rfl := Option.some.inj hF
  refine ret_2 (fn := Tryz.f214) (r := .cell 2 37) (s := .tmp 3) hf rfl (rv_cellN hf H 0 TF.la37 rfl rfl rfl) (rv_tmp hf rfl) ?_
  exact ⟨_, rfl, H.bel, _, _, rfl, (Plan_mkv (x := p) (rep_end (α := List ByteArray) (H.get 2 rfl)) (rep_end (α := List Fiber) (H.get 1 rfl)) (rep_end (α := List Light) (H.get 0 rfl))), mk_bool⟩

/- loop.example/g00897/impl.AddLight -/
set_option maxHeartbeats 1000000 in
theorem impl_AddLight_ok {fu : Nat} {w0 : World} {S : Nat → Prop} {v0_ : Value} {v1_ : Value} {p : Plan} {x1 : Light} {r : Plan × Bool} (h0 : VR w0 S v0_ p) (h1 : VR w0 S v1_ x1) (hF : impl_AddLight fu p x1 = some r) :
    Calls Tryz.prog 175 [v0_, v1_].toArray w0 fun e w' => ∃ v, e = .returned v ∧ (Below w0.heap.size w0 w' ∧ ∃ u0 u1, v = .tuple #[u0, u1] ∧ VR w' (St ⟨w0, []⟩ S [] [] [] true) u0 r.1 ∧ VR w' (St ⟨w0, []⟩ S [] [] [] true) u1 r.2) := by
 obtain ⟨A, c, A2, c2, A3, c3, rfl, hl, hl2, hl3⟩ := Plan_open h0
 obtain ⟨A4, c4, rfl, hl4⟩ := Light_open h1
 have H := Mem.start ⟨w0, []⟩ S
 have H := H.pushArg (MP.val [(.slice A p.Network.Nodes.length c)] p.Network.Nodes) hl
 have H := H.pushArg (MP.val [(.slice A2 p.Network.Fibers.length c2)] p.Network.Fibers) hl2
 have H := H.pushArg (MP.val [(.slice A3 p.Lights.length c3)] p.Lights) hl3
 have H := H.pushArg (MP.val [(.slice A4 x1.Route.Fibers.length c4)] x1.Route.Fibers) hl4
 refine enter Tryz.func175 rfl rfl (nle rfl) rfl fun a hf => ?_
 rw [impl_AddLight] at hF
 refine sq (reg (wl0 rfl (op_box hf H rfl rfl (by decide) fun b' a w hf H => ?_)))
 refine wl0 rfl (op_box hf H rfl rfl (by decide) fun b2 a w hf H => ?_)
 refine wl0 rfl (op_alloc hf H TF.zv37 rfl (by decide) fun b3 a w hf H => ?_)
 refine pr 1 hf rfl rfl fun a hf => ?_
 refine wl_end (then_n (sq (sq (reg (wl0 rfl (op_q hf (rq_loadBN hf H TF.la37 2 rfl rfl rfl rfl) rfl (by decide) fun a hf => ?_))))))
 obtain ⟨y, hy, hF⟩ := bind_some hF
 refine wl0 rfl (op_call hf TF.cl72 rfl (by decide) (impl_IsValidPlan_ok (S := fun _ => True) (Plan_mkv (x := p) (rep_true (α := List ByteArray) (H.get 3 rfl)) (rep_true (α := List Fiber) (H.get 2 rfl)) (rep_true (α := List Light) (H.get 1 rfl))) hy) fun v w a hp hf => ?_)
 obtain ⟨hb, hp⟩ := hp
 obtain rfl := VR_bool hp
 have H := H.keep hb
 refine pr 1 hf rfl rfl fun a hf => ?_
 refine wl_end (then_n (iteB hF (fun hc hF => cd_t hf rfl hc ?_) fun hc hF => cd_f hf rfl hc ?_))
 ·refine sq (reg (wl0 rfl (op_q hf (rq_build hf (cs := [(.slice none 0 0), (.slice none 0 0), (.slice none 0 0)]) rfl (fun w => by kernel_rfl)) rfl (by decide) fun a hf => ?_)))
  refine wl0 rfl (op_storeB hf H 0 TF.sz37 rfl rfl rfl rfl rfl rfl (nle rfl) fun w H => ?_)
  refine pr 1 hf rfl rfl fun a hf => ?_
  refine wl_end (then_n (wp_ret (then_r (?_))))
  have H := H.pushNil (ByteArray) true
  have H := H.pushNil (Fiber) true
  have H := H.pushNil (Light) true
  obtain rfl := Option.some.inj hF
  refine ret_2 (fn := Tryz.f175) (r := .cell 4 37) (s := .tmp 5) hf rfl (rv_cellN hf H 0 TF.la37 rfl rfl rfl) (rv_tmp hf rfl) ?_
  exact ⟨_, rfl, H.bel, _, _, rfl, (Plan_mkv (x := ({ Network := ({ Nodes := [], Fibers := [] } : Network), Lights := [] } : Plan)) (rep_end (α := List ByteArray) (H.get 2 rfl)) (rep_end (α := List Fiber) (H.get 1 rfl)) (rep_end (α := List Light) (H.get 0 rfl))), mk_bool⟩
 ·refine wp_skip (then_n (sq (reg (wl0 rfl (op_q hf (rq_loadBN hf H TF.la37 2 rfl rfl rfl rfl) rfl (by decide) fun a hf => ?_)))))
  refine wl0 rfl (op_q hf (rq_loadBN hf H TF.la112 1 rfl rfl rfl rfl) rfl (by decide) fun a hf => ?_)
  obtain ⟨y2, hy2, hF⟩ := bind_some hF
  refine wl0 rfl (op_call hf TF.cl215 rfl (by decide) (impl_withLight_ok (S := fun _ => True) (Plan_mkv (x := p) (rep_true (α := List ByteArray) (H.get 3 rfl)) (rep_true (α := List Fiber) (H.get 2 rfl)) (rep_true (α := List Light) (H.get 1 rfl))) (Light_mkv (x := x1) (rep_true (α := List Int) (H.get 0 rfl))) hy2) fun v2 w a hp2 hf => ?_)
  obtain ⟨hb2, F, hp3, hN⟩ := hp2
  obtain ⟨A5, c5, F2, A6, c6, F3, A7, c7, F4, rfl, rfl, hl5, hl6, hl7⟩ := Plan_vo hp3
  have H := H.addOwn hb2 (X := [(⟨F2, MP.own F2 [(.slice A5 y2.Network.Nodes.length c5)] (y2.Network.Nodes : List ByteArray)⟩ : DI), (⟨F3, MP.own F3 [(.slice A6 y2.Network.Fibers.length c6)] (y2.Network.Fibers : List Fiber)⟩ : DI), (⟨F4, MP.own F4 [(.slice A7 y2.Lights.length c7)] (y2.Lights : List Light)⟩ : DI)]) (by simpa using hN.1) (ps1 hl5 (ps1 hl6 (ps1 hl7 ps0))) (by simpa using hN.2)
  have H := H.lend 0 rfl
  have H := H.lend 1 rfl
  have H := H.lend 2 rfl
  obtain ⟨y3, hy3, hF⟩ := bind_some hF
  refine wl0 rfl (op_call hf TF.cl214 rfl (by decide) (impl_planIf_ok (Plan_mkv (x := y2) (H.get 2 rfl) (H.get 1 rfl) (H.get 0 rfl)) hy3) fun v3 w a hp4 hf => ?_)
  obtain ⟨hb3, v4, v5, rfl, hp5, hp6⟩ := hp4
  obtain ⟨A8, c8, A9, c9, A10, c10, rfl, hl8, hl9, hl10⟩ := Plan_open hp5
  replace hl8 := H.res (f := MP.val [(.slice A8 y3.1.Network.Nodes.length c8)] y3.1.Network.Nodes) hl8
  replace hl9 := H.res (f := MP.val [(.slice A9 y3.1.Network.Fibers.length c9)] y3.1.Network.Fibers) hl9
  replace hl10 := H.res (f := MP.val [(.slice A10 y3.1.Lights.length c10)] y3.1.Lights) hl10
  obtain rfl := VR_bool hp6
  have H := H.keep hb3
  have H := H.push (true, MP.val [(.slice A8 y3.1.Network.Nodes.length c8)] y3.1.Network.Nodes) hl8
  have H := H.push (true, MP.val [(.slice A9 y3.1.Network.Fibers.length c9)] y3.1.Network.Fibers) hl9
  have H := H.push (true, MP.val [(.slice A10 y3.1.Lights.length c10)] y3.1.Lights) hl10
  refine pr 2 hf rfl rfl fun a hf => ?_
  refine wl0 rfl (op_storeB hf H 0 TF.sz37 rfl rfl rfl rfl rfl rfl (nle rfl) fun w H => ?_)
  refine pr 1 hf rfl rfl fun a hf => ?_
  have hf := hf.prune [4, 5] rfl
  refine wl_end (then_n (wp_ret (?_)))
  obtain rfl := Option.some.inj hF
  refine ret_2 (fn := Tryz.f175) (r := .cell 4 37) (s := .tmp 5) hf rfl (rv_cellN hf H 0 TF.la37 rfl rfl rfl) (rv_tmp hf rfl) ?_
  exact ⟨_, rfl, H.bel, _, _, rfl, (Plan_mkv (x := y3.1) (rep_end (α := List ByteArray) (H.get 2 rfl)) (rep_end (α := List Fiber) (H.get 1 rfl)) (rep_end (α := List Light) (H.get 0 rfl))), mk_bool⟩

/- loop.example/g00897/impl.withoutLight -/
set_option maxHeartbeats 1000000 in
theorem impl_withoutLight_ok {fu : Nat} {w0 : World} {S : Nat → Prop} {v0_ : Value} {v1_ : Value} {p : Plan} {i : Int} {r : Plan} (h0 : VR w0 S v0_ p) (h1 : VR w0 S v1_ i) (hF : impl_withoutLight fu p i = some r) :
    Calls Tryz.prog 216 [v0_, v1_].toArray w0 fun e w' => ∃ v, e = .returned v ∧ (Below w0.heap.size w0 w' ∧ ∃ F0, VO w' F0 v r ∧ New w0 w' F0) := by
 obtain ⟨A, c, A2, c2, A3, c3, rfl, hl, hl2, hl3⟩ := Plan_open h0
 obtain rfl := VR_int h1
 have H := Mem.start ⟨w0, []⟩ S
 have H := H.pushArg (MP.val [(.slice A p.Network.Nodes.length c)] p.Network.Nodes) hl
 have H := H.pushArg (MP.val [(.slice A2 p.Network.Fibers.length c2)] p.Network.Fibers) hl2
 have H := H.pushArg (MP.val [(.slice A3 p.Lights.length c3)] p.Lights) hl3
 refine enter Tryz.func216 rfl rfl (nle rfl) rfl fun a hf => ?_
 rw [impl_withoutLight] at hF
 refine sq (reg (wl0 rfl (op_box hf H rfl rfl (by decide) fun b' a w hf H => ?_)))
 refine wl0 rfl (op_alloc hf H TF.zv37 rfl (by decide) fun b2 a w hf H => ?_)
 refine wl_end (then_n (sq (reg (wl0 rfl (op_q hf (rq_loadBN hf H TF.la37 1 rfl rfl rfl rfl) rfl (by decide) fun a hf => ?_)))))
 obtain ⟨y, hy, hF⟩ := bind_some hF
 refine wl0 rfl (op_call hf TF.cl86 rfl (by decide) (impl_copyPlan_ok (S := fun _ => True) (Plan_mkv (x := p) (rep_true (α := List ByteArray) (H.get 2 rfl)) (rep_true (α := List Fiber) (H.get 1 rfl)) (rep_true (α := List Light) (H.get 0 rfl))) hy) fun v w a hp hf => ?_)
 obtain ⟨hb, F, hp2, hN⟩ := hp
 obtain ⟨A4, c4, F2, A5, c5, F3, A6, c6, F4, rfl, rfl, hl4, hl5, hl6⟩ := Plan_vo hp2
 have H := H.addOwn hb (X := [(⟨F2, MP.own F2 [(.slice A4 y.Network.Nodes.length c4)] (y.Network.Nodes : List ByteArray)⟩ : DI), (⟨F3, MP.own F3 [(.slice A5 y.Network.Fibers.length c5)] (y.Network.Fibers : List Fiber)⟩ : DI), (⟨F4, MP.own F4 [(.slice A6 y.Lights.length c6)] (y.Lights : List Light)⟩ : DI)]) (by simpa using hN.1) (ps1 hl4 (ps1 hl5 (ps1 hl6 ps0))) (by simpa using hN.2)
 have H := H.lend 0 rfl
 have H := H.lend 1 rfl
 have H := H.lend 2 rfl
 refine wl0 rfl (op_alloc hf H TF.zv37 rfl (by decide) fun b3 a w hf H => ?_)
 refine wl0 rfl (op_storeB hf H 0 TF.sz37 rfl rfl rfl rfl rfl rfl (nle rfl) fun w H => ?_)
 refine wl_end (then_n (sq (reg (pr 1 hf rfl rfl fun a hf => ?_))))
 refine wl0 rfl (op_q hf (rq_loadB hf H TF.ls35 0 rfl rfl rfl) rfl (by decide) fun a hf => ?_)
 refine pr 3 hf rfl rfl fun a hf => ?_
 have H := H.frontD 2 rfl
 obtain ⟨Fs, E, H, -⟩ := H.thaw rfl
 have H := H.arg (p := MP.val [(.slice A p.Network.Nodes.length c)] p.Network.Nodes) hl
 have H := H.arg (p := MP.val [(.slice A2 p.Network.Fibers.length c2)] p.Network.Fibers) hl2
 have H := H.arg (p := MP.val [(.slice A3 p.Lights.length c3)] p.Lights) hl3
 have H := H.lend 0 rfl
 have H := H.lend 1 rfl
 obtain ⟨l, hl, hF⟩ := bind_some hF
 refine wl0 rfl (op_delR hf H TF.cl233 del_spec_233 rfl hl (by decide) fun Fs2 a w hf H => ?_)
 refine pr 1 hf rfl rfl fun a hf => ?_
 refine wl0 rfl (op_storeB hf H 0 TF.sz35 rfl rfl rfl rfl rfl rfl (nle rfl) fun w H => ?_)
 refine wl_end (then_n (sq (reg (wl0 rfl (op_q hf (rq_loadBN hf H TF.la37 0 rfl rfl rfl rfl) rfl (by decide) fun a hf => ?_)))))
 refine wl0 rfl (op_storeB hf H 1 TF.sz37 rfl rfl rfl rfl rfl rfl (nle rfl) fun w H => ?_)
 have hf := hf.prune [4] rfl
 refine wl_end (then_n (wp_ret (?_)))
 obtain ⟨F5, H⟩ := H.freezeOwn 0 rfl
 have H := H.lend 0 rfl
 have H := H.frontD 2 rfl
 have H := H.frontD 2 rfl
 obtain rfl := Option.some.inj hF
 refine ret_1 (fn := Tryz.f216) (r := .cell 4 37) hf rfl (rv_cellN hf H 1 TF.la37 rfl rfl rfl) ?_
 have hN := H.ends (X := [(⟨F2, MP.own F2 [(.slice A4 y.Network.Nodes.length c4)] (y.Network.Nodes : List ByteArray)⟩ : DI), (⟨F3, MP.own F3 [(.slice A5 y.Network.Fibers.length c5)] (y.Network.Fibers : List Fiber)⟩ : DI), (⟨F5, MP.own F5 [(.slice A6 l.length c6)] (l : List Light)⟩ : DI)])
 simp only [List.flatMap_cons, List.flatMap_nil, List.append_nil, List.append_assoc] at hN
 exact ⟨_, rfl, H.bel, (F2 ++ (F3 ++ F5)), ⟨_, Plan_ownmk (x := ({ Network := y.Network, Lights := l } : Plan)) (H.ownAt 0 rfl) (H.ownAt 1 rfl) (H.ownAt 2 rfl), rfl⟩, by first | exact hN | simpa using hN⟩

/- loop.example/g00897/impl.RemoveLight -/
set_option maxHeartbeats 1000000 in
theorem impl_RemoveLight_ok {fu : Nat} {w0 : World} {S : Nat → Prop} {v0_ : Value} {v1_ : Value} {p : Plan} {id : Int} {r : Plan × Bool} (h0 : VR w0 S v0_ p) (h1 : VR w0 S v1_ id) (hF : impl_RemoveLight fu p id = some r) :
    Calls Tryz.prog 176 [v0_, v1_].toArray w0 fun e w' => ∃ v, e = .returned v ∧ (Below w0.heap.size w0 w' ∧ ∃ F0, ∃ u0 u1, v = .tuple #[u0, u1] ∧ VO w' F0 u0 r.1 ∧ VR w' (St ⟨w0, []⟩ S [] [] [] true) u1 r.2 ∧ New w0 w' F0) := by
 obtain ⟨A, c, A2, c2, A3, c3, rfl, hl, hl2, hl3⟩ := Plan_open h0
 obtain rfl := VR_int h1
 have H := Mem.start ⟨w0, []⟩ S
 have H := H.pushArg (MP.val [(.slice A p.Network.Nodes.length c)] p.Network.Nodes) hl
 have H := H.pushArg (MP.val [(.slice A2 p.Network.Fibers.length c2)] p.Network.Fibers) hl2
 have H := H.pushArg (MP.val [(.slice A3 p.Lights.length c3)] p.Lights) hl3
 refine enter Tryz.func176 rfl rfl (nle rfl) rfl fun a hf => ?_
 rw [impl_RemoveLight] at hF
 refine sq (reg (wl0 rfl (op_box hf H rfl rfl (by decide) fun b' a w hf H => ?_)))
 refine wl0 rfl (op_alloc hf H TF.zv37 rfl (by decide) fun b2 a w hf H => ?_)
 refine pr 1 hf rfl rfl fun a hf => ?_
 refine wl_end (then_n (sq (reg (wl0 rfl (op_q hf (rq_loadBN hf H TF.la37 1 rfl rfl rfl rfl) rfl (by decide) fun a hf => ?_)))))
 refine pr 1 hf rfl rfl fun a hf => ?_
 obtain ⟨y, hy, hF⟩ := bind_some hF
 refine wl0 rfl (op_call hf TF.cl67 rfl (by decide) (impl_LightNumber_ok (S := fun _ => True) (Plan_mkv (x := p) (rep_true (α := List ByteArray) (H.get 2 rfl)) (rep_true (α := List Fiber) (H.get 1 rfl)) (rep_true (α := List Light) (H.get 0 rfl))) mk_int hy) fun v w a hp hf => ?_)
 obtain ⟨hb, v2, v3, rfl, hp2, hp3⟩ := hp
 obtain rfl := VR_int hp2
 obtain rfl := VR_bool hp3
 have H := H.keep hb
 refine pr 5 hf rfl rfl fun a hf => ?_
 refine wl_end (then_n (sq (sq (reg (pr 2 hf rfl rfl fun a hf => ?_)))))
 refine wl_end (then_n (iteB hF (fun hc hF => cd_t hf rfl hc ?_) fun hc hF => cd_f hf rfl hc ?_))
 ·refine sq (reg (wl0 rfl (op_q hf (rq_build hf (cs := [(.slice none 0 0), (.slice none 0 0), (.slice none 0 0)]) rfl (fun w => by kernel_rfl)) rfl (by decide) fun a hf => ?_)))
  refine wl0 rfl (op_storeB hf H 0 TF.sz37 rfl rfl rfl rfl rfl rfl (nle rfl) fun w H => ?_)
  refine pr 1 hf rfl rfl fun a hf => ?_
  have hf := hf.prune [4, 5] rfl
  refine wl_end (then_n (wp_ret (then_r (?_))))
  have H := H.ownNil (ByteArray)
  have H := H.lend 0 rfl
  have H := H.ownNil (Fiber)
  have H := H.lend 0 rfl
  have H := H.ownNil (Light)
  have H := H.lend 0 rfl
  have H := H.frontD 1 rfl
  have H := H.frontD 2 rfl
  obtain rfl := Option.some.inj hF
  refine ret_2 (fn := Tryz.f176) (r := .cell 4 37) (s := .tmp 5) hf rfl (rv_cellN hf H 0 TF.la37 rfl rfl rfl) (rv_tmp hf rfl) ?_
  have hN := H.ends (X := [(⟨[], MP.own [] [(.slice none 0 0)] ([] : List ByteArray)⟩ : DI), (⟨[], MP.own [] [(.slice none 0 0)] ([] : List Fiber)⟩ : DI), (⟨[], MP.own [] [(.slice none 0 0)] ([] : List Light)⟩ : DI)])
  simp only [List.flatMap_cons, List.flatMap_nil, List.append_nil, List.append_assoc] at hN
  exact ⟨_, rfl, H.bel, ([] ++ ([] ++ [])), _, _, rfl, ⟨_, Plan_ownmk (x := ({ Network := ({ Nodes := [], Fibers := [] } : Network), Lights := [] } : Plan)) (H.ownAt 0 rfl) (H.ownAt 1 rfl) (H.ownAt 2 rfl), rfl⟩, mk_bool, by first | exact hN | simpa using hN⟩
 ·refine wp_skip (then_n (sq (reg (wl0 rfl (op_q hf (rq_loadBN hf H TF.la37 1 rfl rfl rfl rfl) rfl (by decide) fun a hf => ?_)))))
  refine pr 1 hf rfl rfl fun a hf => ?_
  obtain ⟨y2, hy2, hF⟩ := bind_some hF
  refine wl0 rfl (op_call hf TF.cl216 rfl (by decide) (impl_withoutLight_ok (S := fun _ => True) (Plan_mkv (x := p) (rep_true (α := List ByteArray) (H.get 2 rfl)) (rep_true (α := List Fiber) (H.get 1 rfl)) (rep_true (α := List Light) (H.get 0 rfl))) mk_int hy2) fun v4 w a hp4 hf => ?_)
  obtain ⟨hb2, F, hp5, hN⟩ := hp4
  obtain ⟨A4, c4, F2, A5, c5, F3, A6, c6, F4, rfl, rfl, hl4, hl5, hl6⟩ := Plan_vo hp5
  have H := H.addOwn hb2 (X := [(⟨F2, MP.own F2 [(.slice A4 y2.Network.Nodes.length c4)] (y2.Network.Nodes : List ByteArray)⟩ : DI), (⟨F3, MP.own F3 [(.slice A5 y2.Network.Fibers.length c5)] (y2.Network.Fibers : List Fiber)⟩ : DI), (⟨F4, MP.own F4 [(.slice A6 y2.Lights.length c6)] (y2.Lights : List Light)⟩ : DI)]) (by simpa using hN.1) (ps1 hl4 (ps1 hl5 (ps1 hl6 ps0))) (by simpa using hN.2)
  have H := H.lend 0 rfl
  have H := H.lend 1 rfl
  have H := H.lend 2 rfl
  refine wl0 rfl (op_storeB hf H 0 TF.sz37 rfl rfl rfl rfl rfl rfl (nle rfl) fun w H => ?_)
  refine pr 1 hf rfl rfl fun a hf => ?_
  have hf := hf.prune [4, 5] rfl
  refine wl_end (then_n (wp_ret (?_)))
  have H := H.frontD 2 rfl
  have H := H.frontD 2 rfl
  have H := H.frontD 2 rfl
  obtain rfl := Option.some.inj hF
  refine ret_2 (fn := Tryz.f176) (r := .cell 4 37) (s := .tmp 5) hf rfl (rv_cellN hf H 0 TF.la37 rfl rfl rfl) (rv_tmp hf rfl) ?_
  have hN := H.ends (X := [(⟨F2, MP.own F2 [(.slice A4 y2.Network.Nodes.length c4)] (y2.Network.Nodes : List ByteArray)⟩ : DI), (⟨F3, MP.own F3 [(.slice A5 y2.Network.Fibers.length c5)] (y2.Network.Fibers : List Fiber)⟩ : DI), (⟨F4, MP.own F4 [(.slice A6 y2.Lights.length c6)] (y2.Lights : List Light)⟩ : DI)])
  simp only [List.flatMap_cons, List.flatMap_nil, List.append_nil, List.append_assoc] at hN
  exact ⟨_, rfl, H.bel, (F2 ++ (F3 ++ F4)), _, _, rfl, ⟨_, Plan_ownmk (x := y2) (H.ownAt 0 rfl) (H.ownAt 1 rfl) (H.ownAt 2 rfl), rfl⟩, mk_bool, by first | exact hN | simpa using hN⟩

/- loop.example/g00897/impl.MoveLight -/
set_option maxHeartbeats 1000000 in
theorem impl_MoveLight_ok {fu : Nat} {w0 : World} {S : Nat → Prop} {v0_ : Value} {v1_ : Value} {v2_ : Value} {v3_ : Value} {p : Plan} {id : Int} {r' : Route} {b' : Block} {r : Plan × Bool} (h0 : VR w0 S v0_ p) (h1 : VR w0 S v1_ id) (h2 : VR w0 S v2_ r') (h3 : VR w0 S v3_ b') (hF : impl_MoveLight fu p id r' b' = some r) :
    Calls Tryz.prog 177 [v0_, v1_, v2_, v3_].toArray w0 fun e w' => ∃ v, e = .returned v ∧ (Below w0.heap.size w0 w' ∧ ∃ u0 u1, v = .tuple #[u0, u1] ∧ VR w' (St ⟨w0, []⟩ S [] [] [] true) u0 r.1 ∧ VR w' (St ⟨w0, []⟩ S [] [] [] true) u1 r.2) := by
 obtain ⟨A, c, A2, c2, A3, c3, rfl, hl, hl2, hl3⟩ := Plan_open h0
 obtain rfl := VR_int h1
 obtain ⟨A4, c4, rfl, hl4⟩ := Route_open h2
 obtain rfl := Block_open h3
 have H := Mem.start ⟨w0, []⟩ S
 have H := H.pushArg (MP.val [(.slice A p.Network.Nodes.length c)] p.Network.Nodes) hl
 have H := H.pushArg (MP.val [(.slice A2 p.Network.Fibers.length c2)] p.Network.Fibers) hl2
 have H := H.pushArg (MP.val [(.slice A3 p.Lights.length c3)] p.Lights) hl3
 have H := H.pushArg (MP.val [(.slice A4 r'.Fibers.length c4)] r'.Fibers) hl4
 refine enter Tryz.func177 rfl rfl (nle rfl) rfl fun a hf => ?_
 rw [impl_MoveLight] at hF
 refine sq (reg (wl0 rfl (op_box hf H rfl rfl (by decide) fun b2 a w hf H => ?_)))
 refine wl0 rfl (op_box hf H rfl rfl (by decide) fun b3 a w hf H => ?_)
 refine wl0 rfl (op_box hf H rfl rfl (by decide) fun b4 a w hf H => ?_)
 refine wl0 rfl (op_alloc hf H TF.zv37 rfl (by decide) fun b5 a w hf H => ?_)
 refine pr 1 hf rfl rfl fun a hf => ?_
 refine wl_end (then_n (sq (reg (wl0 rfl (op_q hf (rq_loadBN hf H TF.la37 3 rfl rfl rfl rfl) rfl (by decide) fun a hf => ?_)))))
 refine pr 1 hf rfl rfl fun a hf => ?_
 obtain ⟨y, hy, hF⟩ := bind_some hF
 refine wl0 rfl (op_call hf TF.cl67 rfl (by decide) (impl_LightNumber_ok (S := fun _ => True) (Plan_mkv (x := p) (rep_true (α := List ByteArray) (H.get 3 rfl)) (rep_true (α := List Fiber) (H.get 2 rfl)) (rep_true (α := List Light) (H.get 1 rfl))) mk_int hy) fun v w a hp hf => ?_)
 obtain ⟨hb, v2, v3, rfl, hp2, hp3⟩ := hp
 obtain rfl := VR_int hp2
 obtain rfl := VR_bool hp3
 have H := H.keep hb
 refine pr 5 hf rfl rfl fun a hf => ?_
 refine wl_end (then_n (sq (sq (reg (pr 2 hf rfl rfl fun a hf => ?_)))))
 refine wl_end (then_n (iteB hF (fun hc hF => cd_t hf rfl hc ?_) fun hc hF => cd_f hf rfl hc ?_))
 ·refine sq (reg (wl0 rfl (op_q hf (rq_build hf (cs := [(.slice none 0 0), (.slice none 0 0), (.slice none 0 0)]) rfl (fun w => by kernel_rfl)) rfl (by decide) fun a hf => ?_)))
  refine wl0 rfl (op_storeB hf H 0 TF.sz37 rfl rfl rfl rfl rfl rfl (nle rfl) fun w H => ?_)
  refine pr 1 hf rfl rfl fun a hf => ?_
  have hf := hf.prune [8, 9] rfl
  refine wl_end (then_n (wp_ret (then_r (?_))))
  have H := H.pushNil (ByteArray) true
  have H := H.pushNil (Fiber) true
  have H := H.pushNil (Light) true
  obtain rfl := Option.some.inj hF
  refine ret_2 (fn := Tryz.f177) (r := .cell 8 37) (s := .tmp 9) hf rfl (rv_cellN hf H 0 TF.la37 rfl rfl rfl) (rv_tmp hf rfl) ?_
  exact ⟨_, rfl, H.bel, _, _, rfl, (Plan_mkv (x := ({ Network := ({ Nodes := [], Fibers := [] } : Network), Lights := [] } : Plan)) (rep_end (α := List ByteArray) (H.get 2 rfl)) (rep_end (α := List Fiber) (H.get 1 rfl)) (rep_end (α := List Light) (H.get 0 rfl))), mk_bool⟩
 ·refine wp_skip (then_n (sq (reg (wl0 rfl (op_q hf (rq_loadBN hf H TF.la37 3 rfl rfl rfl rfl) rfl (by decide) fun a hf => ?_)))))
  obtain ⟨y2, hy2, hF⟩ := bind_some hF
  refine wl0 rfl (op_call hf TF.cl86 rfl (by decide) (impl_copyPlan_ok (S := fun _ => True) (Plan_mkv (x := p) (rep_true (α := List ByteArray) (H.get 3 rfl)) (rep_true (α := List Fiber) (H.get 2 rfl)) (rep_true (α := List Light) (H.get 1 rfl))) hy2) fun v4 w a hp4 hf => ?_)
  obtain ⟨hb2, F, hp5, hN⟩ := hp4
  obtain ⟨A5, c5, F2, A6, c6, F3, A7, c7, F4, rfl, rfl, hl5, hl6, hl7⟩ := Plan_vo hp5
  have H := H.addOwn hb2 (X := [(⟨F2, MP.own F2 [(.slice A5 y2.Network.Nodes.length c5)] (y2.Network.Nodes : List ByteArray)⟩ : DI), (⟨F3, MP.own F3 [(.slice A6 y2.Network.Fibers.length c6)] (y2.Network.Fibers : List Fiber)⟩ : DI), (⟨F4, MP.own F4 [(.slice A7 y2.Lights.length c7)] (y2.Lights : List Light)⟩ : DI)]) (by simpa using hN.1) (ps1 hl5 (ps1 hl6 (ps1 hl7 ps0))) (by simpa using hN.2)
  have H := H.lend 0 rfl
  have H := H.lend 1 rfl
  have H := H.lend 2 rfl
  have H := H.frontD 2 rfl
  obtain ⟨Fs, E, H, -⟩ := H.thaw rfl
  have H := H.arg (p := MP.val [(.slice A p.Network.Nodes.length c)] p.Network.Nodes) hl
  have H := H.arg (p := MP.val [(.slice A2 p.Network.Fibers.length c2)] p.Network.Fibers) hl2
  have H := H.arg (p := MP.val [(.slice A3 p.Lights.length c3)] p.Lights) hl3
  have H := H.arg (p := MP.val [(.slice A4 r'.Fibers.length c4)] r'.Fibers) hl4
  have H := H.lend 0 rfl
  have H := H.lend 1 rfl
  have H := H.rowSh 0 rfl
  refine wl0 rfl (op_alloc hf H TF.zv37 rfl (by decide) fun b6 a w hf H => ?_)
  refine wl0 rfl (op_storeB hf H 0 TF.sz37 rfl rfl rfl rfl rfl rfl (nle rfl) fun w H => ?_)
  have hf := hf.prune [1, 6, 7, 8, 10, 12] rfl
  refine wl_end (then_n (sq (drawn [9] (bs := [false, false, false, false, false, false, false, false, false, false]) (fuel := 10) (Checked.mixed Tryz.checked) rfl rfl fun w hb => ?_)))
  have H := H.keep hb
  refine tp 0 rfl rfl hf (by kernel_rfl) (fun _ => trivial) rfl fun a hf => ?_
  refine strT (H.let [true, false, false, false, false] [false] [false, false] [] rfl rfl rfl rfl) (fun w H => trivial) fun hS => ?_
  refine tS 1 [1, 8, 9] rfl rfl rfl rfl hf (by kernel_rfl) (by kernel_rfl) hS (fun w H => rq_loadB hf H TF.ls35 0 rfl rfl rfl) fun a hf => ?_
  refine tp 2 rfl rfl hf (by kernel_rfl) (fun _ => hS) rfl fun a hf => ?_
  refine tp 3 rfl rfl hf (by kernel_rfl) (fun _ => hS) rfl fun a hf => ?_
  refine strT (H.let [true, false, false, true, false] [false] [false, false] [] rfl rfl rfl rfl) (fun w H => H.let [true, false] [] [] [] rfl rfl rfl rfl) fun hS => ?_
  refine tS 4 [4, 5, 7, 8, 9] rfl rfl rfl rfl hf (by kernel_rfl) (by kernel_rfl) hS (fun w H => rq_loadBN hf H TF.la108 1 rfl rfl rfl rfl) fun a hf => ?_
  refine strT (H.let [true, false, true, true, false] [false] [false, false] [] rfl rfl rfl rfl) (fun w H => H.let [true, false, true] [] [] [] rfl rfl rfl rfl) fun hS => ?_
  refine tS 6 [6, 7, 8, 9] rfl rfl rfl rfl hf (by kernel_rfl) (by kernel_rfl) hS (fun w H => rq_loadBN hf H TF.la110 1 rfl rfl rfl rfl) fun a hf => ?_
  obtain ⟨y3, hy3, hF⟩ := bind_some hF
  refine n1 5 (by kernel_rfl) rfl rfl (op_call hf TF.cl152 rfl (by decide) (impl_copyRoute_ok (S := fun _ => True) (Route_mkv (x := r') (rep_true (α := List Int) (H.get 2 rfl))) hy3) fun v5 w a hp6 hf => ?_)
  obtain ⟨hb3, F5, hp7, hN2⟩ := hp6
  obtain ⟨A8, c8, F6, rfl, rfl, hl8⟩ := Route_vo hp7
  have H := H.addOwn hb3 (X := [(⟨F6, MP.own F6 [(.slice A8 y3.Fibers.length c8)] (y3.Fibers : List Int)⟩ : DI)]) (by simpa using hN2.1) (ps1 hl8 ps0) (by simpa using hN2.2)
  have H := H.lend 0 rfl
  have hS := H.let [true, false, true, true, false] [false] [false, false, false] [] rfl rfl rfl rfl
  refine ⟨fun _ => hS, ?_⟩
  refine tP 7 rfl rfl rfl rfl hf (by kernel_rfl) (fun _ => hS) (fun w => rq_build hf (cs := [(.int .i64 id), (.int .i64 y3.Start), (.slice A8 y3.Fibers.length c8), (.int .i64 b'.First), (.int .i64 b'.Count)]) rfl (fun w => by kernel_rfl)) fun a hf => ?_
  obtain ⟨e, he, hF⟩ := bind_some hF
  refine n1 8 (by kernel_rfl) rfl rfl (op_iaddrR hf H Tryz.underlying35 TF.sz112 0 rfl rfl rfl he (by decide) fun p2 o cs a hf hA hr hk => ?_)
  obtain ⟨A9, c9, rfl, hl9⟩ := Light_cells hr
  have H := H.push (true, MP.val [(.slice A9 e.Route.Fibers.length c9)] e.Route.Fibers) hl9
  have hS := H.let [true, false, true, true, false] [false] [false, false, false] [] rfl rfl rfl rfl
  refine ⟨fun _ => hS, ?_⟩
  refine n1 9 (by kernel_rfl) rfl rfl (op_storeR (e' := ({ Id := id, Route := y3, Block := b' } : Light)) (o := o) (off := 0) hf H TF.sz112 0 rfl rfl rfl rfl rfl (nle rfl) rfl hA he (st_full (Light_mk (x := ({ Id := id, Route := y3, Block := b' } : Light)) (H.get 1 rfl))) fun w H => ?_)
  replace hf : Fr a 37 [(1, (.int .i64 id)), (6, (.pointer (some ⟨b3, 0, none⟩))), (7, (.pointer (some ⟨b4, 0, none⟩))), (8, (.pointer (some ⟨b5, 0, none⟩))), (10, (.int .i64 y.1)), (12, (.pointer (some ⟨b6, 0, none⟩))), (24, (.pointer (some ⟨b6, 2, none⟩))), (25, (.slice A7 y2.Lights.length c7)), (26, (.int .i64 y.1)), (27, (.int .i64 id)), (28, (.agg #[(.int .i64 r'.Start), (.slice A4 r'.Fibers.length c4)])), (29, (.agg #[(.int .i64 y3.Start), (.slice A8 y3.Fibers.length c8)])), (30, (.agg #[(.int .i64 b'.First), (.int .i64 b'.Count)])), (31, (.agg #[(.int .i64 id), (.int .i64 y3.Start), (.slice A8 y3.Fibers.length c8), (.int .i64 b'.First), (.int .i64 b'.Count)])), (32, (.pointer (some ⟨p2, o + 0, none⟩)))] := hf.prune [1, 6, 7, 8, 10, 12, 24, 25, 26, 27, 28, 29, 30, 31, 32] rfl
  replace hf : Fr a 37 [(1, (.int .i64 id)), (6, (.pointer (some ⟨b3, 0, none⟩))), (7, (.pointer (some ⟨b4, 0, none⟩))), (8, (.pointer (some ⟨b5, 0, none⟩))), (10, (.int .i64 y.1)), (12, (.pointer (some ⟨b6, 0, none⟩))), (24, (.pointer (some ⟨b6, 2, none⟩))), (25, (.slice A7 (y2.Lights.set (y.1).toNat ({ Id := id, Route := y3, Block := b' } : Light)).length c7)), (26, (.int .i64 y.1)), (27, (.int .i64 id)), (28, (.agg #[(.int .i64 r'.Start), (.slice A4 r'.Fibers.length c4)])), (29, (.agg #[(.int .i64 y3.Start), (.slice A8 y3.Fibers.length c8)])), (30, (.agg #[(.int .i64 b'.First), (.int .i64 b'.Count)])), (31, (.agg #[(.int .i64 id), (.int .i64 y3.Start), (.slice A8 y3.Fibers.length c8), (.int .i64 b'.First), (.int .i64 b'.Count)])), (32, (.pointer (some ⟨p2, o + 0, none⟩)))] := by simpa only [List.length_set, Nat.add_zero] using hf
  replace H : Mem ⟨w0, []⟩ S [⟨b6, 37, [(.slice A5 y2.Network.Nodes.length c5), (.slice A6 y2.Network.Fibers.length c6), (.slice A7 (y2.Lights.set (y.1).toNat ({ Id := id, Route := y3, Block := b' } : Light)).length c7)]⟩, ⟨b5, 37, [(.slice none 0 0), (.slice none 0 0), (.slice none 0 0)]⟩, ⟨b4, 110, [(.int .i64 b'.First), (.int .i64 b'.Count)]⟩, ⟨b3, 108, [(.int .i64 r'.Start), (.slice A4 r'.Fibers.length c4)]⟩, ⟨b2, 37, [(.slice A p.Network.Nodes.length c), (.slice A2 p.Network.Fibers.length c2), (.slice A3 p.Lights.length c3)]⟩] [⟨.sh true, E, A7, c7, (y2.Lights.set (y.1).toNat ({ Id := id, Route := y3, Block := b' } : Light) : List Light)⟩] [⟨F6, MP.own F6 [(.slice A8 y3.Fibers.length c8)] (y3.Fibers : List Int)⟩, ⟨F2, MP.own F2 [(.slice A5 y2.Network.Nodes.length c5)] (y2.Network.Nodes : List ByteArray)⟩, ⟨F3, MP.own F3 [(.slice A6 y2.Network.Fibers.length c6)] (y2.Network.Fibers : List Fiber)⟩] [(true, MP.val [(.slice A9 e.Route.Fibers.length c9)] (e.Route.Fibers : List Int)), (true, MP.val [(.slice A8 y3.Fibers.length c8)] (y3.Fibers : List Int)), (true, MP.val [(.slice A6 y2.Network.Fibers.length c6)] (y2.Network.Fibers : List Fiber)), (true, MP.val [(.slice A5 y2.Network.Nodes.length c5)] (y2.Network.Nodes : List ByteArray)), (false, MP.val [(.slice A4 r'.Fibers.length c4)] (r'.Fibers : List Int)), (false, MP.val [(.slice A3 p.Lights.length c3)] (p.Lights : List Light)), (false, MP.val [(.slice A2 p.Network.Fibers.length c2)] (p.Network.Fibers : List Fiber)), (false, MP.val [(.slice A p.Network.Nodes.length c)] (p.Network.Nodes : List ByteArray))] w := by simp only [List.length_set]; exact H
  refine ⟨fun h => absurd h (by decide), ?_⟩
  refine dn (by kernel_rfl) ?_
  have hf := hf.prune [8, 12] rfl
  refine then_n (sq (reg (wl0 rfl (op_q hf (rq_loadBN hf H TF.la37 0 rfl rfl rfl rfl) rfl (by decide) fun a hf => ?_))))
  have H := H.freeze 0 rfl
  obtain ⟨y4, hy4, hF⟩ := bind_some hF
  refine wl0 rfl (op_call hf TF.cl214 rfl (by decide) (impl_planIf_ok (Plan_mkv (x := ({ Network := y2.Network, Lights := y2.Lights.set (y.1).toNat ({ Id := id, Route := y3, Block := b' } : Light) } : Plan)) (H.get 4 rfl) (H.get 3 rfl) (H.get 0 rfl)) hy4) fun v6 w a hp8 hf => ?_)
  obtain ⟨hb4, v7, v8, rfl, hp9, hp10⟩ := hp8
  obtain ⟨A10, c10, A11, c11, A12, c12, rfl, hl10, hl11, hl12⟩ := Plan_open hp9
  replace hl10 := H.res (f := MP.val [(.slice A10 y4.1.Network.Nodes.length c10)] y4.1.Network.Nodes) hl10
  replace hl11 := H.res (f := MP.val [(.slice A11 y4.1.Network.Fibers.length c11)] y4.1.Network.Fibers) hl11
  replace hl12 := H.res (f := MP.val [(.slice A12 y4.1.Lights.length c12)] y4.1.Lights) hl12
  obtain rfl := VR_bool hp10
  have H := H.keep hb4
  have H := H.push (true, MP.val [(.slice A10 y4.1.Network.Nodes.length c10)] y4.1.Network.Nodes) hl10
  have H := H.push (true, MP.val [(.slice A11 y4.1.Network.Fibers.length c11)] y4.1.Network.Fibers) hl11
  have H := H.push (true, MP.val [(.slice A12 y4.1.Lights.length c12)] y4.1.Lights) hl12
  refine pr 2 hf rfl rfl fun a hf => ?_
  refine wl0 rfl (op_storeB hf H 1 TF.sz37 rfl rfl rfl rfl rfl rfl (nle rfl) fun w H => ?_)
  refine pr 1 hf rfl rfl fun a hf => ?_
  refine wl_end (then_n (wp_ret (?_)))
  obtain rfl := Option.some.inj hF
  refine ret_2 (fn := Tryz.f177) (r := .cell 8 37) (s := .tmp 9) hf rfl (rv_cellN hf H 1 TF.la37 rfl rfl rfl) (rv_tmp hf rfl) ?_
  exact ⟨_, rfl, H.bel, _, _, rfl, (Plan_mkv (x := y4.1) (rep_end (α := List ByteArray) (H.get 2 rfl)) (rep_end (α := List Fiber) (H.get 1 rfl)) (rep_end (α := List Light) (H.get 0 rfl))), mk_bool⟩

/- loop.example/g00897/impl.ApplyAction -/
set_option maxHeartbeats 1000000 in
theorem impl_ApplyAction_ok {fu : Nat} {w0 : World} {S : Nat → Prop} {v0_ : Value} {v1_ : Value} {p : Plan} {a' : Action} {r : Plan × Bool} (h0 : VR w0 S v0_ p) (h1 : VR w0 S v1_ a') (hF : impl_ApplyAction fu p a' = some r) :
    Calls Tryz.prog 113 [v0_, v1_].toArray w0 fun e w' => ∃ v, e = .returned v ∧ (Below w0.heap.size w0 w' ∧ ∃ u0 u1, v = .tuple #[u0, u1] ∧ VR w' (St ⟨w0, []⟩ S [] [] [] true) u0 r.1 ∧ VR w' (St ⟨w0, []⟩ S [] [] [] true) u1 r.2) := by
 obtain ⟨A, c, A2, c2, A3, c3, rfl, hl, hl2, hl3⟩ := Plan_open h0
 obtain ⟨A4, c4, rfl, hl4⟩ := Action_open h1
 have H := Mem.start ⟨w0, []⟩ S
 have H := H.pushArg (MP.val [(.slice A p.Network.Nodes.length c)] p.Network.Nodes) hl
 have H := H.pushArg (MP.val [(.slice A2 p.Network.Fibers.length c2)] p.Network.Fibers) hl2
 have H := H.pushArg (MP.val [(.slice A3 p.Lights.length c3)] p.Lights) hl3
 have H := H.pushArg (MP.val [(.slice A4 a'.Light.Route.Fibers.length c4)] a'.Light.Route.Fibers) hl4
 refine enter Tryz.func113 rfl rfl (nle rfl) rfl fun a hf => ?_
 rw [impl_ApplyAction] at hF
 refine sq (reg (wl0 rfl (op_box hf H rfl rfl (by decide) fun b' a w hf H => ?_)))
 refine wl0 rfl (op_box hf H rfl rfl (by decide) fun b2 a w hf H => ?_)
 refine wl0 rfl (op_alloc hf H TF.zv37 rfl (by decide) fun b3 a w hf H => ?_)
 refine pr 1 hf rfl rfl fun a hf => ?_
 refine wl_end (then_n (sq (sq (reg (pr 1 hf rfl rfl fun a hf => ?_)))))
 refine wl0 rfl (op_q hf (rq_loadB hf H TF.ls3 1 rfl rfl rfl) rfl (by decide) fun a hf => ?_)
 refine wl_end (then_n (wp_block (sq (reg (pr 2 hf rfl rfl fun a hf => ?_)))))
 refine wl_end (then_n (iteB hF (fun hc hF => cd_t hf rfl hc ?_) fun hc hF => cd_f hf rfl hc ?_))
 ·refine sq (reg (wl0 rfl (op_q hf (rq_loadBN hf H TF.la37 2 rfl rfl rfl rfl) rfl (by decide) fun a hf => ?_)))
  refine pr 1 hf rfl rfl fun a hf => ?_
  refine wl0 rfl (op_q hf (rq_loadBN hf H TF.la112 1 rfl rfl rfl rfl) rfl (by decide) fun a hf => ?_)
  obtain ⟨y, hy, hF⟩ := bind_some hF
  refine wl0 rfl (op_call hf TF.cl175 rfl (by decide) (impl_AddLight_ok (S := fun _ => True) (Plan_mkv (x := p) (rep_true (α := List ByteArray) (H.get 3 rfl)) (rep_true (α := List Fiber) (H.get 2 rfl)) (rep_true (α := List Light) (H.get 1 rfl))) (Light_mkv (x := a'.Light) (rep_true (α := List Int) (H.get 0 rfl))) hy) fun v w a hp hf => ?_)
  obtain ⟨hb, v2, v3, rfl, hp2, hp3⟩ := hp
  obtain ⟨A5, c5, A6, c6, A7, c7, rfl, hl5, hl6, hl7⟩ := Plan_open hp2
  replace hl5 := H.resF (f := MP.val [(.slice A5 y.1.Network.Nodes.length c5)] y.1.Network.Nodes) hl5
  replace hl6 := H.resF (f := MP.val [(.slice A6 y.1.Network.Fibers.length c6)] y.1.Network.Fibers) hl6
  replace hl7 := H.resF (f := MP.val [(.slice A7 y.1.Lights.length c7)] y.1.Lights) hl7
  obtain rfl := VR_bool hp3
  have H := H.keep hb
  have H := H.push (true, MP.val [(.slice A5 y.1.Network.Nodes.length c5)] y.1.Network.Nodes) hl5
  have H := H.push (true, MP.val [(.slice A6 y.1.Network.Fibers.length c6)] y.1.Network.Fibers) hl6
  have H := H.push (true, MP.val [(.slice A7 y.1.Lights.length c7)] y.1.Lights) hl7
  refine pr 2 hf rfl rfl fun a hf => ?_
  refine wl0 rfl (op_storeB hf H 0 TF.sz37 rfl rfl rfl rfl rfl rfl (nle rfl) fun w H => ?_)
  refine pr 1 hf rfl rfl fun a hf => ?_
  have hf := hf.prune [4, 5] rfl
  refine wl_end (then_n (wp_ret (blk_r (then_r (?_)))))
  obtain rfl := Option.some.inj hF
  refine ret_2 (fn := Tryz.f113) (r := .cell 4 37) (s := .tmp 5) hf rfl (rv_cellN hf H 0 TF.la37 rfl rfl rfl) (rv_tmp hf rfl) ?_
  exact ⟨_, rfl, H.bel, _, _, rfl, (Plan_mkv (x := y.1) (rep_end (α := List ByteArray) (H.get 2 rfl)) (rep_end (α := List Fiber) (H.get 1 rfl)) (rep_end (α := List Light) (H.get 0 rfl))), mk_bool⟩
 ·refine sq (reg (pr 2 hf rfl rfl fun a hf => ?_))
  refine wl_end (then_n (iteB hF (fun hc2 hF => cd_t hf rfl hc2 ?_) fun hc2 hF => cd_f hf rfl hc2 ?_))
  ·refine sq (reg (wl0 rfl (op_q hf (rq_loadBN hf H TF.la37 2 rfl rfl rfl rfl) rfl (by decide) fun a hf => ?_)))
   refine pr 2 hf rfl rfl fun a hf => ?_
   refine wl0 rfl (op_q hf (rq_loadB hf H TF.ls3 1 rfl rfl rfl) rfl (by decide) fun a hf => ?_)
   obtain ⟨y2, hy2, hF⟩ := bind_some hF
   refine wl0 rfl (op_call hf TF.cl102 rfl (by decide) (impl_lightAt_ok (S := fun _ => True) (Plan_mkv (x := p) (rep_true (α := List ByteArray) (H.get 3 rfl)) (rep_true (α := List Fiber) (H.get 2 rfl)) (rep_true (α := List Light) (H.get 1 rfl))) mk_int hy2) fun v4 w a hp4 hf => ?_)
   obtain ⟨hb2, hp4⟩ := hp4
   obtain rfl := VR_int hp4
   have H := H.keep hb2
   refine pr 1 hf rfl rfl fun a hf => ?_
   have hf := hf.prune [2, 3, 4, 6] rfl
   refine wl_end (then_n (sq ?_))
   obtain ⟨c8, hGc8, hF⟩ := bind_some hF
   have fh := hf.prune [2, 3, 4] rfl
   have Hm := H.let [true, true, true] [] [] [0, 1, 2, 3] rfl rfl rfl rfl
   refine midF 35 (.bool c8) fh Hm ?_ fun a w hf H => ?_
   ·refine drawn [] (bs := [false, false, false, false, false, false, false, false, false, false, false, false]) (fuel := 12) (Checked.mixed Tryz.checked) rfl rfl fun w hb => ?_
    have H := H.keep hb
    refine tp 0 rfl rfl hf (by kernel_rfl) (fun _ => trivial) rfl fun a hf => ?_
    refine tp 1 rfl rfl hf (by kernel_rfl) (fun _ => trivial) rfl fun a hf => ?_
    refine tp 2 rfl rfl hf (by kernel_rfl) (fun _ => trivial) rfl fun a hf => ?_
    refine iteB hGc8 (fun hc3 hGc8 => ?_) fun hc3 hGc8 => ?_
    ·have hf := hf.lit 26 rfl hc3
     refine tpg 3 rfl rfl rfl rfl hf (by kernel_rfl) (fun _ => trivial) rfl fun a hf => ?_
     refine strT (H.let [false, false, true] [] [] [] rfl rfl rfl rfl) (fun w H => trivial) fun hS => ?_
     refine tSg 4 [] rfl rfl rfl rfl rfl rfl hf (by kernel_rfl) (by kernel_rfl) hS (fun w H => rq_loadB hf H TF.ls35 0 rfl rfl rfl) fun a hf => ?_
     refine tpg 5 rfl rfl rfl rfl hf (by kernel_rfl) (fun _ => hS) rfl fun a hf => ?_
     obtain ⟨e, he, hGc8⟩ := bind_some hGc8
     obtain ⟨p2, o, cs, hx, hr, H⟩ := pre_iaddr H Tryz.underlying35 TF.sz112 1 rfl he
     refine tPg 6 rfl rfl rfl rfl rfl rfl hf (by kernel_rfl) (fun _ => hS) (fun w => rq_iaddrE hf rfl rfl rfl hx w) fun a hf => ?_
     obtain ⟨A8, c9, rfl, hl8⟩ := Light_cells hr
     have H := H.push (false, MP.val [(.slice A8 e.Route.Fibers.length c9)] e.Route.Fibers) hl8
     refine strT (H.let [false, false, true] [] [] [1] rfl rfl rfl rfl) (fun w H => H.let [true] [] [] [] rfl rfl rfl rfl) fun hS => ?_
     refine tSg 7 [] rfl rfl rfl rfl rfl rfl hf (by kernel_rfl) (by kernel_rfl) hS (fun w H => rq_loadIN hf H TF.la112 0 0 rfl rfl rfl rfl) fun a hf => ?_
     refine tpg 8 rfl rfl rfl rfl hf (by kernel_rfl) (fun _ => hS) rfl fun a hf => ?_
     refine strT (H.let [false, true, true] [] [] [1] rfl rfl rfl rfl) (fun w H => H.let [false, true] [] [] [0] rfl rfl rfl rfl) fun hS => ?_
     refine tSg 9 [] rfl rfl rfl rfl rfl rfl hf (by kernel_rfl) (by kernel_rfl) hS (fun w H => rq_loadBN hf H TF.la112 0 rfl rfl rfl rfl) fun a hf => ?_
     obtain ⟨y3, hy3, hGc8⟩ := bind_some hGc8
     refine n1g 10 (by kernel_rfl) rfl rfl rfl rfl hf (op_call hf TF.cl103 rfl (by decide) (impl_equalLights_ok (S := fun _ => True) (Light_mkv (x := e) (rep_true (α := List Int) (H.get 0 rfl))) (Light_mkv (x := a'.Light) (rep_true (α := List Int) (H.get 2 rfl))) hy3) fun v5 w a hp5 hf => ?_)
     obtain ⟨hb3, hp5⟩ := hp5
     obtain rfl := VR_bool hp5
     have H := H.keep hb3
     have hS := H.let [false, true, true] [] [] [1] rfl rfl rfl rfl
     refine ⟨fun _ => hS, ?_⟩
     refine tp 11 rfl rfl hf (by kernel_rfl) (fun _ => hS) rfl fun a hf => ?_
     refine dn (by kernel_rfl) ?_
     obtain rfl := Option.some.inj hGc8
     have hf := hf.prune [35, 2, 3, 4] rfl
     have H := H.let [true, true, true] [] [] [2, 3, 4, 5] rfl rfl rfl rfl
     exact ⟨hf, H⟩
    ·have hf := hf.lit 26 rfl hc3
     refine tU 3 rfl rfl rfl rfl rfl rfl rfl hf (by kernel_rfl) (fun _ => trivial) fun a hf => ?_
     refine tU 4 rfl rfl rfl rfl rfl rfl rfl hf (by kernel_rfl) (fun _ => trivial) fun a hf => ?_
     refine tU 5 rfl rfl rfl rfl rfl rfl rfl hf (by kernel_rfl) (fun _ => trivial) fun a hf => ?_
     refine tU 6 rfl rfl rfl rfl rfl rfl rfl hf (by kernel_rfl) (fun _ => trivial) fun a hf => ?_
     refine tU 7 rfl rfl rfl rfl rfl rfl rfl hf (by kernel_rfl) (fun _ => trivial) fun a hf => ?_
     refine tU 8 rfl rfl rfl rfl rfl rfl rfl hf (by kernel_rfl) (fun _ => trivial) fun a hf => ?_
     refine tU 9 rfl rfl rfl rfl rfl rfl rfl hf (by kernel_rfl) (fun _ => trivial) fun a hf => ?_
     refine tU 10 rfl rfl rfl rfl rfl rfl rfl hf (by kernel_rfl) (fun _ => trivial) fun a hf => ?_
     refine tp 11 rfl rfl hf (by kernel_rfl) (fun _ => trivial) rfl fun a hf => ?_
     refine dn (by kernel_rfl) ?_
     obtain rfl := Option.some.inj hGc8
     have hf := hf.prune [35, 2, 3, 4] rfl
     have H := H.let [true, true, true] [] [] [0, 1, 2, 3] rfl rfl rfl rfl
     exact ⟨hf, H⟩
   refine then_n (iteB hF (fun hc4 hF => cd_t hf rfl hc4 ?_) fun hc4 hF => cd_f hf rfl hc4 ?_)
   ·refine sq (reg (wl0 rfl (op_q hf (rq_loadBN hf H TF.la37 2 rfl rfl rfl rfl) rfl (by decide) fun a hf => ?_)))
    refine pr 2 hf rfl rfl fun a hf => ?_
    refine wl0 rfl (op_q hf (rq_loadB hf H TF.ls3 1 rfl rfl rfl) rfl (by decide) fun a hf => ?_)
    obtain ⟨y4, hy4, hF⟩ := bind_some hF
    refine wl0 rfl (op_call hf TF.cl176 rfl (by decide) (impl_RemoveLight_ok (S := fun _ => True) (Plan_mkv (x := p) (rep_true (α := List ByteArray) (H.get 3 rfl)) (rep_true (α := List Fiber) (H.get 2 rfl)) (rep_true (α := List Light) (H.get 1 rfl))) mk_int hy4) fun v6 w a hp6 hf => ?_)
    obtain ⟨hb4, F, v7, v8, rfl, hp7, hp8, hN⟩ := hp6
    obtain ⟨A9, c10, F2, A10, c11, F3, A11, c12, F4, rfl, rfl, hl9, hl10, hl11⟩ := Plan_vo hp7
    obtain rfl := VR_bool hp8
    have H := H.addOwn hb4 (X := [(⟨F2, MP.own F2 [(.slice A9 y4.1.Network.Nodes.length c10)] (y4.1.Network.Nodes : List ByteArray)⟩ : DI), (⟨F3, MP.own F3 [(.slice A10 y4.1.Network.Fibers.length c11)] (y4.1.Network.Fibers : List Fiber)⟩ : DI), (⟨F4, MP.own F4 [(.slice A11 y4.1.Lights.length c12)] (y4.1.Lights : List Light)⟩ : DI)]) (by simpa using hN.1) (ps1 hl9 (ps1 hl10 (ps1 hl11 ps0))) (by simpa using hN.2)
    have H := H.lend 0 rfl
    have H := H.lend 1 rfl
    have H := H.lend 2 rfl
    refine pr 2 hf rfl rfl fun a hf => ?_
    refine wl0 rfl (op_storeB hf H 0 TF.sz37 rfl rfl rfl rfl rfl rfl (nle rfl) fun w H => ?_)
    refine pr 1 hf rfl rfl fun a hf => ?_
    refine wl_end (then_n (wp_ret (blk_r (then_r (?_)))))
    obtain rfl := Option.some.inj hF
    refine ret_2 (fn := Tryz.f113) (r := .cell 4 37) (s := .tmp 5) hf rfl (rv_cellN hf H 0 TF.la37 rfl rfl rfl) (rv_tmp hf rfl) ?_
    exact ⟨_, rfl, H.bel, _, _, rfl, (Plan_mkv (x := y4.1) (rep_end (α := List ByteArray) (H.get 2 rfl)) (rep_end (α := List Fiber) (H.get 1 rfl)) (rep_end (α := List Light) (H.get 0 rfl))), mk_bool⟩
   ·refine wp_skip (blk_n (then_n (sq (reg (wl0 rfl (op_q hf (rq_build hf (cs := [(.slice none 0 0), (.slice none 0 0), (.slice none 0 0)]) rfl (fun w => by kernel_rfl)) rfl (by decide) fun a hf => ?_))))))
    refine wl0 rfl (op_storeB hf H 0 TF.sz37 rfl rfl rfl rfl rfl rfl (nle rfl) fun w H => ?_)
    refine pr 1 hf rfl rfl fun a hf => ?_
    refine wl_end (then_n (wp_ret (?_)))
    have H := H.pushNil (ByteArray) true
    have H := H.pushNil (Fiber) true
    have H := H.pushNil (Light) true
    obtain rfl := Option.some.inj hF
    refine ret_2 (fn := Tryz.f113) (r := .cell 4 37) (s := .tmp 5) hf rfl (rv_cellN hf H 0 TF.la37 rfl rfl rfl) (rv_tmp hf rfl) ?_
    exact ⟨_, rfl, H.bel, _, _, rfl, (Plan_mkv (x := ({ Network := ({ Nodes := [], Fibers := [] } : Network), Lights := [] } : Plan)) (rep_end (α := List ByteArray) (H.get 2 rfl)) (rep_end (α := List Fiber) (H.get 1 rfl)) (rep_end (α := List Light) (H.get 0 rfl))), mk_bool⟩
  ·refine sq (reg (pr 2 hf rfl rfl fun a hf => ?_))
   refine wl_end (then_n (iteB hF (fun hc5 hF => cd_t hf rfl hc5 ?_) fun hc5 hF => cd_f hf rfl hc5 ?_))
   ·refine sq (reg (wl0 rfl (op_q hf (rq_loadBN hf H TF.la37 2 rfl rfl rfl rfl) rfl (by decide) fun a hf => ?_)))
    refine pr 2 hf rfl rfl fun a hf => ?_
    refine wl0 rfl (op_q hf (rq_loadB hf H TF.ls3 1 rfl rfl rfl) rfl (by decide) fun a hf => ?_)
    refine pr 2 hf rfl rfl fun a hf => ?_
    refine wl0 rfl (op_q hf (rq_loadBN hf H TF.la108 1 rfl rfl rfl rfl) rfl (by decide) fun a hf => ?_)
    refine pr 2 hf rfl rfl fun a hf => ?_
    refine wl0 rfl (op_q hf (rq_loadBN hf H TF.la110 1 rfl rfl rfl rfl) rfl (by decide) fun a hf => ?_)
    obtain ⟨y5, hy5, hF⟩ := bind_some hF
    refine wl0 rfl (op_call hf TF.cl177 rfl (by decide) (impl_MoveLight_ok (S := fun _ => True) (Plan_mkv (x := p) (rep_true (α := List ByteArray) (H.get 3 rfl)) (rep_true (α := List Fiber) (H.get 2 rfl)) (rep_true (α := List Light) (H.get 1 rfl))) mk_int (Route_mkv (x := a'.Light.Route) (rep_true (α := List Int) (H.get 0 rfl))) Block_mkv hy5) fun v9 w a hp9 hf => ?_)
    obtain ⟨hb5, v10, v11, rfl, hp10, hp11⟩ := hp9
    obtain ⟨A12, c13, A13, c14, A14, c15, rfl, hl12, hl13, hl14⟩ := Plan_open hp10
    replace hl12 := H.resF (f := MP.val [(.slice A12 y5.1.Network.Nodes.length c13)] y5.1.Network.Nodes) hl12
    replace hl13 := H.resF (f := MP.val [(.slice A13 y5.1.Network.Fibers.length c14)] y5.1.Network.Fibers) hl13
    replace hl14 := H.resF (f := MP.val [(.slice A14 y5.1.Lights.length c15)] y5.1.Lights) hl14
    obtain rfl := VR_bool hp11
    have H := H.keep hb5
    have H := H.push (true, MP.val [(.slice A12 y5.1.Network.Nodes.length c13)] y5.1.Network.Nodes) hl12
    have H := H.push (true, MP.val [(.slice A13 y5.1.Network.Fibers.length c14)] y5.1.Network.Fibers) hl13
    have H := H.push (true, MP.val [(.slice A14 y5.1.Lights.length c15)] y5.1.Lights) hl14
    refine pr 2 hf rfl rfl fun a hf => ?_
    refine wl0 rfl (op_storeB hf H 0 TF.sz37 rfl rfl rfl rfl rfl rfl (nle rfl) fun w H => ?_)
    refine pr 1 hf rfl rfl fun a hf => ?_
    have hf := hf.prune [4, 5] rfl
    refine wl_end (then_n (wp_ret (blk_r (then_r (?_)))))
    obtain rfl := Option.some.inj hF
    refine ret_2 (fn := Tryz.f113) (r := .cell 4 37) (s := .tmp 5) hf rfl (rv_cellN hf H 0 TF.la37 rfl rfl rfl) (rv_tmp hf rfl) ?_
    exact ⟨_, rfl, H.bel, _, _, rfl, (Plan_mkv (x := y5.1) (rep_end (α := List ByteArray) (H.get 2 rfl)) (rep_end (α := List Fiber) (H.get 1 rfl)) (rep_end (α := List Light) (H.get 0 rfl))), mk_bool⟩
   ·refine wp_skip (blk_n (then_n (sq (reg (wl0 rfl (op_q hf (rq_build hf (cs := [(.slice none 0 0), (.slice none 0 0), (.slice none 0 0)]) rfl (fun w => by kernel_rfl)) rfl (by decide) fun a hf => ?_))))))
    refine wl0 rfl (op_storeB hf H 0 TF.sz37 rfl rfl rfl rfl rfl rfl (nle rfl) fun w H => ?_)
    refine pr 1 hf rfl rfl fun a hf => ?_
    have hf := hf.prune [4, 5] rfl
    refine wl_end (then_n (wp_ret (?_)))
    have H := H.pushNil (ByteArray) true
    have H := H.pushNil (Fiber) true
    have H := H.pushNil (Light) true
    obtain rfl := Option.some.inj hF
    refine ret_2 (fn := Tryz.f113) (r := .cell 4 37) (s := .tmp 5) hf rfl (rv_cellN hf H 0 TF.la37 rfl rfl rfl) (rv_tmp hf rfl) ?_
    exact ⟨_, rfl, H.bel, _, _, rfl, (Plan_mkv (x := ({ Network := ({ Nodes := [], Fibers := [] } : Network), Lights := [] } : Plan)) (rep_end (α := List ByteArray) (H.get 2 rfl)) (rep_end (α := List Fiber) (H.get 1 rfl)) (rep_end (α := List Light) (H.get 0 rfl))), mk_bool⟩

/- loop.example/g00897/impl.IsHitless -/
set_option maxHeartbeats 1000000 in
theorem impl_IsHitless_ok {fu : Nat} {w0 : World} {S : Nat → Prop} {v0_ : Value} {v1_ : Value} {p : Plan} {list : List Action} {r : Bool × Bool} (h0 : VR w0 S v0_ p) (h1 : VR w0 S v1_ list) (hF : impl_IsHitless fu p list = some r) :
    Calls Tryz.prog 55 [v0_, v1_].toArray w0 fun e w' => ∃ v, e = .returned v ∧ (Below w0.heap.size w0 w' ∧ ∃ u0 u1, v = .tuple #[u0, u1] ∧ VR w' (St ⟨w0, []⟩ S [] [] [] true) u0 r.1 ∧ VR w' (St ⟨w0, []⟩ S [] [] [] true) u1 r.2) := by
 obtain ⟨A, c, A2, c2, A3, c3, rfl, hl, hl2, hl3⟩ := Plan_open h0
 obtain ⟨A4, c4, rfl, hl4⟩ := VR_list h1
 have H := Mem.start ⟨w0, []⟩ S
 have H := H.pushArg (MP.val [(.slice A p.Network.Nodes.length c)] p.Network.Nodes) hl
 have H := H.pushArg (MP.val [(.slice A2 p.Network.Fibers.length c2)] p.Network.Fibers) hl2
 have H := H.pushArg (MP.val [(.slice A3 p.Lights.length c3)] p.Lights) hl3
 have H := H.pushArg (MP.val [(.slice A4 list.length c4)] list) hl4
 refine enter Tryz.func55 rfl rfl (nle rfl) rfl fun a hf => ?_
 rw [impl_IsHitless] at hF
 refine sq (reg (wl0 rfl (op_box hf H rfl rfl (by decide) fun b' a w hf H => ?_)))
 refine pr 2 hf rfl rfl fun a hf => ?_
 refine wl_end (then_n (sq (sq ?_)))
 obtain ⟨c5, hGc5, hF⟩ := bind_some hF
 have fh := hf.prune [1, 2] rfl
 have Hm := H.let [true] [] [] [0, 1, 2, 3] rfl rfl rfl rfl
 refine midF 18 (.bool c5) fh Hm ?_ fun a w hf H => ?_
 ·refine reg (wl0 rfl (op_q hf (rq_loadBN hf H TF.la37 0 rfl rfl rfl rfl) rfl (by decide) fun a hf => ?_))
  obtain ⟨y, hy, hGc5⟩ := bind_some hGc5
  refine wl0 rfl (op_call hf TF.cl72 rfl (by decide) (impl_IsValidPlan_ok (S := fun _ => True) (Plan_mkv (x := p) (rep_true (α := List ByteArray) (H.get 3 rfl)) (rep_true (α := List Fiber) (H.get 2 rfl)) (rep_true (α := List Light) (H.get 1 rfl))) hy) fun v w a hp hf => ?_)
  obtain ⟨hb, hp⟩ := hp
  obtain rfl := VR_bool hp
  have H := H.keep hb
  refine pr 2 hf rfl rfl fun a hf => ?_
  refine iteB hGc5 (fun hc hGc5 => ?_) fun hc hGc5 => ?_
  ·have hf := hf.lit 14 rfl hc
   refine pr 4 hf rfl rfl fun a hf => ?_
   obtain rfl := Option.some.inj hGc5
   have hf := hf.prune [18, 1, 2] rfl
   have H := H.let [true] [] [] [0, 1, 2, 3] rfl rfl rfl rfl
   exact wl_end ⟨hf, H⟩
  ·have hf := hf.lit 14 rfl hc
   refine pr 4 hf rfl rfl fun a hf => ?_
   obtain rfl := Option.some.inj hGc5
   have hf := hf.prune [18, 1, 2] rfl
   have H := H.let [true] [] [] [0, 1, 2, 3] rfl rfl rfl rfl
   exact wl_end ⟨hf, H⟩
 refine then_n (iteB hF (fun hc2 hF => cd_t hf rfl hc2 ?_) fun hc2 hF => cd_f hf rfl hc2 ?_)
 ·refine sq (reg (pr 2 hf rfl rfl fun a hf => ?_))
  refine wl_end (then_n (wp_ret (then_r (?_))))
  obtain rfl := Option.some.inj hF
  refine ret_2 (fn := Tryz.f55) (r := .tmp 4) (s := .tmp 5) hf rfl (rv_tmp hf rfl) (rv_tmp hf rfl) ?_
  exact ⟨_, rfl, H.bel, _, _, rfl, mk_bool, mk_bool⟩
 ·refine wp_skip (then_n (sq (reg (wl0 rfl (op_q hf (rq_loadBN hf H TF.la37 0 rfl rfl rfl rfl) rfl (by decide) fun a hf => ?_)))))
  refine wl0 rfl (op_alloc hf H TF.zv37 rfl (by decide) fun b2 a w hf H => ?_)
  refine wl0 rfl (op_storeB hf H 0 TF.sz37 rfl rfl rfl rfl rfl rfl (nle rfl) fun w H => ?_)
  refine wl_end (then_n (sq (sq (reg (pr 3 hf rfl rfl fun a hf => ?_)))))
  refine wl_end (then_n ?_)
  obtain ⟨out', hB1, hF⟩ := bind_some hF
  have hf := hf.prune [6, 20, 21, 22] rfl
  have H := H.let [true, false] [] [] [1, 2, 3, 0] rfl rfl rfl rfl
  refine loopC (fun (s : Int × List ByteArray × List Fiber × List Light) (a : Act) (w : World) => match s with | (i, m, m2, m3) => ∃ (A5 : Option Addr) (c6 : Nat) (A6 : Option Addr) (c7 : Nat) (A7 : Option Addr) (c8 : Nat), Fr a 55 [(6, (.pointer (some ⟨b2, 0, none⟩))), (20, (.slice A4 list.length c4)), (21, (.int .i64 (list.length : Int))), (22, (.int .i64 i))] ∧ Mem ⟨w0, []⟩ S [⟨b2, 37, [(.slice A5 m.length c6), (.slice A6 m2.length c7), (.slice A7 m3.length c8)]⟩] [] [] [(false, MP.val [(.slice A7 m3.length c8)] (m3 : List Light)), (false, MP.val [(.slice A6 m2.length c7)] (m2 : List Fiber)), (false, MP.val [(.slice A5 m.length c6)] (m : List ByteArray)), (false, MP.val [(.slice A4 list.length c4)] (list : List Action))] w) (fun k (s : Int × List ByteArray × List Fiber × List Light) => impl_IsHitless_L1 fu list k s.1 s.2.1 s.2.2.1 s.2.2.2 = some out') (fun s => out' = Out.next s) (0, p.Network.Nodes, p.Network.Fibers, p.Lights) fu hB1 ⟨A, c, A2, c2, A3, c3, hf, H⟩ (fun s h => by cases h) ?_ ?_
  ·rintro fk ⟨i, m, m2, m3⟩ a w hR1 hI
   replace hR1 : impl_IsHitless_L1 fu list (fk + 1) i m m2 m3 = some out' := hR1
   rw [impl_IsHitless_L1] at hR1
   obtain ⟨A5, c6, A6, c7, A7, c8, hf, H⟩ := hI
   refine sq (reg (pr 1 hf rfl rfl fun a hf => ?_))
   refine wl_end (then_n (sq (iteB hR1 (fun hc3 hR1 => cd_t hf rfl hc3 ?_) fun hc3 hR1 => cd_f hf rfl hc3 ?_)))
   ·refine wp_skip (then_n (sq (wp_block (sq (reg ?_)))))
    obtain ⟨e, he, hR1⟩ := bind_some hR1
    refine wl0 rfl (op_iaddr hf H Tryz.underlying65 TF.sz136 3 rfl rfl rfl he (by decide) fun p2 o cs a hf hr H => ?_)
    obtain ⟨A8, c9, rfl, hl5⟩ := Action_cells hr
    have H := H.push (false, MP.val [(.slice A8 e.Light.Route.Fibers.length c9)] e.Light.Route.Fibers) hl5
    refine wl0 rfl (op_q hf (rq_loadIN hf H TF.la136 1 0 rfl rfl rfl rfl) rfl (by decide) fun a hf => ?_)
    refine wl0 rfl (op_alloc hf H TF.zv136 rfl (by decide) fun b3 a w hf H => ?_)
    refine wl0 rfl (op_storeB hf H 0 TF.sz136 rfl rfl rfl rfl rfl rfl (nle rfl) fun w H => ?_)
    refine wl_end (then_n (sq (reg (wl0 rfl (op_q hf (rq_loadBN hf H TF.la37 1 rfl rfl rfl rfl) rfl (by decide) fun a hf => ?_)))))
    refine wl0 rfl (op_q hf (rq_loadBN hf H TF.la136 0 rfl rfl rfl rfl) rfl (by decide) fun a hf => ?_)
    obtain ⟨y2, hy2, hR1⟩ := bind_some hR1
    refine wl0 rfl (op_call hf TF.cl113 rfl (by decide) (impl_ApplyAction_ok (S := fun _ => True) (Plan_mkv (x := ({ Network := ({ Nodes := m, Fibers := m2 } : Network), Lights := m3 } : Plan)) (rep_true (α := List ByteArray) (H.get 4 rfl)) (rep_true (α := List Fiber) (H.get 3 rfl)) (rep_true (α := List Light) (H.get 2 rfl))) (Action_mkv (x := e) (rep_true (α := List Int) (H.get 0 rfl))) hy2) fun v2 w a hp2 hf => ?_)
    obtain ⟨hb2, v3, v4, rfl, hp3, hp4⟩ := hp2
    obtain ⟨A9, c10, A10, c11, A11, c12, rfl, hl6, hl7, hl8⟩ := Plan_open hp3
    replace hl6 := H.resF (f := MP.val [(.slice A9 y2.1.Network.Nodes.length c10)] y2.1.Network.Nodes) hl6
    replace hl7 := H.resF (f := MP.val [(.slice A10 y2.1.Network.Fibers.length c11)] y2.1.Network.Fibers) hl7
    replace hl8 := H.resF (f := MP.val [(.slice A11 y2.1.Lights.length c12)] y2.1.Lights) hl8
    obtain rfl := VR_bool hp4
    have H := H.keep hb2
    have H := H.push (true, MP.val [(.slice A9 y2.1.Network.Nodes.length c10)] y2.1.Network.Nodes) hl6
    have H := H.push (true, MP.val [(.slice A10 y2.1.Network.Fibers.length c11)] y2.1.Network.Fibers) hl7
    have H := H.push (true, MP.val [(.slice A11 y2.1.Lights.length c12)] y2.1.Lights) hl8
    refine pr 3 hf rfl rfl fun a hf => ?_
    refine wl0 rfl (op_alloc hf H TF.zv37 rfl (by decide) fun b4 a w hf H => ?_)
    refine wl0 rfl (op_storeB hf H 0 TF.sz37 rfl rfl rfl rfl rfl rfl (nle rfl) fun w H => ?_)
    refine pr 1 hf rfl rfl fun a hf => ?_
    refine wl_end (then_n (sq (sq ?_)))
    obtain ⟨c13, hGc13, hR1⟩ := bind_some hR1
    have fh2 := hf.prune [6, 9, 20, 21, 22] rfl
    have Hm2 := H.let [true, false, true] [] [] [0, 1, 2, 5, 6, 7, 8] rfl rfl rfl rfl
    refine midF 52 (.bool c13) fh2 Hm2 ?_ fun a w hf H => ?_
    ·refine drawn [] (bs := [false, false, false, false, false, false, false, false, false, false, false, false, false, false, false, false, false, false, false, false, false]) (fuel := 21) (Checked.mixed Tryz.checked) rfl rfl fun w hb => ?_
     have H := H.keep hb
     refine tp 0 rfl rfl hf (by kernel_rfl) (fun _ => trivial) rfl fun a hf => ?_
     refine tp 1 rfl rfl hf (by kernel_rfl) (fun _ => trivial) rfl fun a hf => ?_
     refine tp 2 rfl rfl hf (by kernel_rfl) (fun _ => trivial) rfl fun a hf => ?_
     refine iteB hGc13 (fun hc4 hGc13 => ?_) fun hc4 hGc13 => ?_
     ·have hf := hf.lit 34 rfl hc4
      refine tU 3 rfl rfl rfl rfl rfl rfl rfl hf (by kernel_rfl) (fun _ => trivial) fun a hf => ?_
      refine tU 4 rfl rfl rfl rfl rfl rfl rfl hf (by kernel_rfl) (fun _ => trivial) fun a hf => ?_
      refine tU 5 rfl rfl rfl rfl rfl rfl rfl hf (by kernel_rfl) (fun _ => trivial) fun a hf => ?_
      refine tU 6 rfl rfl rfl rfl rfl rfl rfl hf (by kernel_rfl) (fun _ => trivial) fun a hf => ?_
      refine tUU 7 rfl rfl rfl rfl rfl rfl hf (by kernel_rfl) (fun _ => trivial) fun a hf => ?_
      refine tUU 8 rfl rfl rfl rfl rfl rfl hf (by kernel_rfl) (fun _ => trivial) fun a hf => ?_
      refine tUU 9 rfl rfl rfl rfl rfl rfl hf (by kernel_rfl) (fun _ => trivial) fun a hf => ?_
      refine tUU 10 rfl rfl rfl rfl rfl rfl hf (by kernel_rfl) (fun _ => trivial) fun a hf => ?_
      refine tUU 11 rfl rfl rfl rfl rfl rfl hf (by kernel_rfl) (fun _ => trivial) fun a hf => ?_
      refine tUU 12 rfl rfl rfl rfl rfl rfl hf (by kernel_rfl) (fun _ => trivial) fun a hf => ?_
      refine tUU 13 rfl rfl rfl rfl rfl rfl hf (by kernel_rfl) (fun _ => trivial) fun a hf => ?_
      refine tUU 14 rfl rfl rfl rfl rfl rfl hf (by kernel_rfl) (fun _ => trivial) fun a hf => ?_
      refine tUU 15 rfl rfl rfl rfl rfl rfl hf (by kernel_rfl) (fun _ => trivial) fun a hf => ?_
      refine tUU 16 rfl rfl rfl rfl rfl rfl hf (by kernel_rfl) (fun _ => trivial) fun a hf => ?_
      refine tUU 17 rfl rfl rfl rfl rfl rfl hf (by kernel_rfl) (fun _ => trivial) fun a hf => ?_
      refine tUU 18 rfl rfl rfl rfl rfl rfl hf (by kernel_rfl) (fun _ => trivial) fun a hf => ?_
      refine tU 19 rfl rfl rfl rfl rfl rfl rfl hf (by kernel_rfl) (fun _ => trivial) fun a hf => ?_
      refine tp 20 rfl rfl hf (by kernel_rfl) (fun _ => trivial) rfl fun a hf => ?_
      refine dn (by kernel_rfl) ?_
      obtain rfl := Option.some.inj hGc13
      have hf := hf.prune [52, 6, 9, 20, 21, 22] rfl
      have H := H.let [true, false, true] [] [] [0, 1, 2, 5, 6, 7, 8] rfl rfl rfl rfl
      exact ⟨hf, H⟩
     ·have hf := hf.lit 34 rfl hc4
      refine tpg 3 rfl rfl rfl rfl hf (by kernel_rfl) (fun _ => trivial) rfl fun a hf => ?_
      refine strT (H.let [false, true, false] [] [] [] rfl rfl rfl rfl) (fun w H => trivial) fun hS => ?_
      refine tSg 4 [] rfl rfl rfl rfl rfl rfl hf (by kernel_rfl) (by kernel_rfl) hS (fun w H => rq_loadB hf H TF.ls3 0 rfl rfl rfl) fun a hf => ?_
      refine tpg 5 rfl rfl rfl rfl hf (by kernel_rfl) (fun _ => hS) rfl fun a hf => ?_
      refine tpg 6 rfl rfl rfl rfl hf (by kernel_rfl) (fun _ => hS) rfl fun a hf => ?_
      refine iteB hGc13 (fun hc5 hGc13 => ?_) fun hc5 hGc13 => ?_
      ·have hf := hf.lit 38 rfl hc5
       refine tpg 7 rfl rfl rfl rfl hf (by kernel_rfl) (fun _ => hS) rfl fun a hf => ?_
       refine strT (H.let [false, true, true] [] [] [] rfl rfl rfl rfl) (fun w H => H.let [true, false] [] [] [] rfl rfl rfl rfl) fun hS => ?_
       refine tSg 8 [] rfl rfl rfl rfl rfl rfl hf (by kernel_rfl) (by kernel_rfl) hS (fun w H => rq_loadB hf H TF.ls35 1 rfl rfl rfl) fun a hf => ?_
       refine tSg 9 [] rfl rfl rfl rfl rfl rfl hf (by kernel_rfl) (by kernel_rfl) hS (fun w H => rq_loadBN hf H TF.la37 1 rfl rfl rfl rfl) fun a hf => ?_
       refine tpg 10 rfl rfl rfl rfl hf (by kernel_rfl) (fun _ => hS) rfl fun a hf => ?_
       refine tpg 11 rfl rfl rfl rfl hf (by kernel_rfl) (fun _ => hS) rfl fun a hf => ?_
       refine tSg 12 [] rfl rfl rfl rfl rfl rfl hf (by kernel_rfl) (by kernel_rfl) hS (fun w H => rq_loadB hf H TF.ls3 0 rfl rfl rfl) fun a hf => ?_
       refine tpg 16 rfl rfl rfl rfl hf (by kernel_rfl) (fun _ => hS) rfl fun a hf => ?_
       refine tSg 17 [] rfl rfl rfl rfl rfl rfl hf (by kernel_rfl) (by kernel_rfl) hS (fun w H => rq_loadBN hf H TF.la112 0 rfl rfl rfl rfl) fun a hf => ?_
       obtain ⟨y3, hy3, hGc13⟩ := bind_some hGc13
       refine n1g 13 (by kernel_rfl) rfl rfl rfl rfl hf (op_call hf TF.cl102 rfl (by decide) (impl_lightAt_ok (S := fun _ => True) (Plan_mkv (x := ({ Network := ({ Nodes := m, Fibers := m2 } : Network), Lights := m3 } : Plan)) (rep_true (α := List ByteArray) (H.get 7 rfl)) (rep_true (α := List Fiber) (H.get 6 rfl)) (rep_true (α := List Light) (H.get 5 rfl))) mk_int hy3) fun v5 w a hp5 hf => ?_)
       obtain ⟨hb3, hp5⟩ := hp5
       obtain rfl := VR_int hp5
       have H := H.keep hb3
       have hS := H.let [false, true, true] [] [] [] rfl rfl rfl rfl
       refine ⟨fun _ => hS, ?_⟩
       obtain ⟨e2, he2, hGc13⟩ := bind_some hGc13
       obtain ⟨p3, o2, cs2, hx, hr2, H⟩ := pre_iaddr H Tryz.underlying35 TF.sz112 5 rfl he2
       refine tPg 14 rfl rfl rfl rfl rfl rfl hf (by kernel_rfl) (fun _ => hS) (fun w => rq_iaddrE hf rfl rfl rfl hx w) fun a hf => ?_
       obtain ⟨A12, c14, rfl, hl9⟩ := Light_cells hr2
       have H := H.push (false, MP.val [(.slice A12 e2.Route.Fibers.length c14)] e2.Route.Fibers) hl9
       refine strT (H.let [false, true, true] [] [] [1] rfl rfl rfl rfl) (fun w H => H.let [true, true] [] [] [] rfl rfl rfl rfl) fun hS => ?_
       refine tSg 15 [] rfl rfl rfl rfl rfl rfl hf (by kernel_rfl) (by kernel_rfl) hS (fun w H => rq_loadIN hf H TF.la112 0 0 rfl rfl rfl rfl) fun a hf => ?_
       obtain ⟨y4, hy4, hGc13⟩ := bind_some hGc13
       refine n1g 18 (by kernel_rfl) rfl rfl rfl rfl hf (op_call hf TF.cl114 rfl (by decide) (impl_collide_ok (S := fun _ => True) (Light_mkv (x := e2) (rep_true (α := List Int) (H.get 0 rfl))) (Light_mkv (x := e.Light) (rep_true (α := List Int) (H.get 5 rfl))) hy4) fun v6 w a hp6 hf => ?_)
       obtain ⟨hb4, hp6⟩ := hp6
       obtain rfl := VR_bool hp6
       have H := H.keep hb4
       have hS := H.let [false, true, true] [] [] [1] rfl rfl rfl rfl
       refine ⟨fun _ => hS, ?_⟩
       refine tpg 19 rfl rfl rfl rfl hf (by kernel_rfl) (fun _ => hS) rfl fun a hf => ?_
       refine tp 20 rfl rfl hf (by kernel_rfl) (fun _ => hS) rfl fun a hf => ?_
       refine dn (by kernel_rfl) ?_
       obtain rfl := Option.some.inj hGc13
       have hf := hf.prune [52, 6, 9, 20, 21, 22] rfl
       have H := H.let [true, false, true] [] [] [2, 3, 4, 7, 8, 9, 10] rfl rfl rfl rfl
       exact ⟨hf, H⟩
      ·have hf := hf.lit 38 rfl hc5
       refine tU 7 rfl rfl rfl rfl rfl rfl rfl hf (by kernel_rfl) (fun _ => hS) fun a hf => ?_
       refine tU 8 rfl rfl rfl rfl rfl rfl rfl hf (by kernel_rfl) (fun _ => hS) fun a hf => ?_
       refine tU 9 rfl rfl rfl rfl rfl rfl rfl hf (by kernel_rfl) (fun _ => hS) fun a hf => ?_
       refine tU 10 rfl rfl rfl rfl rfl rfl rfl hf (by kernel_rfl) (fun _ => hS) fun a hf => ?_
       refine tU 11 rfl rfl rfl rfl rfl rfl rfl hf (by kernel_rfl) (fun _ => hS) fun a hf => ?_
       refine tU 12 rfl rfl rfl rfl rfl rfl rfl hf (by kernel_rfl) (fun _ => hS) fun a hf => ?_
       refine tU 13 rfl rfl rfl rfl rfl rfl rfl hf (by kernel_rfl) (fun _ => hS) fun a hf => ?_
       refine tU 14 rfl rfl rfl rfl rfl rfl rfl hf (by kernel_rfl) (fun _ => hS) fun a hf => ?_
       refine tU 15 rfl rfl rfl rfl rfl rfl rfl hf (by kernel_rfl) (fun _ => hS) fun a hf => ?_
       refine tU 16 rfl rfl rfl rfl rfl rfl rfl hf (by kernel_rfl) (fun _ => hS) fun a hf => ?_
       refine tU 17 rfl rfl rfl rfl rfl rfl rfl hf (by kernel_rfl) (fun _ => hS) fun a hf => ?_
       refine tU 18 rfl rfl rfl rfl rfl rfl rfl hf (by kernel_rfl) (fun _ => hS) fun a hf => ?_
       refine tpg 19 rfl rfl rfl rfl hf (by kernel_rfl) (fun _ => hS) rfl fun a hf => ?_
       refine tp 20 rfl rfl hf (by kernel_rfl) (fun _ => hS) rfl fun a hf => ?_
       refine dn (by kernel_rfl) ?_
       obtain rfl := Option.some.inj hGc13
       have hf := hf.prune [52, 6, 9, 20, 21, 22] rfl
       have H := H.let [true, false, true] [] [] [0, 1, 2, 5, 6, 7, 8] rfl rfl rfl rfl
       exact ⟨hf, H⟩
    refine then_n (iteB hR1 (fun hc6 hR1 => cd_t hf rfl hc6 ?_) fun hc6 hR1 => cd_f hf rfl hc6 ?_)
    ·refine sq (reg (pr 2 hf rfl rfl fun a hf => ?_))
     refine wl_end (then_n (wp_ret (then_r (blk_r (then_r (then_r (blk_r (then_r (then_r (?_))))))))))
     obtain rfl := Option.some.inj hR1
     replace hF := on_ret hF
     obtain rfl := Option.some.inj hF
     refine ret_2 (fn := Tryz.f55) (r := .tmp 4) (s := .tmp 5) hf rfl (rv_tmp hf rfl) (rv_tmp hf rfl) ?_
     exact ⟨_, rfl, H.bel, _, _, rfl, mk_bool, mk_bool⟩
    ·refine wp_skip (then_n (reg (wl0 rfl (op_q hf (rq_loadBN hf H TF.la37 0 rfl rfl rfl rfl) rfl (by decide) fun a hf => ?_))))
     refine wl0 rfl (op_storeB hf H 1 TF.sz37 rfl rfl rfl rfl rfl rfl (nle rfl) fun w H => ?_)
     refine wl_end (blk_n (then_n (reg (pr 2 hf rfl rfl fun a hf => ?_))))
     refine wl_end ?_
     have H := H.copyI 2 rfl (.inl rfl)
     have H := H.copyI 2 rfl (.inl rfl)
     have H := H.copyI 2 rfl (.inl rfl)
     have hf := hf.prune [6, 20, 21, 22] rfl
     have H := H.let [false, true] [] [] [0, 1, 2, 9] rfl rfl rfl rfl
     exact then_n ⟨(w64 (i + 1), y2.1.Network.Nodes, y2.1.Network.Fibers, y2.1.Lights), hR1, A9, c10, A10, c11, A11, c12, hf, H⟩
   ·refine wp_exit (then_x (then_x (blk_e (?_))))
    have hf := hf.prune [6, 20, 21, 22] rfl
    have H := H.let [true] [] [] [0, 1, 2, 3] rfl rfl rfl rfl
    exact ⟨(i, m, m2, m3), (Option.some.inj hR1).symm, A5, c6, A6, c7, A7, c8, hf, H⟩
  rintro a w ⟨⟨i2, m4, m5, m6⟩, rfl, A13, c15, A14, c16, A15, c17, hf, H⟩
  replace hF := on_next hF
  try dsimp only at hF
  refine then_n (sq (reg (pr 2 hf rfl rfl fun a hf => ?_)))
  refine wl_end (then_n (wp_ret (?_)))
  obtain rfl := Option.some.inj hF
  refine ret_2 (fn := Tryz.f55) (r := .tmp 4) (s := .tmp 5) hf rfl (rv_tmp hf rfl) (rv_tmp hf rfl) ?_
  exact ⟨_, rfl, H.bel, _, _, rfl, mk_bool, mk_bool⟩

/- loop.example/g00897/laws.FnExactIsHitless -/
set_option maxHeartbeats 1000000 in
theorem laws_FnExactIsHitless_ok {fu : Nat} {w0 : World} {S : Nat → Prop} {v0_ : Value} {v1_ : Value} {aP : Plan} {aList : List Action} {r : Bool} (h0 : VR w0 S v0_ aP) (h1 : VR w0 S v1_ aList) (hF : laws_FnExactIsHitless fu aP aList = some r) :
    Calls Tryz.prog 13 [v0_, v1_].toArray w0 fun e w' => ∃ v, e = .returned v ∧ (Below w0.heap.size w0 w' ∧ VR w' (St ⟨w0, []⟩ S [] [] [] true) v r) := by
 obtain ⟨A, c, A2, c2, A3, c3, rfl, hl, hl2, hl3⟩ := Plan_open h0
 obtain ⟨A4, c4, rfl, hl4⟩ := VR_list h1
 have H := Mem.start ⟨w0, []⟩ S
 have H := H.pushArg (MP.val [(.slice A aP.Network.Nodes.length c)] aP.Network.Nodes) hl
 have H := H.pushArg (MP.val [(.slice A2 aP.Network.Fibers.length c2)] aP.Network.Fibers) hl2
 have H := H.pushArg (MP.val [(.slice A3 aP.Lights.length c3)] aP.Lights) hl3
 have H := H.pushArg (MP.val [(.slice A4 aList.length c4)] aList) hl4
 refine enter Tryz.func13 rfl rfl (nle rfl) rfl fun a hf => ?_
 rw [laws_FnExactIsHitless] at hF
 refine sq (reg (wl0 rfl (op_box hf H rfl rfl (by decide) fun b' a w hf H => ?_)))
 refine pr 1 hf rfl rfl fun a hf => ?_
 refine wl_end (then_n (sq (reg (pr 1 hf rfl rfl fun a hf => ?_))))
 refine wl_end (then_n (sq (reg (wl0 rfl (op_q hf (rq_loadBN hf H TF.la28 0 rfl rfl rfl rfl) rfl (by decide) fun a hf => ?_)))))
 refine pr 1 hf rfl rfl fun a hf => ?_
 obtain ⟨y, hy, hF⟩ := bind_some hF
 refine wl0 rfl (op_call hf TF.cl15 rfl (by decide) (laws_szPlan_ok (S := fun _ => True) (Plan_mkv (x := aP) (rep_true (α := List ByteArray) (H.get 3 rfl)) (rep_true (α := List Fiber) (H.get 2 rfl)) (rep_true (α := List Light) (H.get 1 rfl))) mk_int hy) fun v w a hp hf => ?_)
 obtain ⟨hb, hp⟩ := hp
 obtain rfl := VR_int hp
 have H := H.keep hb
 refine pr 1 hf rfl rfl fun a hf => ?_
 refine wl_end (then_n (sq (sq (reg (pr 2 hf rfl rfl fun a hf => ?_)))))
 refine wl_end (then_n (iteB hF (fun hc hF => cd_t hf rfl hc ?_) fun hc hF => cd_f hf rfl hc ?_))
 ·refine sq (reg (pr 1 hf rfl rfl fun a hf => ?_))
  refine wl_end (then_n (wp_ret (then_r (?_))))
  obtain rfl := Option.some.inj hF
  refine ret_1 (fn := Tryz.f13) (r := .tmp 4) hf rfl (rv_tmp hf rfl) ?_
  exact ⟨_, rfl, H.bel, mk_bool⟩
 ·refine wp_skip (then_n (sq (reg (pr 2 hf rfl rfl fun a hf => ?_))))
  obtain ⟨y2, hy2, hF⟩ := bind_some hF
  refine wl0 rfl (op_call hf TF.cl47 rfl (by decide) (laws_szActionS_ok (S := fun _ => True) (mk_list (rep_true (α := List Action) (H.get 0 rfl))) mk_int hy2) fun v2 w a hp2 hf => ?_)
  obtain ⟨hb2, hp2⟩ := hp2
  obtain rfl := VR_int hp2
  have H := H.keep hb2
  refine pr 1 hf rfl rfl fun a hf => ?_
  refine wl_end (then_n (sq (sq (reg (pr 2 hf rfl rfl fun a hf => ?_)))))
  refine wl_end (then_n (iteB hF (fun hc2 hF => cd_t hf rfl hc2 ?_) fun hc2 hF => cd_f hf rfl hc2 ?_))
  ·refine sq (reg (pr 1 hf rfl rfl fun a hf => ?_))
   have hf := hf.prune [4] rfl
   refine wl_end (then_n (wp_ret (then_r (?_))))
   obtain rfl := Option.some.inj hF
   refine ret_1 (fn := Tryz.f13) (r := .tmp 4) hf rfl (rv_tmp hf rfl) ?_
   exact ⟨_, rfl, H.bel, mk_bool⟩
  ·refine wp_skip (then_n (sq (reg (wl0 rfl (op_q hf (rq_loadBN hf H TF.la28 0 rfl rfl rfl rfl) rfl (by decide) fun a hf => ?_)))))
   obtain ⟨y3, hy3, hF⟩ := bind_some hF
   refine wl0 rfl (op_call hf TF.cl17 rfl (by decide) (laws_toPlan_ok (S := fun _ => True) (Plan_mkv (x := aP) (rep_true (α := List ByteArray) (H.get 3 rfl)) (rep_true (α := List Fiber) (H.get 2 rfl)) (rep_true (α := List Light) (H.get 1 rfl))) hy3) fun v3 w a hp3 hf => ?_)
   obtain ⟨hb3, F, hp4, hN⟩ := hp3
   obtain ⟨A5, c5, F2, A6, c6, F3, A7, c7, F4, rfl, rfl, hl5, hl6, hl7⟩ := Plan_vo hp4
   have H := H.addOwn hb3 (X := [(⟨F2, MP.own F2 [(.slice A5 y3.Network.Nodes.length c5)] (y3.Network.Nodes : List ByteArray)⟩ : DI), (⟨F3, MP.own F3 [(.slice A6 y3.Network.Fibers.length c6)] (y3.Network.Fibers : List Fiber)⟩ : DI), (⟨F4, MP.own F4 [(.slice A7 y3.Lights.length c7)] (y3.Lights : List Light)⟩ : DI)]) (by simpa using hN.1) (ps1 hl5 (ps1 hl6 (ps1 hl7 ps0))) (by simpa using hN.2)
   have H := H.lend 0 rfl
   have H := H.lend 1 rfl
   have H := H.lend 2 rfl
   refine pr 1 hf rfl rfl fun a hf => ?_
   obtain ⟨y4, hy4, hF⟩ := bind_some hF
   refine wl0 rfl (op_call hf TF.cl49 rfl (by decide) (laws_toActionS_ok (S := fun _ => True) (mk_list (rep_true (α := List Action) (H.get 3 rfl))) hy4) fun v4 w a hp5 hf => ?_)
   obtain ⟨hb4, F5, hp6, hN2⟩ := hp5
   obtain ⟨A8, c8, rfl, hl8⟩ := VO_list hp6
   have H := H.addOwn hb4 (X := [(⟨F5, MP.own F5 [(.slice A8 y4.length c8)] (y4 : List Action)⟩ : DI)]) (by simpa using hN2.1) (ps1 hl8 ps0) (by simpa using hN2.2)
   have H := H.lend 0 rfl
   obtain ⟨y5, hy5, hF⟩ := bind_some hF
   refine wl0 rfl (op_call hf TF.cl54 rfl (by decide) (spec_IsHitless_ok (S := fun _ => True) (Plan_mkv (x := y3) (rep_true (α := List ByteArray) (H.get 3 rfl)) (rep_true (α := List Fiber) (H.get 2 rfl)) (rep_true (α := List Light) (H.get 1 rfl))) (mk_list (rep_true (α := List Action) (H.get 0 rfl))) hy5) fun v5 w a hp7 hf => ?_)
   obtain ⟨hb5, v6, v7, rfl, hp8, hp9⟩ := hp7
   obtain rfl := VR_bool hp8
   obtain rfl := VR_bool hp9
   have H := H.keep hb5
   refine pr 5 hf rfl rfl fun a hf => ?_
   have hf := hf.prune [1, 2, 6, 7] rfl
   refine wl_end (then_n (sq (reg (wl0 rfl (op_q hf (rq_loadBN hf H TF.la28 0 rfl rfl rfl rfl) rfl (by decide) fun a hf => ?_)))))
   obtain ⟨y6, hy6, hF⟩ := bind_some hF
   refine wl0 rfl (op_call hf TF.cl17 rfl (by decide) (laws_toPlan_ok (S := fun _ => True) (Plan_mkv (x := aP) (rep_true (α := List ByteArray) (H.get 7 rfl)) (rep_true (α := List Fiber) (H.get 6 rfl)) (rep_true (α := List Light) (H.get 5 rfl))) hy6) fun v8 w a hp10 hf => ?_)
   obtain ⟨hb6, F7, hp11, hN3⟩ := hp10
   obtain ⟨A9, c9, F8, A10, c10, F9, A11, c11, F10, rfl, rfl, hl9, hl10, hl11⟩ := Plan_vo hp11
   have H := H.addOwn hb6 (X := [(⟨F8, MP.own F8 [(.slice A9 y6.Network.Nodes.length c9)] (y6.Network.Nodes : List ByteArray)⟩ : DI), (⟨F9, MP.own F9 [(.slice A10 y6.Network.Fibers.length c10)] (y6.Network.Fibers : List Fiber)⟩ : DI), (⟨F10, MP.own F10 [(.slice A11 y6.Lights.length c11)] (y6.Lights : List Light)⟩ : DI)]) (by simpa using hN3.1) (ps1 hl9 (ps1 hl10 (ps1 hl11 ps0))) (by simpa using hN3.2)
   have H := H.lend 0 rfl
   have H := H.lend 1 rfl
   have H := H.lend 2 rfl
   refine wl0 rfl (op_alloc hf H TF.zv37 rfl (by decide) fun b2 a w hf H => ?_)
   refine wl0 rfl (op_storeB hf H 0 TF.sz37 rfl rfl rfl rfl rfl rfl (nle rfl) fun w H => ?_)
   refine wl_end (then_n (sq (reg (pr 1 hf rfl rfl fun a hf => ?_))))
   obtain ⟨y7, hy7, hF⟩ := bind_some hF
   refine wl0 rfl (op_call hf TF.cl49 rfl (by decide) (laws_toActionS_ok (S := fun _ => True) (mk_list (rep_true (α := List Action) (H.get 7 rfl))) hy7) fun v9 w a hp12 hf => ?_)
   obtain ⟨hb7, F11, hp13, hN4⟩ := hp12
   obtain ⟨A12, c12, rfl, hl12⟩ := VO_list hp13
   have H := H.addOwn hb7 (X := [(⟨F11, MP.own F11 [(.slice A12 y7.length c12)] (y7 : List Action)⟩ : DI)]) (by simpa using hN4.1) (ps1 hl12 ps0) (by simpa using hN4.2)
   have H := H.lend 0 rfl
   refine pr 1 hf rfl rfl fun a hf => ?_
   refine wl_end (then_n (sq (reg (wl0 rfl (op_q hf (rq_loadBN hf H TF.la37 0 rfl rfl rfl rfl) rfl (by decide) fun a hf => ?_)))))
   refine pr 1 hf rfl rfl fun a hf => ?_
   obtain ⟨y8, hy8, hF⟩ := bind_some hF
   refine wl0 rfl (op_call hf TF.cl55 rfl (by decide) (impl_IsHitless_ok (S := fun _ => True) (Plan_mkv (x := y6) (rep_true (α := List ByteArray) (H.get 3 rfl)) (rep_true (α := List Fiber) (H.get 2 rfl)) (rep_true (α := List Light) (H.get 1 rfl))) (mk_list (rep_true (α := List Action) (H.get 0 rfl))) hy8) fun v10 w a hp14 hf => ?_)
   obtain ⟨hb8, v11, v12, rfl, hp15, hp16⟩ := hp14
   obtain rfl := VR_bool hp15
   obtain rfl := VR_bool hp16
   have H := H.keep hb8
   refine pr 5 hf rfl rfl fun a hf => ?_
   refine wl_end (then_n (sq (sq ?_)))
   obtain ⟨c13, hGc13, hF⟩ := bind_some hF
   have fh := hf.prune [1, 2, 8, 9] rfl
   have Hm := H.let [true, true] [] [true, true, true, true, false, false, false, false] [0, 1, 2, 3, 8, 9, 10, 11] rfl rfl rfl rfl
   refine midF 47 (.bool c13) fh Hm ?_ fun a w hf H => ?_
   ·refine reg (pr 4 hf rfl rfl fun a hf => ?_)
    refine iteB hGc13 (fun hc3 hGc13 => ?_) fun hc3 hGc13 => ?_
    ·have hf := hf.lit 43 rfl hc3
     refine pr 4 hf rfl rfl fun a hf => ?_
     obtain rfl := Option.some.inj hGc13
     have hf := hf.prune [47, 1, 2, 8, 9] rfl
     have H := H.let [true, true] [] [true, true, true, true, false, false, false, false] [0, 1, 2, 3, 8, 9, 10, 11] rfl rfl rfl rfl
     exact wl_end ⟨hf, H⟩
    ·have hf := hf.lit 43 rfl hc3
     refine pr 4 hf rfl rfl fun a hf => ?_
     obtain rfl := Option.some.inj hGc13
     have hf := hf.prune [47, 1, 2, 8, 9] rfl
     have H := H.let [true, true] [] [true, true, true, true, false, false, false, false] [0, 1, 2, 3, 8, 9, 10, 11] rfl rfl rfl rfl
     exact wl_end ⟨hf, H⟩
   refine then_n (iteB hF (fun hc4 hF => cd_t hf rfl hc4 ?_) fun hc4 hF => cd_f hf rfl hc4 ?_)
   ·refine sq (reg (pr 1 hf rfl rfl fun a hf => ?_))
    refine wl_end (then_n (wp_ret (then_r (?_))))
    obtain rfl := Option.some.inj hF
    refine ret_1 (fn := Tryz.f13) (r := .tmp 4) hf rfl (rv_tmp hf rfl) ?_
    exact ⟨_, rfl, H.bel, mk_bool⟩
   ·refine wp_skip (then_n (sq (sq (drawn [] (bs := [false, false, false, false, false]) (fuel := 5) (Checked.mixed Tryz.checked) rfl rfl fun w hb => ?_))))
    have H := H.keep hb
    refine strT (H.let [true, false] [] [false, false, false, false] [] rfl rfl rfl rfl) (fun w H => trivial) fun hS => ?_
    refine tS 0 [] rfl rfl rfl rfl hf (by kernel_rfl) (by kernel_rfl) hS (fun w H => rq_loadBN hf H TF.la37 0 rfl rfl rfl rfl) fun a hf => ?_
    refine strT (H.let [true, true] [] [false, false, false, false] [] rfl rfl rfl rfl) (fun w H => H.let [true, false] [] [] [] rfl rfl rfl rfl) fun hS => ?_
    refine tS 1 [] rfl rfl rfl rfl hf (by kernel_rfl) (by kernel_rfl) hS (fun w H => rq_loadBN hf H TF.la28 1 rfl rfl rfl rfl) fun a hf => ?_
    obtain ⟨y9, hy9, hF⟩ := bind_some hF
    refine n1 2 (by kernel_rfl) rfl rfl (op_call hf TF.cl17 rfl (by decide) (laws_toPlan_ok (S := fun _ => True) (Plan_mkv (x := aP) (rep_true (α := List ByteArray) (H.get 7 rfl)) (rep_true (α := List Fiber) (H.get 6 rfl)) (rep_true (α := List Light) (H.get 5 rfl))) hy9) fun v13 w a hp17 hf => ?_)
    obtain ⟨hb9, F13, hp18, hN5⟩ := hp17
    obtain ⟨A13, c14, F14, A14, c15, F15, A15, c16, F16, rfl, rfl, hl13, hl14, hl15⟩ := Plan_vo hp18
    have H := H.addOwn hb9 (X := [(⟨F14, MP.own F14 [(.slice A13 y9.Network.Nodes.length c14)] (y9.Network.Nodes : List ByteArray)⟩ : DI), (⟨F15, MP.own F15 [(.slice A14 y9.Network.Fibers.length c15)] (y9.Network.Fibers : List Fiber)⟩ : DI), (⟨F16, MP.own F16 [(.slice A15 y9.Lights.length c16)] (y9.Lights : List Light)⟩ : DI)]) (by simpa using hN5.1) (ps1 hl13 (ps1 hl14 (ps1 hl15 ps0))) (by simpa using hN5.2)
    have H := H.lend 0 rfl
    have H := H.lend 1 rfl
    have H := H.lend 2 rfl
    have hS := H.let [true, true] [] [false, false, false, false, false, false, false] [] rfl rfl rfl rfl
    refine ⟨fun _ => hS, ?_⟩
    obtain ⟨y10, hy10, hF⟩ := bind_some hF
    refine n1 3 (by kernel_rfl) rfl rfl (op_call hf TF.cl19 rfl (by decide) (laws_eqPlan_ok (S := fun _ => True) (Plan_mkv (x := y6) (rep_true (α := List ByteArray) (H.get 6 rfl)) (rep_true (α := List Fiber) (H.get 5 rfl)) (rep_true (α := List Light) (H.get 4 rfl))) (Plan_mkv (x := y9) (rep_true (α := List ByteArray) (H.get 2 rfl)) (rep_true (α := List Fiber) (H.get 1 rfl)) (rep_true (α := List Light) (H.get 0 rfl))) hy10) fun v14 w a hp19 hf => ?_)
    obtain ⟨hb10, hp19⟩ := hp19
    obtain rfl := VR_bool hp19
    have H := H.keep hb10
    have hS := H.let [true, true] [] [false, false, false, false, false, false, false] [] rfl rfl rfl rfl
    refine ⟨fun _ => hS, ?_⟩
    refine tp 4 rfl rfl hf (by kernel_rfl) (fun _ => hS) rfl fun a hf => ?_
    refine dn (by kernel_rfl) ?_
    refine then_n (iteB hF (fun hc5 hF => cd_t hf rfl hc5 ?_) fun hc5 hF => cd_f hf rfl hc5 ?_)
    ·refine sq (reg (pr 1 hf rfl rfl fun a hf => ?_))
     refine wl_end (then_n (wp_ret (then_r (?_))))
     obtain rfl := Option.some.inj hF
     refine ret_1 (fn := Tryz.f13) (r := .tmp 4) hf rfl (rv_tmp hf rfl) ?_
     exact ⟨_, rfl, H.bel, mk_bool⟩
    ·refine wp_skip (then_n (sq (sq (reg (pr 2 hf rfl rfl fun a hf => ?_)))))
     obtain ⟨y11, hy11, hF⟩ := bind_some hF
     refine wl0 rfl (op_call hf TF.cl49 rfl (by decide) (laws_toActionS_ok (S := fun _ => True) (mk_list (rep_true (α := List Action) (H.get 7 rfl))) hy11) fun v15 w a hp20 hf => ?_)
     obtain ⟨hb11, F17, hp21, hN6⟩ := hp20
     obtain ⟨A16, c17, rfl, hl16⟩ := VO_list hp21
     have H := H.addOwn hb11 (X := [(⟨F17, MP.own F17 [(.slice A16 y11.length c17)] (y11 : List Action)⟩ : DI)]) (by simpa using hN6.1) (ps1 hl16 ps0) (by simpa using hN6.2)
     have H := H.lend 0 rfl
     obtain ⟨y12, hy12, hF⟩ := bind_some hF
     refine wl0 rfl (op_call hf TF.cl44 rfl (by decide) (laws_eqActionS_ok (S := fun _ => True) (mk_list (rep_true (α := List Action) (H.get 4 rfl))) (mk_list (rep_true (α := List Action) (H.get 0 rfl))) hy12) fun v16 w a hp22 hf => ?_)
     obtain ⟨hb12, hp22⟩ := hp22
     obtain rfl := VR_bool hp22
     have H := H.keep hb12
     refine pr 1 hf rfl rfl fun a hf => ?_
     have hf := hf.prune [57] rfl
     refine wl_end (then_n (iteB hF (fun hc6 hF => cd_t hf rfl hc6 ?_) fun hc6 hF => cd_f hf rfl hc6 ?_))
     ·refine sq (reg (pr 1 hf rfl rfl fun a hf => ?_))
      refine wl_end (then_n (wp_ret (then_r (?_))))
      obtain rfl := Option.some.inj hF
      refine ret_1 (fn := Tryz.f13) (r := .tmp 4) hf rfl (rv_tmp hf rfl) ?_
      exact ⟨_, rfl, H.bel, mk_bool⟩
     ·refine wp_skip (then_n (sq (reg (pr 1 hf rfl rfl fun a hf => ?_))))
      refine wl_end (then_n (wp_ret (?_)))
      obtain rfl := Option.some.inj hF
      refine ret_1 (fn := Tryz.f13) (r := .tmp 4) hf rfl (rv_tmp hf rfl) ?_
      exact ⟨_, rfl, H.bel, mk_bool⟩
end AT

