/- The Go functions do what is told of them, by program (gen.py). -/
import Derived.Test.YtokhhjepjbhhpaaGreatWFnExactIsValidChange0
set_option linter.unusedVariables false
set_option linter.unusedSimpArgs false
set_option maxRecDepth 100000
namespace AT
open Go Go.RowKit Go.Proofs

/- loop.example/g00897/impl.withLight -/
set_option maxHeartbeats 1000000 in
theorem impl_withLight_ok {fu : Nat} {w0 : World} {S : Nat → Prop} {v0_ : Value} {v1_ : Value} {p : Plan} {x1 : Light} {r : Plan} (h0 : VR w0 S v0_ p) (h1 : VR w0 S v1_ x1) (hF : impl_withLight fu p x1 = some r) :
    Calls Tryz.prog 215 [v0_, v1_].toArray w0 fun e w' => ∃ v, e = .returned v ∧ (Below w0.heap.size w0 w' ∧ ∃ F0, VO w' F0 v r ∧ New w0 w' F0) := by
 obtain ⟨A, c, A2, c2, A3, c3, rfl, hl, hl2, hl3⟩ := Plan_open h0
 obtain ⟨A4, c4, rfl, hl4⟩ := Light_open h1
 have H := Mem.start ⟨w0, []⟩ S
 have H := H.pushArg (MP.val [(.slice A p.Network.Nodes.length c)] p.Network.Nodes) hl
 have H := H.pushArg (MP.val [(.slice A2 p.Network.Fibers.length c2)] p.Network.Fibers) hl2
 have H := H.pushArg (MP.val [(.slice A3 p.Lights.length c3)] p.Lights) hl3
 have H := H.pushArg (MP.val [(.slice A4 x1.Route.Fibers.length c4)] x1.Route.Fibers) hl4
 refine enter Tryz.func215 rfl rfl (nle rfl) rfl fun a hf => ?_
 rw [impl_withLight] at hF
 refine sq (reg (wl0 rfl (op_box hf H rfl rfl (by decide) fun b' a w hf H => ?_)))
 refine wl0 rfl (op_box hf H rfl rfl (by decide) fun b2 a w hf H => ?_)
 refine wl0 rfl (op_alloc hf H TF.zv37 rfl (by decide) fun b3 a w hf H => ?_)
 refine wl_end (then_n (sq (reg (wl0 rfl (op_q hf (rq_loadBN hf H TF.la37 2 rfl rfl rfl rfl) rfl (by decide) fun a hf => ?_)))))
 obtain ⟨y, hy, hF⟩ := bind_some hF
 refine wl0 rfl (op_call hf TF.cl86 rfl (by decide) (impl_copyPlan_ok (S := fun _ => True) (Plan_mkv (x := p) (rep_true (α := List ByteArray) (H.get 3 rfl)) (rep_true (α := List Fiber) (H.get 2 rfl)) (rep_true (α := List Light) (H.get 1 rfl))) hy) fun v w a hp hf => ?_)
 obtain ⟨hb, F, hp2, hN⟩ := hp
 obtain ⟨A5, c5, F2, A6, c6, F3, A7, c7, F4, rfl, rfl, hl5, hl6, hl7⟩ := Plan_vo hp2
 have H := H.addOwn hb (X := [(⟨F2, MP.own F2 [(.slice A5 y.Network.Nodes.length c5)] (y.Network.Nodes : List ByteArray)⟩ : DI), (⟨F3, MP.own F3 [(.slice A6 y.Network.Fibers.length c6)] (y.Network.Fibers : List Fiber)⟩ : DI), (⟨F4, MP.own F4 [(.slice A7 y.Lights.length c7)] (y.Lights : List Light)⟩ : DI)]) (by simpa using hN.1) (ps1 hl5 (ps1 hl6 (ps1 hl7 ps0))) (by simpa using hN.2)
 have H := H.lend 0 rfl
 have H := H.lend 1 rfl
 have H := H.lend 2 rfl
 refine wl0 rfl (op_alloc hf H TF.zv37 rfl (by decide) fun b4 a w hf H => ?_)
 refine wl0 rfl (op_storeB hf H 0 TF.sz37 rfl rfl rfl rfl rfl rfl (nle rfl) fun w H => ?_)
 refine pr 1 hf rfl rfl fun a hf => ?_
 refine wl_end (then_n (sq ?_))
 obtain ⟨out', hB1, hF⟩ := bind_some hF
 have hf := hf.prune [2, 3, 4, 5, 6] rfl
 have H := H.let [true, true, true, true] [] [true, true, true] [0, 1, 2, 3, 4, 5, 6] rfl rfl rfl rfl
 refine loopC (fun (s : Int) (a : Act) (w : World) => match s with | at' => Fr a 39 [(2, (.pointer (some ⟨b', 0, none⟩))), (3, (.pointer (some ⟨b2, 0, none⟩))), (4, (.pointer (some ⟨b3, 0, none⟩))), (5, (.pointer (some ⟨b4, 0, none⟩))), (6, (.int .i64 at'))] ∧ Mem ⟨w0, []⟩ S [⟨b4, 37, [(.slice A5 y.Network.Nodes.length c5), (.slice A6 y.Network.Fibers.length c6), (.slice A7 y.Lights.length c7)]⟩, ⟨b3, 37, [(.slice none 0 0), (.slice none 0 0), (.slice none 0 0)]⟩, ⟨b2, 112, [(.int .i64 x1.Id), (.int .i64 x1.Route.Start), (.slice A4 x1.Route.Fibers.length c4), (.int .i64 x1.Block.First), (.int .i64 x1.Block.Count)]⟩, ⟨b', 37, [(.slice A p.Network.Nodes.length c), (.slice A2 p.Network.Fibers.length c2), (.slice A3 p.Lights.length c3)]⟩] [] [⟨F2, MP.own F2 [(.slice A5 y.Network.Nodes.length c5)] (y.Network.Nodes : List ByteArray)⟩, ⟨F3, MP.own F3 [(.slice A6 y.Network.Fibers.length c6)] (y.Network.Fibers : List Fiber)⟩, ⟨F4, MP.own F4 [(.slice A7 y.Lights.length c7)] (y.Lights : List Light)⟩] [(true, MP.val [(.slice A7 y.Lights.length c7)] (y.Lights : List Light)), (true, MP.val [(.slice A6 y.Network.Fibers.length c6)] (y.Network.Fibers : List Fiber)), (true, MP.val [(.slice A5 y.Network.Nodes.length c5)] (y.Network.Nodes : List ByteArray)), (false, MP.val [(.slice A4 x1.Route.Fibers.length c4)] (x1.Route.Fibers : List Int)), (false, MP.val [(.slice A3 p.Lights.length c3)] (p.Lights : List Light)), (false, MP.val [(.slice A2 p.Network.Fibers.length c2)] (p.Network.Fibers : List Fiber)), (false, MP.val [(.slice A p.Network.Nodes.length c)] (p.Network.Nodes : List ByteArray))] w) (fun k (s : Int) => impl_withLight_L1 fu p x1 k s = some out') (fun s => out' = s) 0 fu hB1 ⟨hf, H⟩ (fun s h => by cases h) ?_ ?_
 ·rintro fk at' a w hR1 hI
  replace hR1 : impl_withLight_L1 fu p x1 (fk + 1) at' = some out' := hR1
  rw [impl_withLight_L1] at hR1
  obtain ⟨hf, H⟩ := hI
  refine sq (sq ?_)
  obtain ⟨c8, hGc8, hR1⟩ := bind_some hR1
  have fh := hf.prune [2, 3, 4, 5, 6] rfl
  have Hm := H.let [true, true, true, true] [] [true, true, true] [0, 1, 2, 3, 4, 5, 6] rfl rfl rfl rfl
  refine midF 24 (.bool c8) fh Hm ?_ fun a w hf H => ?_
  ·refine drawn [] (bs := [false, false, false, false, false, false, false, false, false, false, false, false, false, false, false, false]) (fuel := 16) (Checked.mixed Tryz.checked) rfl rfl fun w hb => ?_
   have H := H.keep hb
   refine tp 0 rfl rfl hf (by kernel_rfl) (fun _ => trivial) rfl fun a hf => ?_
   refine tp 1 rfl rfl hf (by kernel_rfl) (fun _ => trivial) rfl fun a hf => ?_
   refine strT (H.let [false, false, false, true] [] [false, false, false] [] rfl rfl rfl rfl) (fun w H => trivial) fun hS => ?_
   refine tS 2 [] rfl rfl rfl rfl hf (by kernel_rfl) (by kernel_rfl) hS (fun w H => rq_loadB hf H TF.ls35 0 rfl rfl rfl) fun a hf => ?_
   refine tp 3 rfl rfl hf (by kernel_rfl) (fun _ => hS) rfl fun a hf => ?_
   refine tp 4 rfl rfl hf (by kernel_rfl) (fun _ => hS) rfl fun a hf => ?_
   refine tp 5 rfl rfl hf (by kernel_rfl) (fun _ => hS) rfl fun a hf => ?_
   refine iteB hGc8 (fun hc hGc8 => ?_) fun hc hGc8 => ?_
   ·have hf := hf.lit 14 rfl hc
    refine tpg 6 rfl rfl rfl rfl hf (by kernel_rfl) (fun _ => hS) rfl fun a hf => ?_
    refine tSg 7 [] rfl rfl rfl rfl rfl rfl hf (by kernel_rfl) (by kernel_rfl) hS (fun w H => rq_loadB hf H TF.ls35 0 rfl rfl rfl) fun a hf => ?_
    refine tpg 8 rfl rfl rfl rfl hf (by kernel_rfl) (fun _ => hS) rfl fun a hf => ?_
    obtain ⟨e, he, hGc8⟩ := bind_some hGc8
    obtain ⟨p2, o, cs, hx, hr, H⟩ := pre_iaddr H Tryz.underlying35 TF.sz112 4 rfl he
    refine tPg 9 rfl rfl rfl rfl rfl rfl hf (by kernel_rfl) (fun _ => hS) (fun w => rq_iaddrE hf rfl rfl rfl hx w) fun a hf => ?_
    obtain ⟨A8, c9, rfl, hl8⟩ := Light_cells hr
    have H := H.push (false, MP.val [(.slice A8 e.Route.Fibers.length c9)] e.Route.Fibers) hl8
    refine tpg 10 rfl rfl rfl rfl hf (by kernel_rfl) (fun _ => hS) rfl fun a hf => ?_
    refine strT (H.let [false, false, false, true] [] [false, false, false] [1] rfl rfl rfl rfl) (fun w H => H.let [true] [] [] [] rfl rfl rfl rfl) fun hS => ?_
    refine tSg 11 [] rfl rfl rfl rfl rfl rfl hf (by kernel_rfl) (by kernel_rfl) hS (fun w H => rq_loadI hf H TF.ls3 0 0 rfl rfl rfl) fun a hf => ?_
    refine tpg 12 rfl rfl rfl rfl hf (by kernel_rfl) (fun _ => hS) rfl fun a hf => ?_
    refine strT (H.let [false, false, true, true] [] [false, false, false] [1] rfl rfl rfl rfl) (fun w H => H.let [false, true] [] [] [0] rfl rfl rfl rfl) fun hS => ?_
    refine tSg 13 [] rfl rfl rfl rfl rfl rfl hf (by kernel_rfl) (by kernel_rfl) hS (fun w H => rq_loadB hf H TF.ls3 0 rfl rfl rfl) fun a hf => ?_
    refine tpg 14 rfl rfl rfl rfl hf (by kernel_rfl) (fun _ => hS) rfl fun a hf => ?_
    refine tp 15 rfl rfl hf (by kernel_rfl) (fun _ => hS) rfl fun a hf => ?_
    refine dn (by kernel_rfl) ?_
    obtain rfl := Option.some.inj hGc8
    have hf := hf.prune [24, 2, 3, 4, 5, 6] rfl
    have H := H.let [true, true, true, true] [] [true, true, true] [2, 3, 4, 5, 6, 7, 8] rfl rfl rfl rfl
    exact ⟨hf, H⟩
   ·have hf := hf.lit 14 rfl hc
    refine tU 6 rfl rfl rfl rfl rfl rfl rfl hf (by kernel_rfl) (fun _ => hS) fun a hf => ?_
    refine tU 7 rfl rfl rfl rfl rfl rfl rfl hf (by kernel_rfl) (fun _ => hS) fun a hf => ?_
    refine tU 8 rfl rfl rfl rfl rfl rfl rfl hf (by kernel_rfl) (fun _ => hS) fun a hf => ?_
    refine tU 9 rfl rfl rfl rfl rfl rfl rfl hf (by kernel_rfl) (fun _ => hS) fun a hf => ?_
    refine tU 10 rfl rfl rfl rfl rfl rfl rfl hf (by kernel_rfl) (fun _ => hS) fun a hf => ?_
    refine tU 11 rfl rfl rfl rfl rfl rfl rfl hf (by kernel_rfl) (fun _ => hS) fun a hf => ?_
    refine tU 12 rfl rfl rfl rfl rfl rfl rfl hf (by kernel_rfl) (fun _ => hS) fun a hf => ?_
    refine tU 13 rfl rfl rfl rfl rfl rfl rfl hf (by kernel_rfl) (fun _ => hS) fun a hf => ?_
    refine tU 14 rfl rfl rfl rfl rfl rfl rfl hf (by kernel_rfl) (fun _ => hS) fun a hf => ?_
    refine tp 15 rfl rfl hf (by kernel_rfl) (fun _ => hS) rfl fun a hf => ?_
    refine dn (by kernel_rfl) ?_
    obtain rfl := Option.some.inj hGc8
    have hf := hf.prune [24, 2, 3, 4, 5, 6] rfl
    have H := H.let [true, true, true, true] [] [true, true, true] [0, 1, 2, 3, 4, 5, 6] rfl rfl rfl rfl
    exact ⟨hf, H⟩
  refine then_n (iteB hR1 (fun hc2 hR1 => cd_t hf rfl hc2 ?_) fun hc2 hR1 => cd_f hf rfl hc2 ?_)
  ·refine wp_skip (then_n (wp_block (reg (pr 3 hf rfl rfl fun a hf => ?_))))
   refine wl_end (blk_n ?_)
   have hf := hf.prune [2, 3, 4, 5, 6] rfl
   have H := H.let [true, true, true, true] [] [true, true, true] [0, 1, 2, 3, 4, 5, 6] rfl rfl rfl rfl
   exact then_n ⟨w64 (at' + 1), hR1, hf, H⟩
  ·refine wp_exit (then_x (then_x (blk_e (?_))))
   have hf := hf.prune [2, 3, 4, 5, 6] rfl
   have H := H.let [true, true, true, true] [] [true, true, true] [0, 1, 2, 3, 4, 5, 6] rfl rfl rfl rfl
   exact ⟨at', (Option.some.inj hR1).symm, hf, H⟩
 rintro a w ⟨out', rfl, hf, H⟩
 refine then_n (sq (reg (pr 1 hf rfl rfl fun a hf => ?_)))
 refine wl0 rfl (op_q hf (rq_loadBN hf H TF.la108 2 rfl rfl rfl rfl) rfl (by decide) fun a hf => ?_)
 obtain ⟨y2, hy2, hF⟩ := bind_some hF
 refine wl0 rfl (op_call hf TF.cl152 rfl (by decide) (impl_copyRoute_ok (S := fun _ => True) (Route_mkv (x := x1.Route) (rep_true (α := List Int) (H.get 3 rfl))) hy2) fun v2 w a hp3 hf => ?_)
 obtain ⟨hb2, F5, hp4, hN2⟩ := hp3
 obtain ⟨A9, c10, F6, rfl, rfl, hl9⟩ := Route_vo hp4
 have H := H.addOwn hb2 (X := [(⟨F6, MP.own F6 [(.slice A9 y2.Fibers.length c10)] (y2.Fibers : List Int)⟩ : DI)]) (by simpa using hN2.1) (ps1 hl9 ps0) (by simpa using hN2.2)
 have H := H.lend 0 rfl
 refine pr 1 hf rfl rfl fun a hf => ?_
 refine wl0 rfl (op_storeB hf H 2 TF.sz108 rfl rfl rfl rfl rfl rfl (nle rfl) fun w H => ?_)
 refine wl_end (then_n (sq (reg (pr 1 hf rfl rfl fun a hf => ?_))))
 refine wl0 rfl (op_q hf (rq_loadB hf H TF.ls35 0 rfl rfl rfl) rfl (by decide) fun a hf => ?_)
 refine pr 1 hf rfl rfl fun a hf => ?_
 refine wl0 rfl (op_q hf (rq_loadBN hf H TF.la112 2 rfl rfl rfl rfl) rfl (by decide) fun a hf => ?_)
 have H := H.recast (X := [(⟨F6, MP.own F6 [(.slice A9 y2.Fibers.length c10)] (y2.Fibers : List Int)⟩ : DI)]) (Y := [(⟨F6, MP.own F6 [(.int .i64 x1.Id), (.int .i64 y2.Start), (.slice A9 y2.Fibers.length c10), (.int .i64 x1.Block.First), (.int .i64 x1.Block.Count)] (({ Id := x1.Id, Route := y2, Block := x1.Block } : Light) : Light)⟩ : DI)]) (List.Perm.of_eq (by simp)) fun _ => ps1 (Light_ownmk (x := ({ Id := x1.Id, Route := y2, Block := x1.Block } : Light)) (H.ownAt 0 rfl)) ps0
 refine wl0 rfl (op_bsliceO hf 112 H rfl (fun w => by kernel_rfl) (by decide) fun A10 a w hf H => ?_)
 have H := H.frontD 2 rfl
 obtain ⟨Fs, E, H, -⟩ := H.thaw rfl
 have H := H.arg (p := MP.val [(.slice A p.Network.Nodes.length c)] p.Network.Nodes) hl
 have H := H.arg (p := MP.val [(.slice A2 p.Network.Fibers.length c2)] p.Network.Fibers) hl2
 have H := H.arg (p := MP.val [(.slice A3 p.Lights.length c3)] p.Lights) hl3
 have H := H.arg (p := MP.val [(.slice A4 x1.Route.Fibers.length c4)] x1.Route.Fibers) hl4
 have H := H.lend 0 rfl
 have H := H.lend 1 rfl
 obtain ⟨l, hl, hF⟩ := bind_some hF
 have H := H.frontR 1 rfl
 have H := H.frontR 1 rfl
 refine wl0 rfl (op_insR hf H TF.cl232 ins_spec_232 rfl hl (by decide) fun Fs2 E2 A11 c11 a w hf H => ?_)
 refine pr 1 hf rfl rfl fun a hf => ?_
 refine wl0 rfl (op_storeB hf H 0 TF.sz35 rfl rfl rfl rfl rfl rfl (nle rfl) fun w H => ?_)
 have hf := hf.prune [4, 5] rfl
 refine wl_end (then_n (sq (reg (wl0 rfl (op_q hf (rq_loadBN hf H TF.la37 0 rfl rfl rfl rfl) rfl (by decide) fun a hf => ?_)))))
 refine wl0 rfl (op_storeB hf H 1 TF.sz37 rfl rfl rfl rfl rfl rfl (nle rfl) fun w H => ?_)
 refine wl_end (then_n (wp_ret (?_)))
 obtain ⟨F7, H⟩ := H.freezeOwn 0 rfl
 have H := H.lend 0 rfl
 have H := H.frontD 2 rfl
 have H := H.frontD 2 rfl
 obtain rfl := Option.some.inj hF
 refine ret_1 (fn := Tryz.f215) (r := .cell 4 37) hf rfl (rv_cellN hf H 1 TF.la37 rfl rfl rfl) ?_
 have hN := H.ends (X := [(⟨F2, MP.own F2 [(.slice A5 y.Network.Nodes.length c5)] (y.Network.Nodes : List ByteArray)⟩ : DI), (⟨F3, MP.own F3 [(.slice A6 y.Network.Fibers.length c6)] (y.Network.Fibers : List Fiber)⟩ : DI), (⟨F7, MP.own F7 [(.slice A11 l.length c11)] (l : List Light)⟩ : DI)])
 simp only [List.flatMap_cons, List.flatMap_nil, List.append_nil, List.append_assoc] at hN
 exact ⟨_, rfl, H.bel, (F2 ++ (F3 ++ F7)), ⟨_, Plan_ownmk (x := ({ Network := y.Network, Lights := l } : Plan)) (H.ownAt 0 rfl) (H.ownAt 1 rfl) (H.ownAt 2 rfl), rfl⟩, by first | exact hN | simpa using hN⟩

/- loop.example/g00897/impl.planIf -/
set_option maxHeartbeats 1000000 in
theorem impl_planIf_ok {fu : Nat} {w0 : World} {S : Nat → Prop} {v0_ : Value} {p : Plan} {r : Plan × Bool} (h0 : VR w0 S v0_ p) (hF : impl_planIf fu p = some r) :
    Calls Tryz.prog 214 [v0_].toArray w0 fun e w' => ∃ v, e = .returned v ∧ (Below w0.heap.size w0 w' ∧ ∃ u0 u1, v = .tuple #[u0, u1] ∧ VR w' (St ⟨w0, []⟩ S [] [] [] false) u0 r.1 ∧ VR w' (St ⟨w0, []⟩ S [] [] [] true) u1 r.2) := by
 obtain ⟨A, c, A2, c2, A3, c3, rfl, hl, hl2, hl3⟩ := Plan_open h0
 have H := Mem.start ⟨w0, []⟩ S
 have H := H.pushArg (MP.val [(.slice A p.Network.Nodes.length c)] p.Network.Nodes) hl
 have H := H.pushArg (MP.val [(.slice A2 p.Network.Fibers.length c2)] p.Network.Fibers) hl2
 have H := H.pushArg (MP.val [(.slice A3 p.Lights.length c3)] p.Lights) hl3
 refine enter Tryz.func214 rfl rfl (nle rfl) rfl fun a hf => ?_
 rw [impl_planIf] at hF
 refine sq (reg (wl0 rfl (op_box hf H rfl rfl (by decide) fun b' a w hf H => ?_)))
 refine wl0 rfl (op_alloc hf H TF.zv37 rfl (by decide) fun b2 a w hf H => ?_)
 refine pr 1 hf rfl rfl fun a hf => ?_
 refine wl_end (then_n (sq (sq (reg (wl0 rfl (op_q hf (rq_loadBN hf H TF.la37 1 rfl rfl rfl rfl) rfl (by decide) fun a hf => ?_))))))
 obtain ⟨y, hy, hF⟩ := bind_some hF
 refine wl0 rfl (op_call hf TF.cl72 rfl (by decide) (impl_IsValidPlan_ok (S := fun _ => True) (Plan_mkv (x := p) (rep_true (α := List ByteArray) (H.get 2 rfl)) (rep_true (α := List Fiber) (H.get 1 rfl)) (rep_true (α := List Light) (H.get 0 rfl))) hy) fun v w a hp hf => ?_)
 obtain ⟨hb, hp⟩ := hp
 obtain rfl := VR_bool hp
 have H := H.keep hb
 refine pr 1 hf rfl rfl fun a hf => ?_
 refine wl_end (then_n (iteB hF (fun hc hF => cd_t hf rfl hc ?_) fun hc hF => cd_f hf rfl hc ?_))
 ·refine sq (reg (wl0 rfl (op_q hf (rq_build hf (cs := [(.slice none 0 0), (.slice none 0 0), (.slice none 0 0)]) rfl (fun w => by kernel_rfl)) rfl (by decide) fun a hf => ?_)))
  refine wl0 rfl (op_storeB hf H 0 TF.sz37 rfl rfl rfl rfl rfl rfl (nle rfl) fun w H => ?_)
  refine pr 1 hf rfl rfl fun a hf => ?_
  refine wl_end (then_n (wp_ret (then_r (?_))))
  have H := H.pushNil (ByteArray) true
  have H := H.pushNil (Fiber) true
  have H := H.pushNil (Light) true
  obtain rfl := Option.some.inj hF
  refine ret_2 (fn := Tryz.f214) (r := .cell 2 37) (s := .tmp 3) hf rfl (rv_cellN hf H 0 TF.la37 rfl rfl rfl) (rv_tmp hf rfl) ?_
  exact ⟨_, rfl, H.bel, _, _, rfl, (Plan_mkv (x := ({ Network := ({ Nodes := [], Fibers := [] } : Network), Lights := [] } : Plan)) (rep_endw (α := List ByteArray) (H.get 2 rfl)) (rep_endw (α := List Fiber) (H.get 1 rfl)) (rep_endw (α := List Light) (H.get 0 rfl))), mk_bool⟩
 ·refine wp_skip (then_n (sq (reg (wl0 rfl (op_q hf (rq_loadBN hf H TF.la37 1 rfl rfl rfl rfl) rfl (by decide) fun a hf => ?_)))))
  refine wl0 rfl (op_storeB hf H 0 TF.sz37 rfl rfl rfl rfl rfl rfl (nle rfl) fun w H => ?_)
  refine pr 1 hf rfl rfl fun a hf => ?_
  refine wl_end (then_n (wp_ret (?_)))
  obtain rfl := Option.some.inj hF
  refine ret_2 (fn := Tryz.f214) (r := .cell 2 37) (s := .tmp 3) hf rfl (rv_cellN hf H 0 TF.la37 rfl rfl rfl) (rv_tmp hf rfl) ?_
  exact ⟨_, rfl, H.bel, _, _, rfl, (Plan_mkv (x := p) (rep_end (α := List ByteArray) (H.get 2 rfl)) (rep_end (α := List Fiber) (H.get 1 rfl)) (rep_end (α := List Light) (H.get 0 rfl))), mk_bool⟩

/- loop.example/g00897/impl.AddLight -/
set_option maxHeartbeats 1000000 in
theorem impl_AddLight_ok {fu : Nat} {w0 : World} {S : Nat → Prop} {v0_ : Value} {v1_ : Value} {p : Plan} {x1 : Light} {r : Plan × Bool} (h0 : VR w0 S v0_ p) (h1 : VR w0 S v1_ x1) (hF : impl_AddLight fu p x1 = some r) :
    Calls Tryz.prog 175 [v0_, v1_].toArray w0 fun e w' => ∃ v, e = .returned v ∧ (Below w0.heap.size w0 w' ∧ ∃ u0 u1, v = .tuple #[u0, u1] ∧ VR w' (St ⟨w0, []⟩ S [] [] [] true) u0 r.1 ∧ VR w' (St ⟨w0, []⟩ S [] [] [] true) u1 r.2) := by
 obtain ⟨A, c, A2, c2, A3, c3, rfl, hl, hl2, hl3⟩ := Plan_open h0
 obtain ⟨A4, c4, rfl, hl4⟩ := Light_open h1
 have H := Mem.start ⟨w0, []⟩ S
 have H := H.pushArg (MP.val [(.slice A p.Network.Nodes.length c)] p.Network.Nodes) hl
 have H := H.pushArg (MP.val [(.slice A2 p.Network.Fibers.length c2)] p.Network.Fibers) hl2
 have H := H.pushArg (MP.val [(.slice A3 p.Lights.length c3)] p.Lights) hl3
 have H := H.pushArg (MP.val [(.slice A4 x1.Route.Fibers.length c4)] x1.Route.Fibers) hl4
 refine enter Tryz.func175 rfl rfl (nle rfl) rfl fun a hf => ?_
 rw [impl_AddLight] at hF
 refine sq (reg (wl0 rfl (op_box hf H rfl rfl (by decide) fun b' a w hf H => ?_)))
 refine wl0 rfl (op_box hf H rfl rfl (by decide) fun b2 a w hf H => ?_)
 refine wl0 rfl (op_alloc hf H TF.zv37 rfl (by decide) fun b3 a w hf H => ?_)
 refine pr 1 hf rfl rfl fun a hf => ?_
 refine wl_end (then_n (sq (sq (reg (wl0 rfl (op_q hf (rq_loadBN hf H TF.la37 2 rfl rfl rfl rfl) rfl (by decide) fun a hf => ?_))))))
 obtain ⟨y, hy, hF⟩ := bind_some hF
 refine wl0 rfl (op_call hf TF.cl72 rfl (by decide) (impl_IsValidPlan_ok (S := fun _ => True) (Plan_mkv (x := p) (rep_true (α := List ByteArray) (H.get 3 rfl)) (rep_true (α := List Fiber) (H.get 2 rfl)) (rep_true (α := List Light) (H.get 1 rfl))) hy) fun v w a hp hf => ?_)
 obtain ⟨hb, hp⟩ := hp
 obtain rfl := VR_bool hp
 have H := H.keep hb
 refine pr 1 hf rfl rfl fun a hf => ?_
 refine wl_end (then_n (iteB hF (fun hc hF => cd_t hf rfl hc ?_) fun hc hF => cd_f hf rfl hc ?_))
 ·refine sq (reg (wl0 rfl (op_q hf (rq_build hf (cs := [(.slice none 0 0), (.slice none 0 0), (.slice none 0 0)]) rfl (fun w => by kernel_rfl)) rfl (by decide) fun a hf => ?_)))
  refine wl0 rfl (op_storeB hf H 0 TF.sz37 rfl rfl rfl rfl rfl rfl (nle rfl) fun w H => ?_)
  refine pr 1 hf rfl rfl fun a hf => ?_
  refine wl_end (then_n (wp_ret (then_r (?_))))
  have H := H.pushNil (ByteArray) true
  have H := H.pushNil (Fiber) true
  have H := H.pushNil (Light) true
  obtain rfl := Option.some.inj hF
  refine ret_2 (fn := Tryz.f175) (r := .cell 4 37) (s := .tmp 5) hf rfl (rv_cellN hf H 0 TF.la37 rfl rfl rfl) (rv_tmp hf rfl) ?_
  exact ⟨_, rfl, H.bel, _, _, rfl, (Plan_mkv (x := ({ Network := ({ Nodes := [], Fibers := [] } : Network), Lights := [] } : Plan)) (rep_end (α := List ByteArray) (H.get 2 rfl)) (rep_end (α := List Fiber) (H.get 1 rfl)) (rep_end (α := List Light) (H.get 0 rfl))), mk_bool⟩
 ·refine wp_skip (then_n (sq (reg (wl0 rfl (op_q hf (rq_loadBN hf H TF.la37 2 rfl rfl rfl rfl) rfl (by decide) fun a hf => ?_)))))
  refine wl0 rfl (op_q hf (rq_loadBN hf H TF.la112 1 rfl rfl rfl rfl) rfl (by decide) fun a hf => ?_)
  obtain ⟨y2, hy2, hF⟩ := bind_some hF
  refine wl0 rfl (op_call hf TF.cl215 rfl (by decide) (impl_withLight_ok (S := fun _ => True) (Plan_mkv (x := p) (rep_true (α := List ByteArray) (H.get 3 rfl)) (rep_true (α := List Fiber) (H.get 2 rfl)) (rep_true (α := List Light) (H.get 1 rfl))) (Light_mkv (x := x1) (rep_true (α := List Int) (H.get 0 rfl))) hy2) fun v2 w a hp2 hf => ?_)
  obtain ⟨hb2, F, hp3, hN⟩ := hp2
  obtain ⟨A5, c5, F2, A6, c6, F3, A7, c7, F4, rfl, rfl, hl5, hl6, hl7⟩ := Plan_vo hp3
  have H := H.addOwn hb2 (X := [(⟨F2, MP.own F2 [(.slice A5 y2.Network.Nodes.length c5)] (y2.Network.Nodes : List ByteArray)⟩ : DI), (⟨F3, MP.own F3 [(.slice A6 y2.Network.Fibers.length c6)] (y2.Network.Fibers : List Fiber)⟩ : DI), (⟨F4, MP.own F4 [(.slice A7 y2.Lights.length c7)] (y2.Lights : List Light)⟩ : DI)]) (by simpa using hN.1) (ps1 hl5 (ps1 hl6 (ps1 hl7 ps0))) (by simpa using hN.2)
  have H := H.lend 0 rfl
  have H := H.lend 1 rfl
  have H := H.lend 2 rfl
  obtain ⟨y3, hy3, hF⟩ := bind_some hF
  refine wl0 rfl (op_call hf TF.cl214 rfl (by decide) (impl_planIf_ok (Plan_mkv (x := y2) (H.get 2 rfl) (H.get 1 rfl) (H.get 0 rfl)) hy3) fun v3 w a hp4 hf => ?_)
  obtain ⟨hb3, v4, v5, rfl, hp5, hp6⟩ := hp4
  obtain ⟨A8, c8, A9, c9, A10, c10, rfl, hl8, hl9, hl10⟩ := Plan_open hp5
  replace hl8 := H.res (f := MP.val [(.slice A8 y3.1.Network.Nodes.length c8)] y3.1.Network.Nodes) hl8
  replace hl9 := H.res (f := MP.val [(.slice A9 y3.1.Network.Fibers.length c9)] y3.1.Network.Fibers) hl9
  replace hl10 := H.res (f := MP.val [(.slice A10 y3.1.Lights.length c10)] y3.1.Lights) hl10
  obtain rfl := VR_bool hp6
  have H := H.keep hb3
  have H := H.push (true, MP.val [(.slice A8 y3.1.Network.Nodes.length c8)] y3.1.Network.Nodes) hl8
  have H := H.push (true, MP.val [(.slice A9 y3.1.Network.Fibers.length c9)] y3.1.Network.Fibers) hl9
  have H := H.push (true, MP.val [(.slice A10 y3.1.Lights.length c10)] y3.1.Lights) hl10
  refine pr 2 hf rfl rfl fun a hf => ?_
  refine wl0 rfl (op_storeB hf H 0 TF.sz37 rfl rfl rfl rfl rfl rfl (nle rfl) fun w H => ?_)
  refine pr 1 hf rfl rfl fun a hf => ?_
  have hf := hf.prune [4, 5] rfl
  refine wl_end (then_n (wp_ret (?_)))
  obtain rfl := Option.some.inj hF
  refine ret_2 (fn := Tryz.f175) (r := .cell 4 37) (s := .tmp 5) hf rfl (rv_cellN hf H 0 TF.la37 rfl rfl rfl) (rv_tmp hf rfl) ?_
  exact ⟨_, rfl, H.bel, _, _, rfl, (Plan_mkv (x := y3.1) (rep_end (α := List ByteArray) (H.get 2 rfl)) (rep_end (α := List Fiber) (H.get 1 rfl)) (rep_end (α := List Light) (H.get 0 rfl))), mk_bool⟩

/- loop.example/g00897/impl.withoutLight -/
set_option maxHeartbeats 1000000 in
theorem impl_withoutLight_ok {fu : Nat} {w0 : World} {S : Nat → Prop} {v0_ : Value} {v1_ : Value} {p : Plan} {i : Int} {r : Plan} (h0 : VR w0 S v0_ p) (h1 : VR w0 S v1_ i) (hF : impl_withoutLight fu p i = some r) :
    Calls Tryz.prog 216 [v0_, v1_].toArray w0 fun e w' => ∃ v, e = .returned v ∧ (Below w0.heap.size w0 w' ∧ ∃ F0, VO w' F0 v r ∧ New w0 w' F0) := by
 obtain ⟨A, c, A2, c2, A3, c3, rfl, hl, hl2, hl3⟩ := Plan_open h0
 obtain rfl := VR_int h1
 have H := Mem.start ⟨w0, []⟩ S
 have H := H.pushArg (MP.val [(.slice A p.Network.Nodes.length c)] p.Network.Nodes) hl
 have H := H.pushArg (MP.val [(.slice A2 p.Network.Fibers.length c2)] p.Network.Fibers) hl2
 have H := H.pushArg (MP.val [(.slice A3 p.Lights.length c3)] p.Lights) hl3
 refine enter Tryz.func216 rfl rfl (nle rfl) rfl fun a hf => ?_
 rw [impl_withoutLight] at hF
 refine sq (reg (wl0 rfl (op_box hf H rfl rfl (by decide) fun b' a w hf H => ?_)))
 refine wl0 rfl (op_alloc hf H TF.zv37 rfl (by decide) fun b2 a w hf H => ?_)
 refine wl_end (then_n (sq (reg (wl0 rfl (op_q hf (rq_loadBN hf H TF.la37 1 rfl rfl rfl rfl) rfl (by decide) fun a hf => ?_)))))
 obtain ⟨y, hy, hF⟩ := bind_some hF
 refine wl0 rfl (op_call hf TF.cl86 rfl (by decide) (impl_copyPlan_ok (S := fun _ => True) (Plan_mkv (x := p) (rep_true (α := List ByteArray) (H.get 2 rfl)) (rep_true (α := List Fiber) (H.get 1 rfl)) (rep_true (α := List Light) (H.get 0 rfl))) hy) fun v w a hp hf => ?_)
 obtain ⟨hb, F, hp2, hN⟩ := hp
 obtain ⟨A4, c4, F2, A5, c5, F3, A6, c6, F4, rfl, rfl, hl4, hl5, hl6⟩ := Plan_vo hp2
 have H := H.addOwn hb (X := [(⟨F2, MP.own F2 [(.slice A4 y.Network.Nodes.length c4)] (y.Network.Nodes : List ByteArray)⟩ : DI), (⟨F3, MP.own F3 [(.slice A5 y.Network.Fibers.length c5)] (y.Network.Fibers : List Fiber)⟩ : DI), (⟨F4, MP.own F4 [(.slice A6 y.Lights.length c6)] (y.Lights : List Light)⟩ : DI)]) (by simpa using hN.1) (ps1 hl4 (ps1 hl5 (ps1 hl6 ps0))) (by simpa using hN.2)
 have H := H.lend 0 rfl
 have H := H.lend 1 rfl
 have H := H.lend 2 rfl
 refine wl0 rfl (op_alloc hf H TF.zv37 rfl (by decide) fun b3 a w hf H => ?_)
 refine wl0 rfl (op_storeB hf H 0 TF.sz37 rfl rfl rfl rfl rfl rfl (nle rfl) fun w H => ?_)
 refine wl_end (then_n (sq (reg (pr 1 hf rfl rfl fun a hf => ?_))))
 refine wl0 rfl (op_q hf (rq_loadB hf H TF.ls35 0 rfl rfl rfl) rfl (by decide) fun a hf => ?_)
 refine pr 3 hf rfl rfl fun a hf => ?_
 have H := H.frontD 2 rfl
 obtain ⟨Fs, E, H, -⟩ := H.thaw rfl
 have H := H.arg (p := MP.val [(.slice A p.Network.Nodes.length c)] p.Network.Nodes) hl
 have H := H.arg (p := MP.val [(.slice A2 p.Network.Fibers.length c2)] p.Network.Fibers) hl2
 have H := H.arg (p := MP.val [(.slice A3 p.Lights.length c3)] p.Lights) hl3
 have H := H.lend 0 rfl
 have H := H.lend 1 rfl
 obtain ⟨l, hl, hF⟩ := bind_some hF
 refine wl0 rfl (op_delR hf H TF.cl233 del_spec_233 rfl hl (by decide) fun Fs2 a w hf H => ?_)
 refine pr 1 hf rfl rfl fun a hf => ?_
 refine wl0 rfl (op_storeB hf H 0 TF.sz35 rfl rfl rfl rfl rfl rfl (nle rfl) fun w H => ?_)
 refine wl_end (then_n (sq (reg (wl0 rfl (op_q hf (rq_loadBN hf H TF.la37 0 rfl rfl rfl rfl) rfl (by decide) fun a hf => ?_)))))
 refine wl0 rfl (op_storeB hf H 1 TF.sz37 rfl rfl rfl rfl rfl rfl (nle rfl) fun w H => ?_)
 have hf := hf.prune [4] rfl
 refine wl_end (then_n (wp_ret (?_)))
 obtain ⟨F5, H⟩ := H.freezeOwn 0 rfl
 have H := H.lend 0 rfl
 have H := H.frontD 2 rfl
 have H := H.frontD 2 rfl
 obtain rfl := Option.some.inj hF
 refine ret_1 (fn := Tryz.f216) (r := .cell 4 37) hf rfl (rv_cellN hf H 1 TF.la37 rfl rfl rfl) ?_
 have hN := H.ends (X := [(⟨F2, MP.own F2 [(.slice A4 y.Network.Nodes.length c4)] (y.Network.Nodes : List ByteArray)⟩ : DI), (⟨F3, MP.own F3 [(.slice A5 y.Network.Fibers.length c5)] (y.Network.Fibers : List Fiber)⟩ : DI), (⟨F5, MP.own F5 [(.slice A6 l.length c6)] (l : List Light)⟩ : DI)])
 simp only [List.flatMap_cons, List.flatMap_nil, List.append_nil, List.append_assoc] at hN
 exact ⟨_, rfl, H.bel, (F2 ++ (F3 ++ F5)), ⟨_, Plan_ownmk (x := ({ Network := y.Network, Lights := l } : Plan)) (H.ownAt 0 rfl) (H.ownAt 1 rfl) (H.ownAt 2 rfl), rfl⟩, by first | exact hN | simpa using hN⟩

/- loop.example/g00897/impl.RemoveLight -/
set_option maxHeartbeats 1000000 in
theorem impl_RemoveLight_ok {fu : Nat} {w0 : World} {S : Nat → Prop} {v0_ : Value} {v1_ : Value} {p : Plan} {id : Int} {r : Plan × Bool} (h0 : VR w0 S v0_ p) (h1 : VR w0 S v1_ id) (hF : impl_RemoveLight fu p id = some r) :
    Calls Tryz.prog 176 [v0_, v1_].toArray w0 fun e w' => ∃ v, e = .returned v ∧ (Below w0.heap.size w0 w' ∧ ∃ F0, ∃ u0 u1, v = .tuple #[u0, u1] ∧ VO w' F0 u0 r.1 ∧ VR w' (St ⟨w0, []⟩ S [] [] [] true) u1 r.2 ∧ New w0 w' F0) := by
 obtain ⟨A, c, A2, c2, A3, c3, rfl, hl, hl2, hl3⟩ := Plan_open h0
 obtain rfl := VR_int h1
 have H := Mem.start ⟨w0, []⟩ S
 have H := H.pushArg (MP.val [(.slice A p.Network.Nodes.length c)] p.Network.Nodes) hl
 have H := H.pushArg (MP.val [(.slice A2 p.Network.Fibers.length c2)] p.Network.Fibers) hl2
 have H := H.pushArg (MP.val [(.slice A3 p.Lights.length c3)] p.Lights) hl3
 refine enter Tryz.func176 rfl rfl (nle rfl) rfl fun a hf => ?_
 rw [impl_RemoveLight] at hF
 refine sq (reg (wl0 rfl (op_box hf H rfl rfl (by decide) fun b' a w hf H => ?_)))
 refine wl0 rfl (op_alloc hf H TF.zv37 rfl (by decide) fun b2 a w hf H => ?_)
 refine pr 1 hf rfl rfl fun a hf => ?_
 refine wl_end (then_n (sq (reg (wl0 rfl (op_q hf (rq_loadBN hf H TF.la37 1 rfl rfl rfl rfl) rfl (by decide) fun a hf => ?_)))))
 refine pr 1 hf rfl rfl fun a hf => ?_
 obtain ⟨y, hy, hF⟩ := bind_some hF
 refine wl0 rfl (op_call hf TF.cl67 rfl (by decide) (impl_LightNumber_ok (S := fun _ => True) (Plan_mkv (x := p) (rep_true (α := List ByteArray) (H.get 2 rfl)) (rep_true (α := List Fiber) (H.get 1 rfl)) (rep_true (α := List Light) (H.get 0 rfl))) mk_int hy) fun v w a hp hf => ?_)
 obtain ⟨hb, v2, v3, rfl, hp2, hp3⟩ := hp
 obtain rfl := VR_int hp2
 obtain rfl := VR_bool hp3
 have H := H.keep hb
 refine pr 5 hf rfl rfl fun a hf => ?_
 refine wl_end (then_n (sq (sq (reg (pr 2 hf rfl rfl fun a hf => ?_)))))
 refine wl_end (then_n (iteB hF (fun hc hF => cd_t hf rfl hc ?_) fun hc hF => cd_f hf rfl hc ?_))
 ·refine sq (reg (wl0 rfl (op_q hf (rq_build hf (cs := [(.slice none 0 0), (.slice none 0 0), (.slice none 0 0)]) rfl (fun w => by kernel_rfl)) rfl (by decide) fun a hf => ?_)))
  refine wl0 rfl (op_storeB hf H 0 TF.sz37 rfl rfl rfl rfl rfl rfl (nle rfl) fun w H => ?_)
  refine pr 1 hf rfl rfl fun a hf => ?_
  have hf := hf.prune [4, 5] rfl
  refine wl_end (then_n (wp_ret (then_r (?_))))
  have H := H.ownNil (ByteArray)
  have H := H.lend 0 rfl
  have H := H.ownNil (Fiber)
  have H := H.lend 0 rfl
  have H := H.ownNil (Light)
  have H := H.lend 0 rfl
  have H := H.frontD 1 rfl
  have H := H.frontD 2 rfl
  obtain rfl := Option.some.inj hF
  refine ret_2 (fn := Tryz.f176) (r := .cell 4 37) (s := .tmp 5) hf rfl (rv_cellN hf H 0 TF.la37 rfl rfl rfl) (rv_tmp hf rfl) ?_
  have hN := H.ends (X := [(⟨[], MP.own [] [(.slice none 0 0)] ([] : List ByteArray)⟩ : DI), (⟨[], MP.own [] [(.slice none 0 0)] ([] : List Fiber)⟩ : DI), (⟨[], MP.own [] [(.slice none 0 0)] ([] : List Light)⟩ : DI)])
  simp only [List.flatMap_cons, List.flatMap_nil, List.append_nil, List.append_assoc] at hN
  exact ⟨_, rfl, H.bel, ([] ++ ([] ++ [])), _, _, rfl, ⟨_, Plan_ownmk (x := ({ Network := ({ Nodes := [], Fibers := [] } : Network), Lights := [] } : Plan)) (H.ownAt 0 rfl) (H.ownAt 1 rfl) (H.ownAt 2 rfl), rfl⟩, mk_bool, by first | exact hN | simpa using hN⟩
 ·refine wp_skip (then_n (sq (reg (wl0 rfl (op_q hf (rq_loadBN hf H TF.la37 1 rfl rfl rfl rfl) rfl (by decide) fun a hf => ?_)))))
  refine pr 1 hf rfl rfl fun a hf => ?_
  obtain ⟨y2, hy2, hF⟩ := bind_some hF
  refine wl0 rfl (op_call hf TF.cl216 rfl (by decide) (impl_withoutLight_ok (S := fun _ => True) (Plan_mkv (x := p) (rep_true (α := List ByteArray) (H.get 2 rfl)) (rep_true (α := List Fiber) (H.get 1 rfl)) (rep_true (α := List Light) (H.get 0 rfl))) mk_int hy2) fun v4 w a hp4 hf => ?_)
  obtain ⟨hb2, F, hp5, hN⟩ := hp4
  obtain ⟨A4, c4, F2, A5, c5, F3, A6, c6, F4, rfl, rfl, hl4, hl5, hl6⟩ := Plan_vo hp5
  have H := H.addOwn hb2 (X := [(⟨F2, MP.own F2 [(.slice A4 y2.Network.Nodes.length c4)] (y2.Network.Nodes : List ByteArray)⟩ : DI), (⟨F3, MP.own F3 [(.slice A5 y2.Network.Fibers.length c5)] (y2.Network.Fibers : List Fiber)⟩ : DI), (⟨F4, MP.own F4 [(.slice A6 y2.Lights.length c6)] (y2.Lights : List Light)⟩ : DI)]) (by simpa using hN.1) (ps1 hl4 (ps1 hl5 (ps1 hl6 ps0))) (by simpa using hN.2)
  have H := H.lend 0 rfl
  have H := H.lend 1 rfl
  have H := H.lend 2 rfl
  refine wl0 rfl (op_storeB hf H 0 TF.sz37 rfl rfl rfl rfl rfl rfl (nle rfl) fun w H => ?_)
  refine pr 1 hf rfl rfl fun a hf => ?_
  have hf := hf.prune [4, 5] rfl
  refine wl_end (then_n (wp_ret (?_)))
  have H := H.frontD 2 rfl
  have H := H.frontD 2 rfl
  have H := H.frontD 2 rfl
  obtain rfl := Option.some.inj hF
  refine ret_2 (fn := Tryz.f176) (r := .cell 4 37) (s := .tmp 5) hf rfl (rv_cellN hf H 0 TF.la37 rfl rfl rfl) (rv_tmp hf rfl) ?_
  have hN := H.ends (X := [(⟨F2, MP.own F2 [(.slice A4 y2.Network.Nodes.length c4)] (y2.Network.Nodes : List ByteArray)⟩ : DI), (⟨F3, MP.own F3 [(.slice A5 y2.Network.Fibers.length c5)] (y2.Network.Fibers : List Fiber)⟩ : DI), (⟨F4, MP.own F4 [(.slice A6 y2.Lights.length c6)] (y2.Lights : List Light)⟩ : DI)])
  simp only [List.flatMap_cons, List.flatMap_nil, List.append_nil, List.append_assoc] at hN
  exact ⟨_, rfl, H.bel, (F2 ++ (F3 ++ F4)), _, _, rfl, ⟨_, Plan_ownmk (x := y2) (H.ownAt 0 rfl) (H.ownAt 1 rfl) (H.ownAt 2 rfl), rfl⟩, mk_bool, by first | exact hN | simpa using hN⟩

/- loop.example/g00897/impl.MoveLight -/
set_option maxHeartbeats 1000000 in
theorem impl_MoveLight_ok {fu : Nat} {w0 : World} {S : Nat → Prop} {v0_ : Value} {v1_ : Value} {v2_ : Value} {v3_ : Value} {p : Plan} {id : Int} {r' : Route} {b' : Block} {r : Plan × Bool} (h0 : VR w0 S v0_ p) (h1 : VR w0 S v1_ id) (h2 : VR w0 S v2_ r') (h3 : VR w0 S v3_ b') (hF : impl_MoveLight fu p id r' b' = some r) :
    Calls Tryz.prog 177 [v0_, v1_, v2_, v3_].toArray w0 fun e w' => ∃ v, e = .returned v ∧ (Below w0.heap.size w0 w' ∧ ∃ u0 u1, v = .tuple #[u0, u1] ∧ VR w' (St ⟨w0, []⟩ S [] [] [] true) u0 r.1 ∧ VR w' (St ⟨w0, []⟩ S [] [] [] true) u1 r.2) := by
 obtain ⟨A, c, A2, c2, A3, c3, rfl, hl, hl2, hl3⟩ := Plan_open h0
 obtain rfl := VR_int h1
 obtain ⟨A4, c4, rfl, hl4⟩ := Route_open h2
 obtain rfl := Block_open h3
 have H := Mem.start ⟨w0, []⟩ S
 have H := H.pushArg (MP.val [(.slice A p.Network.Nodes.length c)] p.Network.Nodes) hl
 have H := H.pushArg (MP.val [(.slice A2 p.Network.Fibers.length c2)] p.Network.Fibers) hl2
 have H := H.pushArg (MP.val [(.slice A3 p.Lights.length c3)] p.Lights) hl3
 have H := H.pushArg (MP.val [(.slice A4 r'.Fibers.length c4)] r'.Fibers) hl4
 refine enter Tryz.func177 rfl rfl (nle rfl) rfl fun a hf => ?_
 rw [impl_MoveLight] at hF
 refine sq (reg (wl0 rfl (op_box hf H rfl rfl (by decide) fun b2 a w hf H => ?_)))
 refine wl0 rfl (op_box hf H rfl rfl (by decide) fun b3 a w hf H => ?_)
 refine wl0 rfl (op_box hf H rfl rfl (by decide) fun b4 a w hf H => ?_)
 refine wl0 rfl (op_alloc hf H TF.zv37 rfl (by decide) fun b5 a w hf H => ?_)
 refine pr 1 hf rfl rfl fun a hf => ?_
 refine wl_end (then_n (sq (reg (wl0 rfl (op_q hf (rq_loadBN hf H TF.la37 3 rfl rfl rfl rfl) rfl (by decide) fun a hf => ?_)))))
 refine pr 1 hf rfl rfl fun a hf => ?_
 obtain ⟨y, hy, hF⟩ := bind_some hF
 refine wl0 rfl (op_call hf TF.cl67 rfl (by decide) (impl_LightNumber_ok (S := fun _ => True) (Plan_mkv (x := p) (rep_true (α := List ByteArray) (H.get 3 rfl)) (rep_true (α := List Fiber) (H.get 2 rfl)) (rep_true (α := List Light) (H.get 1 rfl))) mk_int hy) fun v w a hp hf => ?_)
 obtain ⟨hb, v2, v3, rfl, hp2, hp3⟩ := hp
 obtain rfl := VR_int hp2
 obtain rfl := VR_bool hp3
 have H := H.keep hb
 refine pr 5 hf rfl rfl fun a hf => ?_
 refine wl_end (then_n (sq (sq (reg (pr 2 hf rfl rfl fun a hf => ?_)))))
 refine wl_end (then_n (iteB hF (fun hc hF => cd_t hf rfl hc ?_) fun hc hF => cd_f hf rfl hc ?_))
 ·refine sq (reg (wl0 rfl (op_q hf (rq_build hf (cs := [(.slice none 0 0), (.slice none 0 0), (.slice none 0 0)]) rfl (fun w => by kernel_rfl)) rfl (by decide) fun a hf => ?_)))
  refine wl0 rfl (op_storeB hf H 0 TF.sz37 rfl rfl rfl rfl rfl rfl (nle rfl) fun w H => ?_)
  refine pr 1 hf rfl rfl fun a hf => ?_
  have hf := hf.prune [8, 9] rfl
  refine wl_end (then_n (wp_ret (then_r (?_))))
  have H := H.pushNil (ByteArray) true
  have H := H.pushNil (Fiber) true
  have H := H.pushNil (Light) true
  obtain rfl := Option.some.inj hF
  refine ret_2 (fn := Tryz.f177) (r := .cell 8 37) (s := .tmp 9) hf rfl (rv_cellN hf H 0 TF.la37 rfl rfl rfl) (rv_tmp hf rfl) ?_
  exact ⟨_, rfl, H.bel, _, _, rfl, (Plan_mkv (x := ({ Network := ({ Nodes := [], Fibers := [] } : Network), Lights := [] } : Plan)) (rep_end (α := List ByteArray) (H.get 2 rfl)) (rep_end (α := List Fiber) (H.get 1 rfl)) (rep_end (α := List Light) (H.get 0 rfl))), mk_bool⟩
 ·refine wp_skip (then_n (sq (reg (wl0 rfl (op_q hf (rq_loadBN hf H TF.la37 3 rfl rfl rfl rfl) rfl (by decide) fun a hf => ?_)))))
  obtain ⟨y2, hy2, hF⟩ := bind_some hF
  refine wl0 rfl (op_call hf TF.cl86 rfl (by decide) (impl_copyPlan_ok (S := fun _ => True) (Plan_mkv (x := p) (rep_true (α := List ByteArray) (H.get 3 rfl)) (rep_true (α := List Fiber) (H.get 2 rfl)) (rep_true (α := List Light) (H.get 1 rfl))) hy2) fun v4 w a hp4 hf => ?_)
  obtain ⟨hb2, F, hp5, hN⟩ := hp4
  obtain ⟨A5, c5, F2, A6, c6, F3, A7, c7, F4, rfl, rfl, hl5, hl6, hl7⟩ := Plan_vo hp5
  have H := H.addOwn hb2 (X := [(⟨F2, MP.own F2 [(.slice A5 y2.Network.Nodes.length c5)] (y2.Network.Nodes : List ByteArray)⟩ : DI), (⟨F3, MP.own F3 [(.slice A6 y2.Network.Fibers.length c6)] (y2.Network.Fibers : List Fiber)⟩ : DI), (⟨F4, MP.own F4 [(.slice A7 y2.Lights.length c7)] (y2.Lights : List Light)⟩ : DI)]) (by simpa using hN.1) (ps1 hl5 (ps1 hl6 (ps1 hl7 ps0))) (by simpa using hN.2)
  have H := H.lend 0 rfl
  have H := H.lend 1 rfl
  have H := H.lend 2 rfl
  have H := H.frontD 2 rfl
  obtain ⟨Fs, E, H, -⟩ := H.thaw rfl
  have H := H.arg (p := MP.val [(.slice A p.Network.Nodes.length c)] p.Network.Nodes) hl
  have H := H.arg (p := MP.val [(.slice A2 p.Network.Fibers.length c2)] p.Network.Fibers) hl2
  have H := H.arg (p := MP.val [(.slice A3 p.Lights.length c3)] p.Lights) hl3
  have H := H.arg (p := MP.val [(.slice A4 r'.Fibers.length c4)] r'.Fibers) hl4
  have H := H.lend 0 rfl
  have H := H.lend 1 rfl
  have H := H.rowSh 0 rfl
  refine wl0 rfl (op_alloc hf H TF.zv37 rfl (by decide) fun b6 a w hf H => ?_)
  refine wl0 rfl (op_storeB hf H 0 TF.sz37 rfl rfl rfl rfl rfl rfl (nle rfl) fun w H => ?_)
  have hf := hf.prune [1, 6, 7, 8, 10, 12] rfl
  refine wl_end (then_n (sq (drawn [9] (bs := [false, false, false, false, false, false, false, false, false, false]) (fuel := 10) (Checked.mixed Tryz.checked) rfl rfl fun w hb => ?_)))
  have H := H.keep hb
  refine tp 0 rfl rfl hf (by kernel_rfl) (fun _ => trivial) rfl fun a hf => ?_
  refine strT (H.let [true, false, false, false, false] [false] [false, false] [] rfl rfl rfl rfl) (fun w H => trivial) fun hS => ?_
  refine tS 1 [1, 8, 9] rfl rfl rfl rfl hf (by kernel_rfl) (by kernel_rfl) hS (fun w H => rq_loadB hf H TF.ls35 0 rfl rfl rfl) fun a hf => ?_
  refine tp 2 rfl rfl hf (by kernel_rfl) (fun _ => hS) rfl fun a hf => ?_
  refine tp 3 rfl rfl hf (by kernel_rfl) (fun _ => hS) rfl fun a hf => ?_
  refine strT (H.let [true, false, false, true, false] [false] [false, false] [] rfl rfl rfl rfl) (fun w H => H.let [true, false] [] [] [] rfl rfl rfl rfl) fun hS => ?_
  refine tS 4 [4, 5, 7, 8, 9] rfl rfl rfl rfl hf (by kernel_rfl) (by kernel_rfl) hS (fun w H => rq_loadBN hf H TF.la108 1 rfl rfl rfl rfl) fun a hf => ?_
  refine strT (H.let [true, false, true, true, false] [false] [false, false] [] rfl rfl rfl rfl) (fun w H => H.let [true, false, true] [] [] [] rfl rfl rfl rfl) fun hS => ?_
  refine tS 6 [6, 7, 8, 9] rfl rfl rfl rfl hf (by kernel_rfl) (by kernel_rfl) hS (fun w H => rq_loadBN hf H TF.la110 1 rfl rfl rfl rfl) fun a hf => ?_
  obtain ⟨y3, hy3, hF⟩ := bind_some hF
  refine n1 5 (by kernel_rfl) rfl rfl (op_call hf TF.cl152 rfl (by decide) (impl_copyRoute_ok (S := fun _ => True) (Route_mkv (x := r') (rep_true (α := List Int) (H.get 2 rfl))) hy3) fun v5 w a hp6 hf => ?_)
  obtain ⟨hb3, F5, hp7, hN2⟩ := hp6
  obtain ⟨A8, c8, F6, rfl, rfl, hl8⟩ := Route_vo hp7
  have H := H.addOwn hb3 (X := [(⟨F6, MP.own F6 [(.slice A8 y3.Fibers.length c8)] (y3.Fibers : List Int)⟩ : DI)]) (by simpa using hN2.1) (ps1 hl8 ps0) (by simpa using hN2.2)
  have H := H.lend 0 rfl
  have hS := H.let [true, false, true, true, false] [false] [false, false, false] [] rfl rfl rfl rfl
  refine ⟨fun _ => hS, ?_⟩
  refine tP 7 rfl rfl rfl rfl hf (by kernel_rfl) (fun _ => hS) (fun w => rq_build hf (cs := [(.int .i64 id), (.int .i64 y3.Start), (.slice A8 y3.Fibers.length c8), (.int .i64 b'.First), (.int .i64 b'.Count)]) rfl (fun w => by kernel_rfl)) fun a hf => ?_
  obtain ⟨e, he, hF⟩ := bind_some hF
  refine n1 8 (by kernel_rfl) rfl rfl (op_iaddrR hf H Tryz.underlying35 TF.sz112 0 rfl rfl rfl he (by decide) fun p2 o cs a hf hA hr hk => ?_)
  obtain ⟨A9, c9, rfl, hl9⟩ := Light_cells hr
  have H := H.push (true, MP.val [(.slice A9 e.Route.Fibers.length c9)] e.Route.Fibers) hl9
  have hS := H.let [true, false, true, true, false] [false] [false, false, false] [] rfl rfl rfl rfl
  refine ⟨fun _ => hS, ?_⟩
  refine n1 9 (by kernel_rfl) rfl rfl (op_storeR (e' := ({ Id := id, Route := y3, Block := b' } : Light)) (o := o) (off := 0) hf H TF.sz112 0 rfl rfl rfl rfl rfl (nle rfl) rfl hA he (st_full (Light_mk (x := ({ Id := id, Route := y3, Block := b' } : Light)) (H.get 1 rfl))) fun w H => ?_)
  replace hf : Fr a 37 [(1, (.int .i64 id)), (6, (.pointer (some ⟨b3, 0, none⟩))), (7, (.pointer (some ⟨b4, 0, none⟩))), (8, (.pointer (some ⟨b5, 0, none⟩))), (10, (.int .i64 y.1)), (12, (.pointer (some ⟨b6, 0, none⟩))), (24, (.pointer (some ⟨b6, 2, none⟩))), (25, (.slice A7 y2.Lights.length c7)), (26, (.int .i64 y.1)), (27, (.int .i64 id)), (28, (.agg #[(.int .i64 r'.Start), (.slice A4 r'.Fibers.length c4)])), (29, (.agg #[(.int .i64 y3.Start), (.slice A8 y3.Fibers.length c8)])), (30, (.agg #[(.int .i64 b'.First), (.int .i64 b'.Count)])), (31, (.agg #[(.int .i64 id), (.int .i64 y3.Start), (.slice A8 y3.Fibers.length c8), (.int .i64 b'.First), (.int .i64 b'.Count)])), (32, (.pointer (some ⟨p2, o + 0, none⟩)))] := hf.prune [1, 6, 7, 8, 10, 12, 24, 25, 26, 27, 28, 29, 30, 31, 32] rfl
  replace hf : Fr a 37 [(1, (.int .i64 id)), (6, (.pointer (some ⟨b3, 0, none⟩))), (7, (.pointer (some ⟨b4, 0, none⟩))), (8, (.pointer (some ⟨b5, 0, none⟩))), (10, (.int .i64 y.1)), (12, (.pointer (some ⟨b6, 0, none⟩))), (24, (.pointer (some ⟨b6, 2, none⟩))), (25, (.slice A7 (y2.Lights.set (y.1).toNat ({ Id := id, Route := y3, Block := b' } : Light)).length c7)), (26, (.int .i64 y.1)), (27, (.int .i64 id)), (28, (.agg #[(.int .i64 r'.Start), (.slice A4 r'.Fibers.length c4)])), (29, (.agg #[(.int .i64 y3.Start), (.slice A8 y3.Fibers.length c8)])), (30, (.agg #[(.int .i64 b'.First), (.int .i64 b'.Count)])), (31, (.agg #[(.int .i64 id), (.int .i64 y3.Start), (.slice A8 y3.Fibers.length c8), (.int .i64 b'.First), (.int .i64 b'.Count)])), (32, (.pointer (some ⟨p2, o + 0, none⟩)))] := by simpa only [List.length_set, Nat.add_zero] using hf
  replace H : Mem ⟨w0, []⟩ S [⟨b6, 37, [(.slice A5 y2.Network.Nodes.length c5), (.slice A6 y2.Network.Fibers.length c6), (.slice A7 (y2.Lights.set (y.1).toNat ({ Id := id, Route := y3, Block := b' } : Light)).length c7)]⟩, ⟨b5, 37, [(.slice none 0 0), (.slice none 0 0), (.slice none 0 0)]⟩, ⟨b4, 110, [(.int .i64 b'.First), (.int .i64 b'.Count)]⟩, ⟨b3, 108, [(.int .i64 r'.Start), (.slice A4 r'.Fibers.length c4)]⟩, ⟨b2, 37, [(.slice A p.Network.Nodes.length c), (.slice A2 p.Network.Fibers.length c2), (.slice A3 p.Lights.length c3)]⟩] [⟨.sh true, E, A7, c7, (y2.Lights.set (y.1).toNat ({ Id := id, Route := y3, Block := b' } : Light) : List Light)⟩] [⟨F6, MP.own F6 [(.slice A8 y3.Fibers.length c8)] (y3.Fibers : List Int)⟩, ⟨F2, MP.own F2 [(.slice A5 y2.Network.Nodes.length c5)] (y2.Network.Nodes : List ByteArray)⟩, ⟨F3, MP.own F3 [(.slice A6 y2.Network.Fibers.length c6)] (y2.Network.Fibers : List Fiber)⟩] [(true, MP.val [(.slice A9 e.Route.Fibers.length c9)] (e.Route.Fibers : List Int)), (true, MP.val [(.slice A8 y3.Fibers.length c8)] (y3.Fibers : List Int)), (true, MP.val [(.slice A6 y2.Network.Fibers.length c6)] (y2.Network.Fibers : List Fiber)), (true, MP.val [(.slice A5 y2.Network.Nodes.length c5)] (y2.Network.Nodes : List ByteArray)), (false, MP.val [(.slice A4 r'.Fibers.length c4)] (r'.Fibers : List Int)), (false, MP.val [(.slice A3 p.Lights.length c3)] (p.Lights : List Light)), (false, MP.val [(.slice A2 p.Network.Fibers.length c2)] (p.Network.Fibers : List Fiber)), (false, MP.val [(.slice A p.Network.Nodes.length c)] (p.Network.Nodes : List ByteArray))] w := by simp only [List.length_set]; exact H
  refine ⟨fun h => absurd h (by decide), ?_⟩
  refine dn (by kernel_rfl) ?_
  have hf := hf.prune [8, 12] rfl
  refine then_n (sq (reg (wl0 rfl (op_q hf (rq_loadBN hf H TF.la37 0 rfl rfl rfl rfl) rfl (by decide) fun a hf => ?_))))
  have H := H.freeze 0 rfl
  obtain ⟨y4, hy4, hF⟩ := bind_some hF
  refine wl0 rfl (op_call hf TF.cl214 rfl (by decide) (impl_planIf_ok (Plan_mkv (x := ({ Network := y2.Network, Lights := y2.Lights.set (y.1).toNat ({ Id := id, Route := y3, Block := b' } : Light) } : Plan)) (H.get 4 rfl) (H.get 3 rfl) (H.get 0 rfl)) hy4) fun v6 w a hp8 hf => ?_)
  obtain ⟨hb4, v7, v8, rfl, hp9, hp10⟩ := hp8
  obtain ⟨A10, c10, A11, c11, A12, c12, rfl, hl10, hl11, hl12⟩ := Plan_open hp9
  replace hl10 := H.res (f := MP.val [(.slice A10 y4.1.Network.Nodes.length c10)] y4.1.Network.Nodes) hl10
  replace hl11 := H.res (f := MP.val [(.slice A11 y4.1.Network.Fibers.length c11)] y4.1.Network.Fibers) hl11
  replace hl12 := H.res (f := MP.val [(.slice A12 y4.1.Lights.length c12)] y4.1.Lights) hl12
  obtain rfl := VR_bool hp10
  have H := H.keep hb4
  have H := H.push (true, MP.val [(.slice A10 y4.1.Network.Nodes.length c10)] y4.1.Network.Nodes) hl10
  have H := H.push (true, MP.val [(.slice A11 y4.1.Network.Fibers.length c11)] y4.1.Network.Fibers) hl11
  have H := H.push (true, MP.val [(.slice A12 y4.1.Lights.length c12)] y4.1.Lights) hl12
  refine pr 2 hf rfl rfl fun a hf => ?_
  refine wl0 rfl (op_storeB hf H 1 TF.sz37 rfl rfl rfl rfl rfl rfl (nle rfl) fun w H => ?_)
  refine pr 1 hf rfl rfl fun a hf => ?_
  refine wl_end (then_n (wp_ret (?_)))
  obtain rfl := Option.some.inj hF
  refine ret_2 (fn := Tryz.f177) (r := .cell 8 37) (s := .tmp 9) hf rfl (rv_cellN hf H 1 TF.la37 rfl rfl rfl) (rv_tmp hf rfl) ?_
  exact ⟨_, rfl, H.bel, _, _, rfl, (Plan_mkv (x := y4.1) (rep_end (α := List ByteArray) (H.get 2 rfl)) (rep_end (α := List Fiber) (H.get 1 rfl)) (rep_end (α := List Light) (H.get 0 rfl))), mk_bool⟩

/- loop.example/g00897/impl.ApplyAction -/
set_option maxHeartbeats 1000000 in
theorem impl_ApplyAction_ok {fu : Nat} {w0 : World} {S : Nat → Prop} {v0_ : Value} {v1_ : Value} {p : Plan} {a' : Action} {r : Plan × Bool} (h0 : VR w0 S v0_ p) (h1 : VR w0 S v1_ a') (hF : impl_ApplyAction fu p a' = some r) :
    Calls Tryz.prog 113 [v0_, v1_].toArray w0 fun e w' => ∃ v, e = .returned v ∧ (Below w0.heap.size w0 w' ∧ ∃ u0 u1, v = .tuple #[u0, u1] ∧ VR w' (St ⟨w0, []⟩ S [] [] [] true) u0 r.1 ∧ VR w' (St ⟨w0, []⟩ S [] [] [] true) u1 r.2) := by
 obtain ⟨A, c, A2, c2, A3, c3, rfl, hl, hl2, hl3⟩ := Plan_open h0
 obtain ⟨A4, c4, rfl, hl4⟩ := Action_open h1
 have H := Mem.start ⟨w0, []⟩ S
 have H := H.pushArg (MP.val [(.slice A p.Network.Nodes.length c)] p.Network.Nodes) hl
 have H := H.pushArg (MP.val [(.slice A2 p.Network.Fibers.length c2)] p.Network.Fibers) hl2
 have H := H.pushArg (MP.val [(.slice A3 p.Lights.length c3)] p.Lights) hl3
 have H := H.pushArg (MP.val [(.slice A4 a'.Light.Route.Fibers.length c4)] a'.Light.Route.Fibers) hl4
 refine enter Tryz.func113 rfl rfl (nle rfl) rfl fun a hf => ?_
 rw [impl_ApplyAction] at hF
 refine sq (reg (wl0 rfl (op_box hf H rfl rfl (by decide) fun b' a w hf H => ?_)))
 refine wl0 rfl (op_box hf H rfl rfl (by decide) fun b2 a w hf H => ?_)
 refine wl0 rfl (op_alloc hf H TF.zv37 rfl (by decide) fun b3 a w hf H => ?_)
 refine pr 1 hf rfl rfl fun a hf => ?_
 refine wl_end (then_n (sq (sq (reg (pr 1 hf rfl rfl fun a hf => ?_)))))
 refine wl0 rfl (op_q hf (rq_loadB hf H TF.ls3 1 rfl rfl rfl) rfl (by decide) fun a hf => ?_)
 refine wl_end (then_n (wp_block (sq (reg (pr 2 hf rfl rfl fun a hf => ?_)))))
 refine wl_end (then_n (iteB hF (fun hc hF => cd_t hf rfl hc ?_) fun hc hF => cd_f hf rfl hc ?_))
 ·refine sq (reg (wl0 rfl (op_q hf (rq_loadBN hf H TF.la37 2 rfl rfl rfl rfl) rfl (by decide) fun a hf => ?_)))
  refine pr 1 hf rfl rfl fun a hf => ?_
  refine wl0 rfl (op_q hf (rq_loadBN hf H TF.la112 1 rfl rfl rfl rfl) rfl (by decide) fun a hf => ?_)
  obtain ⟨y, hy, hF⟩ := bind_some hF
  refine wl0 rfl (op_call hf TF.cl175 rfl (by decide) (impl_AddLight_ok (S := fun _ => True) (Plan_mkv (x := p) (rep_true (α := List ByteArray) (H.get 3 rfl)) (rep_true (α := List Fiber) (H.get 2 rfl)) (rep_true (α := List Light) (H.get 1 rfl))) (Light_mkv (x := a'.Light) (rep_true (α := List Int) (H.get 0 rfl))) hy) fun v w a hp hf => ?_)
  obtain ⟨hb, v2, v3, rfl, hp2, hp3⟩ := hp
  obtain ⟨A5, c5, A6, c6, A7, c7, rfl, hl5, hl6, hl7⟩ := Plan_open hp2
  replace hl5 := H.resF (f := MP.val [(.slice A5 y.1.Network.Nodes.length c5)] y.1.Network.Nodes) hl5
  replace hl6 := H.resF (f := MP.val [(.slice A6 y.1.Network.Fibers.length c6)] y.1.Network.Fibers) hl6
  replace hl7 := H.resF (f := MP.val [(.slice A7 y.1.Lights.length c7)] y.1.Lights) hl7
  obtain rfl := VR_bool hp3
  have H := H.keep hb
  have H := H.push (true, MP.val [(.slice A5 y.1.Network.Nodes.length c5)] y.1.Network.Nodes) hl5
  have H := H.push (true, MP.val [(.slice A6 y.1.Network.Fibers.length c6)] y.1.Network.Fibers) hl6
  have H := H.push (true, MP.val [(.slice A7 y.1.Lights.length c7)] y.1.Lights) hl7
  refine pr 2 hf rfl rfl fun a hf => ?_
  refine wl0 rfl (op_storeB hf H 0 TF.sz37 rfl rfl rfl rfl rfl rfl (nle rfl) fun w H => ?_)
  refine pr 1 hf rfl rfl fun a hf => ?_
  have hf := hf.prune [4, 5] rfl
  refine wl_end (then_n (wp_ret (blk_r (then_r (?_)))))
  obtain rfl := Option.some.inj hF
  refine ret_2 (fn := Tryz.f113) (r := .cell 4 37) (s := .tmp 5) hf rfl (rv_cellN hf H 0 TF.la37 rfl rfl rfl) (rv_tmp hf rfl) ?_
  exact ⟨_, rfl, H.bel, _, _, rfl, (Plan_mkv (x := y.1) (rep_end (α := List ByteArray) (H.get 2 rfl)) (rep_end (α := List Fiber) (H.get 1 rfl)) (rep_end (α := List Light) (H.get 0 rfl))), mk_bool⟩
 ·refine sq (reg (pr 2 hf rfl rfl fun a hf => ?_))
  refine wl_end (then_n (iteB hF (fun hc2 hF => cd_t hf rfl hc2 ?_) fun hc2 hF => cd_f hf rfl hc2 ?_))
  ·refine sq (reg (wl0 rfl (op_q hf (rq_loadBN hf H TF.la37 2 rfl rfl rfl rfl) rfl (by decide) fun a hf => ?_)))
   refine pr 2 hf rfl rfl fun a hf => ?_
   refine wl0 rfl (op_q hf (rq_loadB hf H TF.ls3 1 rfl rfl rfl) rfl (by decide) fun a hf => ?_)
   obtain ⟨y2, hy2, hF⟩ := bind_some hF
   refine wl0 rfl (op_call hf TF.cl102 rfl (by decide) (impl_lightAt_ok (S := fun _ => True) (Plan_mkv (x := p) (rep_true (α := List ByteArray) (H.get 3 rfl)) (rep_true (α := List Fiber) (H.get 2 rfl)) (rep_true (α := List Light) (H.get 1 rfl))) mk_int hy2) fun v4 w a hp4 hf => ?_)
   obtain ⟨hb2, hp4⟩ := hp4
   obtain rfl := VR_int hp4
   have H := H.keep hb2
   refine pr 1 hf rfl rfl fun a hf => ?_
   have hf := hf.prune [2, 3, 4, 6] rfl
   refine wl_end (then_n (sq ?_))
   obtain ⟨c8, hGc8, hF⟩ := bind_some hF
   have fh := hf.prune [2, 3, 4] rfl
   have Hm := H.let [true, true, true] [] [] [0, 1, 2, 3] rfl rfl rfl rfl
   refine midF 35 (.bool c8) fh Hm ?_ fun a w hf H => ?_
   ·refine drawn [] (bs := [false, false, false, false, false, false, false, false, false, false, false, false]) (fuel := 12) (Checked.mixed Tryz.checked) rfl rfl fun w hb => ?_
    have H := H.keep hb
    refine tp 0 rfl rfl hf (by kernel_rfl) (fun _ => trivial) rfl fun a hf => ?_
    refine tp 1 rfl rfl hf (by kernel_rfl) (fun _ => trivial) rfl fun a hf => ?_
    refine tp 2 rfl rfl hf (by kernel_rfl) (fun _ => trivial) rfl fun a hf => ?_
    refine iteB hGc8 (fun hc3 hGc8 => ?_) fun hc3 hGc8 => ?_
    ·have hf := hf.lit 26 rfl hc3
     refine tpg 3 rfl rfl rfl rfl hf (by kernel_rfl) (fun _ => trivial) rfl fun a hf => ?_
     refine strT (H.let [false, false, true] [] [] [] rfl rfl rfl rfl) (fun w H => trivial) fun hS => ?_
     refine tSg 4 [] rfl rfl rfl rfl rfl rfl hf (by kernel_rfl) (by kernel_rfl) hS (fun w H => rq_loadB hf H TF.ls35 0 rfl rfl rfl) fun a hf => ?_
     refine tpg 5 rfl rfl rfl rfl hf (by kernel_rfl) (fun _ => hS) rfl fun a hf => ?_
     obtain ⟨e, he, hGc8⟩ := bind_some hGc8
     obtain ⟨p2, o, cs, hx, hr, H⟩ := pre_iaddr H Tryz.underlying35 TF.sz112 1 rfl he
     refine tPg 6 rfl rfl rfl rfl rfl rfl hf (by kernel_rfl) (fun _ => hS) (fun w => rq_iaddrE hf rfl rfl rfl hx w) fun a hf => ?_
     obtain ⟨A8, c9, rfl, hl8⟩ := Light_cells hr
     have H := H.push (false, MP.val [(.slice A8 e.Route.Fibers.length c9)] e.Route.Fibers) hl8
     refine strT (H.let [false, false, true] [] [] [1] rfl rfl rfl rfl) (fun w H => H.let [true] [] [] [] rfl rfl rfl rfl) fun hS => ?_
     refine tSg 7 [] rfl rfl rfl rfl rfl rfl hf (by kernel_rfl) (by kernel_rfl) hS (fun w H => rq_loadIN hf H TF.la112 0 0 rfl rfl rfl rfl) fun a hf => ?_
     refine tpg 8 rfl rfl rfl rfl hf (by kernel_rfl) (fun _ => hS) rfl fun a hf => ?_
     refine strT (H.let [false, true, true] [] [] [1] rfl rfl rfl rfl) (fun w H => H.let [false, true] [] [] [0] rfl rfl rfl rfl) fun hS => ?_
     refine tSg 9 [] rfl rfl rfl rfl rfl rfl hf (by kernel_rfl) (by kernel_rfl) hS (fun w H => rq_loadBN hf H TF.la112 0 rfl rfl rfl rfl) fun a hf => ?_
     obtain ⟨y3, hy3, hGc8⟩ := bind_some hGc8
     refine n1g 10 (by kernel_rfl) rfl rfl rfl rfl hf (op_call hf TF.cl103 rfl (by decide) (impl_equalLights_ok (S := fun _ => True) (Light_mkv (x := e) (rep_true (α := List Int) (H.get 0 rfl))) (Light_mkv (x := a'.Light) (rep_true (α := List Int) (H.get 2 rfl))) hy3) fun v5 w a hp5 hf => ?_)
     obtain ⟨hb3, hp5⟩ := hp5
     obtain rfl := VR_bool hp5
     have H := H.keep hb3
     have hS := H.let [false, true, true] [] [] [1] rfl rfl rfl rfl
     refine ⟨fun _ => hS, ?_⟩
     refine tp 11 rfl rfl hf (by kernel_rfl) (fun _ => hS) rfl fun a hf => ?_
     refine dn (by kernel_rfl) ?_
     obtain rfl := Option.some.inj hGc8
     have hf := hf.prune [35, 2, 3, 4] rfl
     have H := H.let [true, true, true] [] [] [2, 3, 4, 5] rfl rfl rfl rfl
     exact ⟨hf, H⟩
    ·have hf := hf.lit 26 rfl hc3
     refine tU 3 rfl rfl rfl rfl rfl rfl rfl hf (by kernel_rfl) (fun _ => trivial) fun a hf => ?_
     refine tU 4 rfl rfl rfl rfl rfl rfl rfl hf (by kernel_rfl) (fun _ => trivial) fun a hf => ?_
     refine tU 5 rfl rfl rfl rfl rfl rfl rfl hf (by kernel_rfl) (fun _ => trivial) fun a hf => ?_
     refine tU 6 rfl rfl rfl rfl rfl rfl rfl hf (by kernel_rfl) (fun _ => trivial) fun a hf => ?_
     refine tU 7 rfl rfl rfl rfl rfl rfl rfl hf (by kernel_rfl) (fun _ => trivial) fun a hf => ?_
     refine tU 8 rfl rfl rfl rfl rfl rfl rfl hf (by kernel_rfl) (fun _ => trivial) fun a hf => ?_
     refine tU 9 rfl rfl rfl rfl rfl rfl rfl hf (by kernel_rfl) (fun _ => trivial) fun a hf => ?_
     refine tU 10 rfl rfl rfl rfl rfl rfl rfl hf (by kernel_rfl) (fun _ => trivial) fun a hf => ?_
     refine tp 11 rfl rfl hf (by kernel_rfl) (fun _ => trivial) rfl fun a hf => ?_
     refine dn (by kernel_rfl) ?_
     obtain rfl := Option.some.inj hGc8
     have hf := hf.prune [35, 2, 3, 4] rfl
     have H := H.let [true, true, true] [] [] [0, 1, 2, 3] rfl rfl rfl rfl
     exact ⟨hf, H⟩
   refine then_n (iteB hF (fun hc4 hF => cd_t hf rfl hc4 ?_) fun hc4 hF => cd_f hf rfl hc4 ?_)
   ·refine sq (reg (wl0 rfl (op_q hf (rq_loadBN hf H TF.la37 2 rfl rfl rfl rfl) rfl (by decide) fun a hf => ?_)))
    refine pr 2 hf rfl rfl fun a hf => ?_
    refine wl0 rfl (op_q hf (rq_loadB hf H TF.ls3 1 rfl rfl rfl) rfl (by decide) fun a hf => ?_)
    obtain ⟨y4, hy4, hF⟩ := bind_some hF
    refine wl0 rfl (op_call hf TF.cl176 rfl (by decide) (impl_RemoveLight_ok (S := fun _ => True) (Plan_mkv (x := p) (rep_true (α := List ByteArray) (H.get 3 rfl)) (rep_true (α := List Fiber) (H.get 2 rfl)) (rep_true (α := List Light) (H.get 1 rfl))) mk_int hy4) fun v6 w a hp6 hf => ?_)
    obtain ⟨hb4, F, v7, v8, rfl, hp7, hp8, hN⟩ := hp6
    obtain ⟨A9, c10, F2, A10, c11, F3, A11, c12, F4, rfl, rfl, hl9, hl10, hl11⟩ := Plan_vo hp7
    obtain rfl := VR_bool hp8
    have H := H.addOwn hb4 (X := [(⟨F2, MP.own F2 [(.slice A9 y4.1.Network.Nodes.length c10)] (y4.1.Network.Nodes : List ByteArray)⟩ : DI), (⟨F3, MP.own F3 [(.slice A10 y4.1.Network.Fibers.length c11)] (y4.1.Network.Fibers : List Fiber)⟩ : DI), (⟨F4, MP.own F4 [(.slice A11 y4.1.Lights.length c12)] (y4.1.Lights : List Light)⟩ : DI)]) (by simpa using hN.1) (ps1 hl9 (ps1 hl10 (ps1 hl11 ps0))) (by simpa using hN.2)
    have H := H.lend 0 rfl
    have H := H.lend 1 rfl
    have H := H.lend 2 rfl
    refine pr 2 hf rfl rfl fun a hf => ?_
    refine wl0 rfl (op_storeB hf H 0 TF.sz37 rfl rfl rfl rfl rfl rfl (nle rfl) fun w H => ?_)
    refine pr 1 hf rfl rfl fun a hf => ?_
    refine wl_end (then_n (wp_ret (blk_r (then_r (?_)))))
    obtain rfl := Option.some.inj hF
    refine ret_2 (fn := Tryz.f113) (r := .cell 4 37) (s := .tmp 5) hf rfl (rv_cellN hf H 0 TF.la37 rfl rfl rfl) (rv_tmp hf rfl) ?_
    exact ⟨_, rfl, H.bel, _, _, rfl, (Plan_mkv (x := y4.1) (rep_end (α := List ByteArray) (H.get 2 rfl)) (rep_end (α := List Fiber) (H.get 1 rfl)) (rep_end (α := List Light) (H.get 0 rfl))), mk_bool⟩
   ·refine wp_skip (blk_n (then_n (sq (reg (wl0 rfl (op_q hf (rq_build hf (cs := [(.slice none 0 0), (.slice none 0 0), (.slice none 0 0)]) rfl (fun w => by kernel_rfl)) rfl (by decide) fun a hf => ?_))))))
    refine wl0 rfl (op_storeB hf H 0 TF.sz37 rfl rfl rfl rfl rfl rfl (nle rfl) fun w H => ?_)
    refine pr 1 hf rfl rfl fun a hf => ?_
    refine wl_end (then_n (wp_ret (?_)))
    have H := H.pushNil (ByteArray) true
    have H := H.pushNil (Fiber) true
    have H := H.pushNil (Light) true
    obtain rfl := Option.some.inj hF
    refine ret_2 (fn := Tryz.f113) (r := .cell 4 37) (s := .tmp 5) hf rfl (rv_cellN hf H 0 TF.la37 rfl rfl rfl) (rv_tmp hf rfl) ?_
    exact ⟨_, rfl, H.bel, _, _, rfl, (Plan_mkv (x := ({ Network := ({ Nodes := [], Fibers := [] } : Network), Lights := [] } : Plan)) (rep_end (α := List ByteArray) (H.get 2 rfl)) (rep_end (α := List Fiber) (H.get 1 rfl)) (rep_end (α := List Light) (H.get 0 rfl))), mk_bool⟩
  ·refine sq (reg (pr 2 hf rfl rfl fun a hf => ?_))
   refine wl_end (then_n (iteB hF (fun hc5 hF => cd_t hf rfl hc5 ?_) fun hc5 hF => cd_f hf rfl hc5 ?_))
   ·refine sq (reg (wl0 rfl (op_q hf (rq_loadBN hf H TF.la37 2 rfl rfl rfl rfl) rfl (by decide) fun a hf => ?_)))
    refine pr 2 hf rfl rfl fun a hf => ?_
    refine wl0 rfl (op_q hf (rq_loadB hf H TF.ls3 1 rfl rfl rfl) rfl (by decide) fun a hf => ?_)
    refine pr 2 hf rfl rfl fun a hf => ?_
    refine wl0 rfl (op_q hf (rq_loadBN hf H TF.la108 1 rfl rfl rfl rfl) rfl (by decide) fun a hf => ?_)
    refine pr 2 hf rfl rfl fun a hf => ?_
    refine wl0 rfl (op_q hf (rq_loadBN hf H TF.la110 1 rfl rfl rfl rfl) rfl (by decide) fun a hf => ?_)
    obtain ⟨y5, hy5, hF⟩ := bind_some hF
    refine wl0 rfl (op_call hf TF.cl177 rfl (by decide) (impl_MoveLight_ok (S := fun _ => True) (Plan_mkv (x := p) (rep_true (α := List ByteArray) (H.get 3 rfl)) (rep_true (α := List Fiber) (H.get 2 rfl)) (rep_true (α := List Light) (H.get 1 rfl))) mk_int (Route_mkv (x := a'.Light.Route) (rep_true (α := List Int) (H.get 0 rfl))) Block_mkv hy5) fun v9 w a hp9 hf => ?_)
    obtain ⟨hb5, v10, v11, rfl, hp10, hp11⟩ := hp9
    obtain ⟨A12, c13, A13, c14, A14, c15, rfl, hl12, hl13, hl14⟩ := Plan_open hp10
    replace hl12 := H.resF (f := MP.val [(.slice A12 y5.1.Network.Nodes.length c13)] y5.1.Network.Nodes) hl12
    replace hl13 := H.resF (f := MP.val [(.slice A13 y5.1.Network.Fibers.length c14)] y5.1.Network.Fibers) hl13
    replace hl14 := H.resF (f := MP.val [(.slice A14 y5.1.Lights.length c15)] y5.1.Lights) hl14
    obtain rfl := VR_bool hp11
    have H := H.keep hb5
    have H := H.push (true, MP.val [(.slice A12 y5.1.Network.Nodes.length c13)] y5.1.Network.Nodes) hl12
    have H := H.push (true, MP.val [(.slice A13 y5.1.Network.Fibers.length c14)] y5.1.Network.Fibers) hl13
    have H := H.push (true, MP.val [(.slice A14 y5.1.Lights.length c15)] y5.1.Lights) hl14
    refine pr 2 hf rfl rfl fun a hf => ?_
    refine wl0 rfl (op_storeB hf H 0 TF.sz37 rfl rfl rfl rfl rfl rfl (nle rfl) fun w H => ?_)
    refine pr 1 hf rfl rfl fun a hf => ?_
    have hf := hf.prune [4, 5] rfl
    refine wl_end (then_n (wp_ret (blk_r (then_r (?_)))))
    obtain rfl := Option.some.inj hF
    refine ret_2 (fn := Tryz.f113) (r := .cell 4 37) (s := .tmp 5) hf rfl (rv_cellN hf H 0 TF.la37 rfl rfl rfl) (rv_tmp hf rfl) ?_
    exact ⟨_, rfl, H.bel, _, _, rfl, (Plan_mkv (x := y5.1) (rep_end (α := List ByteArray) (H.get 2 rfl)) (rep_end (α := List Fiber) (H.get 1 rfl)) (rep_end (α := List Light) (H.get 0 rfl))), mk_bool⟩
   ·refine wp_skip (blk_n (then_n (sq (reg (wl0 rfl (op_q hf (rq_build hf (cs := [(.slice none 0 0), (.slice none 0 0), (.slice none 0 0)]) rfl (fun w => by kernel_rfl)) rfl (by decide) fun a hf => ?_))))))
    refine wl0 rfl (op_storeB hf H 0 TF.sz37 rfl rfl rfl rfl rfl rfl (nle rfl) fun w H => ?_)
    refine pr 1 hf rfl rfl fun a hf => ?_
    have hf := hf.prune [4, 5] rfl
    refine wl_end (then_n (wp_ret (?_)))
    have H := H.pushNil (ByteArray) true
    have H := H.pushNil (Fiber) true
    have H := H.pushNil (Light) true
    obtain rfl := Option.some.inj hF
    refine ret_2 (fn := Tryz.f113) (r := .cell 4 37) (s := .tmp 5) hf rfl (rv_cellN hf H 0 TF.la37 rfl rfl rfl) (rv_tmp hf rfl) ?_
    exact ⟨_, rfl, H.bel, _, _, rfl, (Plan_mkv (x := ({ Network := ({ Nodes := [], Fibers := [] } : Network), Lights := [] } : Plan)) (rep_end (α := List ByteArray) (H.get 2 rfl)) (rep_end (α := List Fiber) (H.get 1 rfl)) (rep_end (α := List Light) (H.get 0 rfl))), mk_bool⟩

/- loop.example/g00897/laws.szChange -/
set_option maxHeartbeats 1000000 in
theorem laws_szChange_ok {fu : Nat} {w0 : World} {S : Nat → Prop} {v0_ : Value} {v1_ : Value} {a' : Change} {left : Int} {r : Int} (h0 : VR w0 S v0_ a') (h1 : VR w0 S v1_ left) (hF : laws_szChange fu a' left = some r) :
    Calls Tryz.prog 56 [v0_, v1_].toArray w0 fun e w' => ∃ v, e = .returned v ∧ (Below w0.heap.size w0 w' ∧ VR w' (St ⟨w0, []⟩ S [] [] [] true) v r) := by
 obtain ⟨A, c, A2, c2, A3, c3, A4, c4, A5, c5, rfl, hl, hl2, hl3, hl4, hl5⟩ := Change_open h0
 obtain rfl := VR_int h1
 have H := Mem.start ⟨w0, []⟩ S
 have H := H.pushArg (MP.val [(.slice A a'.Plan.Network.Nodes.length c)] a'.Plan.Network.Nodes) hl
 have H := H.pushArg (MP.val [(.slice A2 a'.Plan.Network.Fibers.length c2)] a'.Plan.Network.Fibers) hl2
 have H := H.pushArg (MP.val [(.slice A3 a'.Plan.Lights.length c3)] a'.Plan.Lights) hl3
 have H := H.pushArg (MP.val [(.slice A4 a'.Actions.length c4)] a'.Actions) hl4
 have H := H.pushArg (MP.val [(.slice A5 a'.Undo.length c5)] a'.Undo) hl5
 refine enter Tryz.func56 rfl rfl (nle rfl) rfl fun a hf => ?_
 rw [laws_szChange] at hF
 refine sq (reg (wl0 rfl (op_box hf H rfl rfl (by decide) fun b' a w hf H => ?_)))
 refine pr 1 hf rfl rfl fun a hf => ?_
 refine wl_end (then_n (sq (reg (pr 1 hf rfl rfl fun a hf => ?_))))
 refine wl0 rfl (op_q hf (rq_loadBN hf H TF.la28 0 rfl rfl rfl rfl) rfl (by decide) fun a hf => ?_)
 refine pr 1 hf rfl rfl fun a hf => ?_
 obtain ⟨y, hy, hF⟩ := bind_some hF
 refine wl0 rfl (op_call hf TF.cl15 rfl (by decide) (laws_szPlan_ok (S := fun _ => True) (Plan_mkv (x := a'.Plan) (rep_true (α := List ByteArray) (H.get 4 rfl)) (rep_true (α := List Fiber) (H.get 3 rfl)) (rep_true (α := List Light) (H.get 2 rfl))) mk_int hy) fun v w a hp hf => ?_)
 obtain ⟨hb, hp⟩ := hp
 obtain rfl := VR_int hp
 have H := H.keep hb
 refine pr 1 hf rfl rfl fun a hf => ?_
 refine wl_end (then_n (sq (sq (reg (pr 2 hf rfl rfl fun a hf => ?_)))))
 refine wl_end (then_n (iteB hF (fun hc hF => cd_t hf rfl hc ?_) fun hc hF => cd_f hf rfl hc ?_))
 ·refine sq (reg (pr 1 hf rfl rfl fun a hf => ?_))
  refine wl_end (then_n (wp_ret (then_r (?_))))
  obtain rfl := Option.some.inj hF
  refine ret_1 (fn := Tryz.f56) (r := .tmp 4) hf rfl (rv_tmp hf rfl) ?_
  exact ⟨_, rfl, H.bel, mk_int⟩
 ·refine wp_skip (then_n (sq (reg (pr 1 hf rfl rfl fun a hf => ?_))))
  refine wl0 rfl (op_q hf (rq_loadB hf H TF.ls71 0 rfl rfl rfl) rfl (by decide) fun a hf => ?_)
  refine pr 1 hf rfl rfl fun a hf => ?_
  obtain ⟨y2, hy2, hF⟩ := bind_some hF
  refine wl0 rfl (op_call hf TF.cl47 rfl (by decide) (laws_szActionS_ok (S := fun _ => True) (mk_list (rep_true (α := List Action) (H.get 1 rfl))) mk_int hy2) fun v2 w a hp2 hf => ?_)
  obtain ⟨hb2, hp2⟩ := hp2
  obtain rfl := VR_int hp2
  have H := H.keep hb2
  refine pr 1 hf rfl rfl fun a hf => ?_
  refine wl_end (then_n (sq (sq (reg (pr 2 hf rfl rfl fun a hf => ?_)))))
  have hf := hf.prune [1, 2, 16] rfl
  refine wl_end (then_n (iteB hF (fun hc2 hF => cd_t hf rfl hc2 ?_) fun hc2 hF => cd_f hf rfl hc2 ?_))
  ·refine sq (reg (pr 1 hf rfl rfl fun a hf => ?_))
   refine wl_end (then_n (wp_ret (then_r (?_))))
   obtain rfl := Option.some.inj hF
   refine ret_1 (fn := Tryz.f56) (r := .tmp 4) hf rfl (rv_tmp hf rfl) ?_
   exact ⟨_, rfl, H.bel, mk_int⟩
  ·refine wp_skip (then_n (sq (reg (pr 1 hf rfl rfl fun a hf => ?_))))
   refine wl0 rfl (op_q hf (rq_loadB hf H TF.ls71 0 rfl rfl rfl) rfl (by decide) fun a hf => ?_)
   refine pr 1 hf rfl rfl fun a hf => ?_
   obtain ⟨y3, hy3, hF⟩ := bind_some hF
   refine wl0 rfl (op_call hf TF.cl47 rfl (by decide) (laws_szActionS_ok (S := fun _ => True) (mk_list (rep_true (α := List Action) (H.get 0 rfl))) mk_int hy3) fun v3 w a hp3 hf => ?_)
   obtain ⟨hb3, hp3⟩ := hp3
   obtain rfl := VR_int hp3
   have H := H.keep hb3
   refine pr 1 hf rfl rfl fun a hf => ?_
   refine wl_end (then_n (sq (sq (reg (pr 2 hf rfl rfl fun a hf => ?_)))))
   refine wl_end (then_n (iteB hF (fun hc3 hF => cd_t hf rfl hc3 ?_) fun hc3 hF => cd_f hf rfl hc3 ?_))
   ·refine sq (reg (pr 1 hf rfl rfl fun a hf => ?_))
    refine wl_end (then_n (wp_ret (then_r (?_))))
    obtain rfl := Option.some.inj hF
    refine ret_1 (fn := Tryz.f56) (r := .tmp 4) hf rfl (rv_tmp hf rfl) ?_
    exact ⟨_, rfl, H.bel, mk_int⟩
   ·refine wp_skip (then_n (sq (reg (pr 2 hf rfl rfl fun a hf => ?_))))
    refine wl_end (then_n (wp_ret (?_)))
    obtain rfl := Option.some.inj hF
    refine ret_1 (fn := Tryz.f56) (r := .tmp 4) hf rfl (rv_tmp hf rfl) ?_
    exact ⟨_, rfl, H.bel, mk_int⟩

/- loop.example/g00897/laws.toChange -/
set_option maxHeartbeats 1000000 in
theorem laws_toChange_ok {fu : Nat} {w0 : World} {S : Nat → Prop} {v0_ : Value} {a' : Change} {r : Change} (h0 : VR w0 S v0_ a') (hF : laws_toChange fu a' = some r) :
    Calls Tryz.prog 58 [v0_].toArray w0 fun e w' => ∃ v, e = .returned v ∧ (Below w0.heap.size w0 w' ∧ ∃ F0, VO w' F0 v r ∧ New w0 w' F0) := by
 obtain ⟨A, c, A2, c2, A3, c3, A4, c4, A5, c5, rfl, hl, hl2, hl3, hl4, hl5⟩ := Change_open h0
 have H := Mem.start ⟨w0, []⟩ S
 have H := H.pushArg (MP.val [(.slice A a'.Plan.Network.Nodes.length c)] a'.Plan.Network.Nodes) hl
 have H := H.pushArg (MP.val [(.slice A2 a'.Plan.Network.Fibers.length c2)] a'.Plan.Network.Fibers) hl2
 have H := H.pushArg (MP.val [(.slice A3 a'.Plan.Lights.length c3)] a'.Plan.Lights) hl3
 have H := H.pushArg (MP.val [(.slice A4 a'.Actions.length c4)] a'.Actions) hl4
 have H := H.pushArg (MP.val [(.slice A5 a'.Undo.length c5)] a'.Undo) hl5
 refine enter Tryz.func58 rfl rfl (nle rfl) rfl fun a hf => ?_
 rw [laws_toChange] at hF
 refine sq (reg (wl0 rfl (op_box hf H rfl rfl (by decide) fun b' a w hf H => ?_)))
 refine wl0 rfl (op_alloc hf H TF.zv74 rfl (by decide) fun b2 a w hf H => ?_)
 refine wl_end (then_n (sq (reg (wl0 rfl (op_alloc hf H TF.zv74 rfl (by decide) fun b3 a w hf H => ?_)))))
 refine wl_end (then_n (sq (reg (pr 1 hf rfl rfl fun a hf => ?_))))
 refine wl0 rfl (op_q hf (rq_loadBN hf H TF.la28 2 rfl rfl rfl rfl) rfl (by decide) fun a hf => ?_)
 obtain ⟨y, hy, hF⟩ := bind_some hF
 refine wl0 rfl (op_call hf TF.cl17 rfl (by decide) (laws_toPlan_ok (S := fun _ => True) (Plan_mkv (x := a'.Plan) (rep_true (α := List ByteArray) (H.get 4 rfl)) (rep_true (α := List Fiber) (H.get 3 rfl)) (rep_true (α := List Light) (H.get 2 rfl))) hy) fun v w a hp hf => ?_)
 obtain ⟨hb, F, hp2, hN⟩ := hp
 obtain ⟨A6, c6, F2, A7, c7, F3, A8, c8, F4, rfl, rfl, hl6, hl7, hl8⟩ := Plan_vo hp2
 have H := H.addOwn hb (X := [(⟨F2, MP.own F2 [(.slice A6 y.Network.Nodes.length c6)] (y.Network.Nodes : List ByteArray)⟩ : DI), (⟨F3, MP.own F3 [(.slice A7 y.Network.Fibers.length c7)] (y.Network.Fibers : List Fiber)⟩ : DI), (⟨F4, MP.own F4 [(.slice A8 y.Lights.length c8)] (y.Lights : List Light)⟩ : DI)]) (by simpa using hN.1) (ps1 hl6 (ps1 hl7 (ps1 hl8 ps0))) (by simpa using hN.2)
 have H := H.lend 0 rfl
 have H := H.lend 1 rfl
 have H := H.lend 2 rfl
 refine pr 1 hf rfl rfl fun a hf => ?_
 refine wl0 rfl (op_storeB hf H 0 TF.sz37 rfl rfl rfl rfl rfl rfl (nle rfl) fun w H => ?_)
 refine wl_end (then_n (sq (reg (pr 1 hf rfl rfl fun a hf => ?_))))
 refine wl0 rfl (op_q hf (rq_loadB hf H TF.ls71 2 rfl rfl rfl) rfl (by decide) fun a hf => ?_)
 obtain ⟨y2, hy2, hF⟩ := bind_some hF
 refine wl0 rfl (op_call hf TF.cl49 rfl (by decide) (laws_toActionS_ok (S := fun _ => True) (mk_list (rep_true (α := List Action) (H.get 4 rfl))) hy2) fun v2 w a hp3 hf => ?_)
 obtain ⟨hb2, F5, hp4, hN2⟩ := hp3
 obtain ⟨A9, c9, rfl, hl9⟩ := VO_list hp4
 have H := H.addOwn hb2 (X := [(⟨F5, MP.own F5 [(.slice A9 y2.length c9)] (y2 : List Action)⟩ : DI)]) (by simpa using hN2.1) (ps1 hl9 ps0) (by simpa using hN2.2)
 have H := H.lend 0 rfl
 refine pr 1 hf rfl rfl fun a hf => ?_
 refine wl0 rfl (op_storeB hf H 0 TF.sz65 rfl rfl rfl rfl rfl rfl (nle rfl) fun w H => ?_)
 refine wl_end (then_n (sq (reg (pr 1 hf rfl rfl fun a hf => ?_))))
 refine wl0 rfl (op_q hf (rq_loadB hf H TF.ls71 2 rfl rfl rfl) rfl (by decide) fun a hf => ?_)
 obtain ⟨y3, hy3, hF⟩ := bind_some hF
 refine wl0 rfl (op_call hf TF.cl49 rfl (by decide) (laws_toActionS_ok (S := fun _ => True) (mk_list (rep_true (α := List Action) (H.get 4 rfl))) hy3) fun v3 w a hp5 hf => ?_)
 obtain ⟨hb3, F7, hp6, hN3⟩ := hp5
 obtain ⟨A10, c10, rfl, hl10⟩ := VO_list hp6
 have H := H.addOwn hb3 (X := [(⟨F7, MP.own F7 [(.slice A10 y3.length c10)] (y3 : List Action)⟩ : DI)]) (by simpa using hN3.1) (ps1 hl10 ps0) (by simpa using hN3.2)
 have H := H.lend 0 rfl
 refine pr 1 hf rfl rfl fun a hf => ?_
 refine wl0 rfl (op_storeB hf H 0 TF.sz65 rfl rfl rfl rfl rfl rfl (nle rfl) fun w H => ?_)
 have hf := hf.prune [1, 2, 3] rfl
 refine wl_end (then_n (sq (reg (pr 1 hf rfl rfl fun a hf => ?_))))
 refine wl0 rfl (op_q hf (rq_loadB hf H TF.ls4 2 rfl rfl rfl) rfl (by decide) fun a hf => ?_)
 refine pr 1 hf rfl rfl fun a hf => ?_
 refine wl0 rfl (op_storeB hf H 0 TF.sz4 rfl rfl rfl rfl rfl rfl (nle rfl) fun w H => ?_)
 refine wl_end (then_n (sq (reg (wl0 rfl (op_q hf (rq_loadBN hf H TF.la74 0 rfl rfl rfl rfl) rfl (by decide) fun a hf => ?_)))))
 refine wl0 rfl (op_storeB hf H 1 TF.sz74 rfl rfl rfl rfl rfl rfl (nle rfl) fun w H => ?_)
 refine wl_end (then_n (wp_ret (?_)))
 have H := H.frontD 1 rfl
 have H := H.frontD 4 rfl
 have H := H.frontD 4 rfl
 have H := H.frontD 4 rfl
 obtain rfl := Option.some.inj hF
 refine ret_1 (fn := Tryz.f58) (r := .cell 2 74) hf rfl (rv_cellN hf H 1 TF.la74 rfl rfl rfl) ?_
 have hN := H.ends (X := [(⟨F2, MP.own F2 [(.slice A6 y.Network.Nodes.length c6)] (y.Network.Nodes : List ByteArray)⟩ : DI), (⟨F3, MP.own F3 [(.slice A7 y.Network.Fibers.length c7)] (y.Network.Fibers : List Fiber)⟩ : DI), (⟨F4, MP.own F4 [(.slice A8 y.Lights.length c8)] (y.Lights : List Light)⟩ : DI), (⟨F5, MP.own F5 [(.slice A9 y2.length c9)] (y2 : List Action)⟩ : DI), (⟨F7, MP.own F7 [(.slice A10 y3.length c10)] (y3 : List Action)⟩ : DI)])
 simp only [List.flatMap_cons, List.flatMap_nil, List.append_nil, List.append_assoc] at hN
 exact ⟨_, rfl, H.bel, (F2 ++ (F3 ++ (F4 ++ (F5 ++ F7)))), ⟨_, Change_ownmk (x := ({ Plan := y, Actions := y2, Undo := y3, Back := a'.Back } : Change)) (H.ownAt 0 rfl) (H.ownAt 1 rfl) (H.ownAt 2 rfl) (H.ownAt 3 rfl) (H.ownAt 4 rfl), rfl⟩, by first | exact hN | simpa using hN⟩

/- loop.example/g00897/spec.l20All -/
set_option maxHeartbeats 1000000 in
theorem spec_l20All_ok {fu : Nat} {w0 : World} {S : Nat → Prop} {v0_ : Value} {v1_ : Value} {p : Plan} {list : List Action} {r : Plan × Int} (h0 : VR w0 S v0_ p) (h1 : VR w0 S v1_ list) (hF : spec_l20All fu p list = some r) :
    Calls Tryz.prog 179 [v0_, v1_].toArray w0 fun e w' => ∃ v, e = .returned v ∧ (Below w0.heap.size w0 w' ∧ ∃ u0 u1, v = .tuple #[u0, u1] ∧ VR w' (St ⟨w0, []⟩ S [] [] [] true) u0 r.1 ∧ VR w' (St ⟨w0, []⟩ S [] [] [] true) u1 r.2) := by
 obtain ⟨A, c, A2, c2, A3, c3, rfl, hl, hl2, hl3⟩ := Plan_open h0
 obtain ⟨A4, c4, rfl, hl4⟩ := VR_list h1
 have H := Mem.start ⟨w0, []⟩ S
 have H := H.pushArg (MP.val [(.slice A p.Network.Nodes.length c)] p.Network.Nodes) hl
 have H := H.pushArg (MP.val [(.slice A2 p.Network.Fibers.length c2)] p.Network.Fibers) hl2
 have H := H.pushArg (MP.val [(.slice A3 p.Lights.length c3)] p.Lights) hl3
 have H := H.pushArg (MP.val [(.slice A4 list.length c4)] list) hl4
 refine enter Tryz.func179 rfl rfl (nle rfl) rfl fun a hf => ?_
 rw [spec_l20All] at hF
 refine sq (reg (wl0 rfl (op_box hf H rfl rfl (by decide) fun b' a w hf H => ?_)))
 refine wl0 rfl (op_alloc hf H TF.zv37 rfl (by decide) fun b2 a w hf H => ?_)
 refine pr 1 hf rfl rfl fun a hf => ?_
 refine wl_end (then_n (sq (reg (wl0 rfl (op_q hf (rq_loadBN hf H TF.la37 1 rfl rfl rfl rfl) rfl (by decide) fun a hf => ?_)))))
 obtain ⟨y, hy, hF⟩ := bind_some hF
 refine wl0 rfl (op_call hf TF.cl84 rfl (by decide) (spec_l9Own_ok (S := fun _ => True) (Plan_mkv (x := p) (rep_true (α := List ByteArray) (H.get 3 rfl)) (rep_true (α := List Fiber) (H.get 2 rfl)) (rep_true (α := List Light) (H.get 1 rfl))) hy) fun v w a hp hf => ?_)
 obtain ⟨hb, F, hp2, hN⟩ := hp
 obtain ⟨A5, c5, F2, A6, c6, F3, A7, c7, F4, rfl, rfl, hl5, hl6, hl7⟩ := Plan_vo hp2
 have H := H.addOwn hb (X := [(⟨F2, MP.own F2 [(.slice A5 y.Network.Nodes.length c5)] (y.Network.Nodes : List ByteArray)⟩ : DI), (⟨F3, MP.own F3 [(.slice A6 y.Network.Fibers.length c6)] (y.Network.Fibers : List Fiber)⟩ : DI), (⟨F4, MP.own F4 [(.slice A7 y.Lights.length c7)] (y.Lights : List Light)⟩ : DI)]) (by simpa using hN.1) (ps1 hl5 (ps1 hl6 (ps1 hl7 ps0))) (by simpa using hN.2)
 have H := H.lend 0 rfl
 have H := H.lend 1 rfl
 have H := H.lend 2 rfl
 refine wl0 rfl (op_alloc hf H TF.zv37 rfl (by decide) fun b3 a w hf H => ?_)
 refine wl0 rfl (op_storeB hf H 0 TF.sz37 rfl rfl rfl rfl rfl rfl (nle rfl) fun w H => ?_)
 refine wl_end (then_n (sq (sq (reg (pr 1 hf rfl rfl fun a hf => ?_)))))
 refine wl_end (then_n ?_)
 obtain ⟨out', hB1, hF⟩ := bind_some hF
 have hf := hf.prune [1, 4, 6, 7] rfl
 have H := H.let [true, true, false] [] [false, false, false] [0, 1, 2, 3] rfl rfl rfl rfl
 refine loopC (fun (s : Int × List ByteArray × List Fiber × List Light) (a : Act) (w : World) => match s with | (i, m, m2, m3) => ∃ (A8 : Option Addr) (c8 : Nat) (A9 : Option Addr) (c9 : Nat) (A10 : Option Addr) (c10 : Nat), Fr a 35 [(1, (.slice A4 list.length c4)), (4, (.pointer (some ⟨b2, 0, none⟩))), (6, (.pointer (some ⟨b3, 0, none⟩))), (7, (.int .i64 i))] ∧ Mem ⟨w0, []⟩ S [⟨b3, 37, [(.slice A8 m.length c8), (.slice A9 m2.length c9), (.slice A10 m3.length c10)]⟩, ⟨b2, 37, [(.slice none 0 0), (.slice none 0 0), (.slice none 0 0)]⟩] [] [] [(true, MP.val [(.slice A10 m3.length c10)] (m3 : List Light)), (true, MP.val [(.slice A9 m2.length c9)] (m2 : List Fiber)), (true, MP.val [(.slice A8 m.length c8)] (m : List ByteArray)), (false, MP.val [(.slice A4 list.length c4)] (list : List Action))] w) (fun k (s : Int × List ByteArray × List Fiber × List Light) => spec_l20All_L1 fu list k s.1 s.2.1 s.2.2.1 s.2.2.2 = some out') (fun s => out' = Out.next s) (0, y.Network.Nodes, y.Network.Fibers, y.Lights) fu hB1 ⟨A5, c5, A6, c6, A7, c7, hf, H⟩ (fun s h => by cases h) ?_ ?_
 ·rintro fk ⟨i, m, m2, m3⟩ a w hR1 hI
  replace hR1 : spec_l20All_L1 fu list (fk + 1) i m m2 m3 = some out' := hR1
  rw [spec_l20All_L1] at hR1
  obtain ⟨A8, c8, A9, c9, A10, c10, hf, H⟩ := hI
  refine sq (sq (reg (pr 4 hf rfl rfl fun a hf => ?_)))
  refine wl_end (then_n (iteB hR1 (fun hc hR1 => cd_t hf rfl hc ?_) fun hc hR1 => cd_f hf rfl hc ?_))
  ·refine wp_skip (then_n (sq (wp_block (sq (drawn [10] (bs := [false, false, false, false, false, false, false, false, false, false, false, false]) (fuel := 12) (Checked.mixed Tryz.checked) rfl rfl fun w hb => ?_)))))
   have H := H.keep hb
   refine strT (H.let [true, false] [] [] [] rfl rfl rfl rfl) (fun w H => trivial) fun hS => ?_
   refine tS 0 [0, 5, 6, 7, 8, 10, 11] rfl rfl rfl rfl hf (by kernel_rfl) (by kernel_rfl) hS (fun w H => rq_loadBN hf H TF.la37 0 rfl rfl rfl rfl) fun a hf => ?_
   refine tp 1 rfl rfl hf (by kernel_rfl) (fun _ => hS) rfl fun a hf => ?_
   refine tp 2 rfl rfl hf (by kernel_rfl) (fun _ => hS) rfl fun a hf => ?_
   obtain ⟨e, he, hR1⟩ := bind_some hR1
   obtain ⟨p2, o, cs, hx, hr, H⟩ := pre_iaddr H Tryz.underlying65 TF.sz136 3 rfl he
   refine tP 3 rfl rfl rfl rfl hf (by kernel_rfl) (fun _ => hS) (fun w => rq_iaddrE hf rfl rfl rfl hx w) fun a hf => ?_
   obtain ⟨A11, c11, rfl, hl8⟩ := Action_cells hr
   have H := H.push (false, MP.val [(.slice A11 e.Light.Route.Fibers.length c11)] e.Light.Route.Fibers) hl8
   refine strT (H.let [true, false] [] [] [1] rfl rfl rfl rfl) (fun w H => H.let [true] [] [] [] rfl rfl rfl rfl) fun hS => ?_
   refine tS 4 [4, 5, 6, 7, 8, 10, 11] rfl rfl rfl rfl hf (by kernel_rfl) (by kernel_rfl) hS (fun w H => rq_loadIN hf H TF.la136 0 0 rfl rfl rfl rfl) fun a hf => ?_
   refine on2 (i := 5) (j := 9) (bi := [true, true, true, true, true, true, false, false, false, false, false, false]) (bj := [true, true, true, true, true, false, false, false, false, true, false, false]) (by kernel_rfl) rfl rfl rfl rfl rfl rfl ?_ ?_
   ·obtain ⟨y2, hy2, hR1⟩ := bind_some hR1
    refine (op_call hf TF.cl111 rfl (by decide) (spec_l20Apply_ok (S := fun _ => True) (Plan_mkv (x := ({ Network := ({ Nodes := m, Fibers := m2 } : Network), Lights := m3 } : Plan)) (rep_true (α := List ByteArray) (H.get 4 rfl)) (rep_true (α := List Fiber) (H.get 3 rfl)) (rep_true (α := List Light) (H.get 2 rfl))) (Action_mkv (x := e) (rep_true (α := List Int) (H.get 0 rfl))) hy2) fun v2 w a hp3 hf => ?_)
    obtain ⟨hb2, v3, v4, rfl, hp4, hp5⟩ := hp3
    obtain ⟨A12, c12, A13, c13, A14, c14, rfl, hl9, hl10, hl11⟩ := Plan_open hp4
    replace hl9 := H.resF (f := MP.val [(.slice A12 y2.1.Network.Nodes.length c12)] y2.1.Network.Nodes) hl9
    replace hl10 := H.resF (f := MP.val [(.slice A13 y2.1.Network.Fibers.length c13)] y2.1.Network.Fibers) hl10
    replace hl11 := H.resF (f := MP.val [(.slice A14 y2.1.Lights.length c14)] y2.1.Lights) hl11
    obtain rfl := VR_bool hp5
    have H := H.keep hb2
    have H := H.push (true, MP.val [(.slice A12 y2.1.Network.Nodes.length c12)] y2.1.Network.Nodes) hl9
    have H := H.push (true, MP.val [(.slice A13 y2.1.Network.Fibers.length c13)] y2.1.Network.Fibers) hl10
    have H := H.push (true, MP.val [(.slice A14 y2.1.Lights.length c14)] y2.1.Lights) hl11
    have hS := H.let [true, false] [] [] [4] rfl rfl rfl rfl
    refine ⟨fun _ => hS, ?_⟩
    refine tp 6 rfl rfl hf (by kernel_rfl) (fun _ => hS) rfl fun a hf => ?_
    refine tp 7 rfl rfl hf (by kernel_rfl) (fun _ => hS) rfl fun a hf => ?_
    refine tp 8 rfl rfl hf (by kernel_rfl) (fun _ => hS) rfl fun a hf => ?_
    refine n1 9 (by kernel_rfl) rfl rfl (op_alloc hf H TF.zv37 rfl (by decide) fun b4 a w hf H => ?_)
    have hS := H.let [false, true, false] [] [] [4] rfl rfl rfl rfl
    refine ⟨fun _ => hS, ?_⟩
    refine n1 10 (by kernel_rfl) rfl rfl (op_storeB hf H 0 TF.sz37 rfl rfl rfl rfl rfl rfl (nle rfl) fun w H => ?_)
    refine ⟨fun h => absurd h (by decide), ?_⟩
    refine tp 11 rfl rfl hf (by kernel_rfl) (fun h => absurd h (by decide)) rfl fun a hf => ?_
    refine dn (by kernel_rfl) ?_
    have hf := hf.prune [1, 4, 6, 7, 8, 9] rfl
    refine then_n (sq (sq (reg (pr 2 hf rfl rfl fun a hf => ?_))))
    refine wl_end (then_n (iteB hR1 (fun hc2 hR1 => cd_t hf rfl hc2 ?_) fun hc2 hR1 => cd_f hf rfl hc2 ?_))
    ·refine sq (reg (wl0 rfl (op_q hf (rq_loadBN hf H TF.la37 1 rfl rfl rfl rfl) rfl (by decide) fun a hf => ?_)))
     refine pr 1 hf rfl rfl fun a hf => ?_
     refine wl0 rfl (op_storeB hf H 2 TF.sz37 rfl rfl rfl rfl rfl rfl (nle rfl) fun w H => ?_)
     refine pr 1 hf rfl rfl fun a hf => ?_
     refine wl_end (then_n (wp_ret (then_r (blk_r (then_r (then_r (blk_r (then_r (then_r (?_))))))))))
     obtain rfl := Option.some.inj hR1
     replace hF := on_ret hF
     obtain rfl := Option.some.inj hF
     refine ret_2 (fn := Tryz.f179) (r := .cell 4 37) (s := .tmp 5) hf rfl (rv_cellN hf H 2 TF.la37 rfl rfl rfl) (rv_tmp hf rfl) ?_
     exact ⟨_, rfl, H.bel, _, _, rfl, (Plan_mkv (x := ({ Network := ({ Nodes := m, Fibers := m2 } : Network), Lights := m3 } : Plan)) (rep_end (α := List ByteArray) (H.get 7 rfl)) (rep_end (α := List Fiber) (H.get 6 rfl)) (rep_end (α := List Light) (H.get 5 rfl))), mk_int⟩
    ·refine wp_skip (then_n (reg (wl0 rfl (op_q hf (rq_loadBN hf H TF.la37 0 rfl rfl rfl rfl) rfl (by decide) fun a hf => ?_))))
     refine wl0 rfl (op_storeB hf H 1 TF.sz37 rfl rfl rfl rfl rfl rfl (nle rfl) fun w H => ?_)
     refine wl_end (blk_n (then_n (reg (pr 3 hf rfl rfl fun a hf => ?_))))
     refine wl_end ?_
     have hf := hf.prune [1, 4, 6, 7] rfl
     have H := H.let [false, true, true] [] [] [0, 1, 2, 8] rfl rfl rfl rfl
     exact then_n ⟨(w64 (i + 1), y2.1.Network.Nodes, y2.1.Network.Fibers, y2.1.Lights), hR1, A12, c12, A13, c13, A14, c14, hf, H⟩
   ·refine (op_alloc hf H TF.zv37 rfl (by decide) fun b4 a w hf H => ?_)
    have hS := H.let [false, true, false] [] [] [1] rfl rfl rfl rfl
    refine ⟨fun _ => hS, ?_⟩
    obtain ⟨y2, hy2, hR1⟩ := bind_some hR1
    refine n1 5 (by kernel_rfl) rfl rfl (op_call hf TF.cl111 rfl (by decide) (spec_l20Apply_ok (S := fun _ => True) (Plan_mkv (x := ({ Network := ({ Nodes := m, Fibers := m2 } : Network), Lights := m3 } : Plan)) (rep_true (α := List ByteArray) (H.get 4 rfl)) (rep_true (α := List Fiber) (H.get 3 rfl)) (rep_true (α := List Light) (H.get 2 rfl))) (Action_mkv (x := e) (rep_true (α := List Int) (H.get 0 rfl))) hy2) fun v2 w a hp3 hf => ?_)
    obtain ⟨hb2, v3, v4, rfl, hp4, hp5⟩ := hp3
    obtain ⟨A12, c12, A13, c13, A14, c14, rfl, hl9, hl10, hl11⟩ := Plan_open hp4
    replace hl9 := H.resF (f := MP.val [(.slice A12 y2.1.Network.Nodes.length c12)] y2.1.Network.Nodes) hl9
    replace hl10 := H.resF (f := MP.val [(.slice A13 y2.1.Network.Fibers.length c13)] y2.1.Network.Fibers) hl10
    replace hl11 := H.resF (f := MP.val [(.slice A14 y2.1.Lights.length c14)] y2.1.Lights) hl11
    obtain rfl := VR_bool hp5
    have H := H.keep hb2
    have H := H.push (true, MP.val [(.slice A12 y2.1.Network.Nodes.length c12)] y2.1.Network.Nodes) hl9
    have H := H.push (true, MP.val [(.slice A13 y2.1.Network.Fibers.length c13)] y2.1.Network.Fibers) hl10
    have H := H.push (true, MP.val [(.slice A14 y2.1.Lights.length c14)] y2.1.Lights) hl11
    have hS := H.let [false, true, false] [] [] [4] rfl rfl rfl rfl
    refine ⟨fun _ => hS, ?_⟩
    refine tp 6 rfl rfl hf (by kernel_rfl) (fun _ => hS) rfl fun a hf => ?_
    refine tp 7 rfl rfl hf (by kernel_rfl) (fun _ => hS) rfl fun a hf => ?_
    refine tp 8 rfl rfl hf (by kernel_rfl) (fun _ => hS) rfl fun a hf => ?_
    refine n1 10 (by kernel_rfl) rfl rfl (op_storeB hf H 0 TF.sz37 rfl rfl rfl rfl rfl rfl (nle rfl) fun w H => ?_)
    refine ⟨fun h => absurd h (by decide), ?_⟩
    refine tp 11 rfl rfl hf (by kernel_rfl) (fun h => absurd h (by decide)) rfl fun a hf => ?_
    refine dn (by kernel_rfl) ?_
    have hf := hf.prune [1, 4, 6, 7, 8, 9] rfl
    refine then_n (sq (sq (reg (pr 2 hf rfl rfl fun a hf => ?_))))
    refine wl_end (then_n (iteB hR1 (fun hc2 hR1 => cd_t hf rfl hc2 ?_) fun hc2 hR1 => cd_f hf rfl hc2 ?_))
    ·refine sq (reg (wl0 rfl (op_q hf (rq_loadBN hf H TF.la37 1 rfl rfl rfl rfl) rfl (by decide) fun a hf => ?_)))
     refine pr 1 hf rfl rfl fun a hf => ?_
     refine wl0 rfl (op_storeB hf H 2 TF.sz37 rfl rfl rfl rfl rfl rfl (nle rfl) fun w H => ?_)
     refine pr 1 hf rfl rfl fun a hf => ?_
     refine wl_end (then_n (wp_ret (then_r (blk_r (then_r (then_r (blk_r (then_r (then_r (?_))))))))))
     obtain rfl := Option.some.inj hR1
     replace hF := on_ret hF
     obtain rfl := Option.some.inj hF
     refine ret_2 (fn := Tryz.f179) (r := .cell 4 37) (s := .tmp 5) hf rfl (rv_cellN hf H 2 TF.la37 rfl rfl rfl) (rv_tmp hf rfl) ?_
     exact ⟨_, rfl, H.bel, _, _, rfl, (Plan_mkv (x := ({ Network := ({ Nodes := m, Fibers := m2 } : Network), Lights := m3 } : Plan)) (rep_end (α := List ByteArray) (H.get 7 rfl)) (rep_end (α := List Fiber) (H.get 6 rfl)) (rep_end (α := List Light) (H.get 5 rfl))), mk_int⟩
    ·refine wp_skip (then_n (reg (wl0 rfl (op_q hf (rq_loadBN hf H TF.la37 0 rfl rfl rfl rfl) rfl (by decide) fun a hf => ?_))))
     refine wl0 rfl (op_storeB hf H 1 TF.sz37 rfl rfl rfl rfl rfl rfl (nle rfl) fun w H => ?_)
     refine wl_end (blk_n (then_n (reg (pr 3 hf rfl rfl fun a hf => ?_))))
     refine wl_end ?_
     have hf := hf.prune [1, 4, 6, 7] rfl
     have H := H.let [false, true, true] [] [] [0, 1, 2, 8] rfl rfl rfl rfl
     exact then_n ⟨(w64 (i + 1), y2.1.Network.Nodes, y2.1.Network.Fibers, y2.1.Lights), hR1, A12, c12, A13, c13, A14, c14, hf, H⟩
  ·refine wp_exit (then_x (then_x (blk_e (?_))))
   have hf := hf.prune [1, 4, 6, 7] rfl
   have H := H.let [true, true] [] [] [0, 1, 2, 3] rfl rfl rfl rfl
   exact ⟨(i, m, m2, m3), (Option.some.inj hR1).symm, A8, c8, A9, c9, A10, c10, hf, H⟩
 rintro a w ⟨⟨i2, m4, m5, m6⟩, rfl, A15, c15, A16, c16, A17, c17, hf, H⟩
 replace hF := on_next hF
 try dsimp only at hF
 refine then_n (sq (reg (wl0 rfl (op_q hf (rq_loadBN hf H TF.la37 0 rfl rfl rfl rfl) rfl (by decide) fun a hf => ?_))))
 refine pr 2 hf rfl rfl fun a hf => ?_
 refine wl0 rfl (op_storeB hf H 1 TF.sz37 rfl rfl rfl rfl rfl rfl (nle rfl) fun w H => ?_)
 refine pr 1 hf rfl rfl fun a hf => ?_
 refine wl_end (then_n (wp_ret (?_)))
 obtain rfl := Option.some.inj hF
 refine ret_2 (fn := Tryz.f179) (r := .cell 4 37) (s := .tmp 5) hf rfl (rv_cellN hf H 1 TF.la37 rfl rfl rfl) (rv_tmp hf rfl) ?_
 exact ⟨_, rfl, H.bel, _, _, rfl, (Plan_mkv (x := ({ Network := ({ Nodes := m4, Fibers := m5 } : Network), Lights := m6 } : Plan)) (rep_end (α := List ByteArray) (H.get 2 rfl)) (rep_end (α := List Fiber) (H.get 1 rfl)) (rep_end (α := List Light) (H.get 0 rfl))), mk_int⟩

/- loop.example/g00897/spec.l20Good -/
set_option maxHeartbeats 1000000 in
theorem spec_l20Good_ok {fu : Nat} {w0 : World} {S : Nat → Prop} {v0_ : Value} {c : Change} {r : Bool} (h0 : VR w0 S v0_ c) (hF : spec_l20Good fu c = some r) :
    Calls Tryz.prog 115 [v0_].toArray w0 fun e w' => ∃ v, e = .returned v ∧ (Below w0.heap.size w0 w' ∧ VR w' (St ⟨w0, []⟩ S [] [] [] true) v r) := by
 obtain ⟨A, c2, A2, c3, A3, c4, A4, c5, A5, c6, rfl, hl, hl2, hl3, hl4, hl5⟩ := Change_open h0
 have H := Mem.start ⟨w0, []⟩ S
 have H := H.pushArg (MP.val [(.slice A c.Plan.Network.Nodes.length c2)] c.Plan.Network.Nodes) hl
 have H := H.pushArg (MP.val [(.slice A2 c.Plan.Network.Fibers.length c3)] c.Plan.Network.Fibers) hl2
 have H := H.pushArg (MP.val [(.slice A3 c.Plan.Lights.length c4)] c.Plan.Lights) hl3
 have H := H.pushArg (MP.val [(.slice A4 c.Actions.length c5)] c.Actions) hl4
 have H := H.pushArg (MP.val [(.slice A5 c.Undo.length c6)] c.Undo) hl5
 refine enter Tryz.func115 rfl rfl (nle rfl) rfl fun a hf => ?_
 rw [spec_l20Good] at hF
 refine sq (reg (wl0 rfl (op_box hf H rfl rfl (by decide) fun b' a w hf H => ?_)))
 refine pr 1 hf rfl rfl fun a hf => ?_
 refine wl_end (then_n (sq (sq ?_)))
 obtain ⟨c7, hGc7, hF⟩ := bind_some hF
 have fh := hf.prune [1] rfl
 have Hm := H.let [true] [] [] [0, 1, 2, 3, 4] rfl rfl rfl rfl
 refine midF 28 (.bool c7) fh Hm ?_ fun a w hf H => ?_
 ·refine reg (pr 1 hf rfl rfl fun a hf => ?_)
  refine wl0 rfl (op_q hf (rq_loadBN hf H TF.la37 0 rfl rfl rfl rfl) rfl (by decide) fun a hf => ?_)
  obtain ⟨y, hy, hGc7⟩ := bind_some hGc7
  refine wl0 rfl (op_call hf TF.cl62 rfl (by decide) (spec_l9Good_ok (S := fun _ => True) (Plan_mkv (x := c.Plan) (rep_true (α := List ByteArray) (H.get 4 rfl)) (rep_true (α := List Fiber) (H.get 3 rfl)) (rep_true (α := List Light) (H.get 2 rfl))) hy) fun v w a hp hf => ?_)
  obtain ⟨hb, hp⟩ := hp
  obtain rfl := VR_bool hp
  have H := H.keep hb
  refine pr 2 hf rfl rfl fun a hf => ?_
  refine iteB hGc7 (fun hc hGc7 => ?_) fun hc hGc7 => ?_
  ·have hf := hf.lit 9 rfl hc
   refine pr 13 hf rfl rfl fun a hf => ?_
   refine wlsu hf rfl rfl rfl rfl (by decide) fun a hf => ?_
   refine wlsu hf rfl rfl rfl rfl (by decide) fun a hf => ?_
   refine wlsu hf rfl rfl rfl rfl (by decide) fun a hf => ?_
   refine wlsu hf rfl rfl rfl rfl (by decide) fun a hf => ?_
   refine pr 2 hf rfl rfl fun a hf => ?_
   obtain rfl := Option.some.inj hGc7
   have hf := hf.prune [28, 1] rfl
   have H := H.let [true] [] [] [0, 1, 2, 3, 4] rfl rfl rfl rfl
   exact wl_end ⟨hf, H⟩
  ·have hf := hf.lit 9 rfl hc
   refine pr 1 hf rfl rfl fun a hf => ?_
   refine wlg hf rfl rfl rfl (op_q hf (rq_loadB hf H TF.ls65 0 rfl rfl rfl) rfl (by decide) fun a hf => ?_)
   refine pr 2 hf rfl rfl fun a hf => ?_
   refine wlg hf rfl rfl rfl (op_q hf (rq_loadB hf H TF.ls65 0 rfl rfl rfl) rfl (by decide) fun a hf => ?_)
   refine pr 5 hf rfl rfl fun a hf => ?_
   refine iteB hGc7 (fun hc2 hGc7 => ?_) fun hc2 hGc7 => ?_
   ·have hf := hf.lit 19 rfl hc2
    refine pr 3 hf rfl rfl fun a hf => ?_
    refine wlsu hf rfl rfl rfl rfl (by decide) fun a hf => ?_
    refine wlsu hf rfl rfl rfl rfl (by decide) fun a hf => ?_
    refine wlsu hf rfl rfl rfl rfl (by decide) fun a hf => ?_
    refine wlsu hf rfl rfl rfl rfl (by decide) fun a hf => ?_
    refine pr 2 hf rfl rfl fun a hf => ?_
    obtain rfl := Option.some.inj hGc7
    have hf := hf.prune [28, 1] rfl
    have H := H.let [true] [] [] [0, 1, 2, 3, 4] rfl rfl rfl rfl
    exact wl_end ⟨hf, H⟩
   ·have hf := hf.lit 19 rfl hc2
    refine pr 1 hf rfl rfl fun a hf => ?_
    refine wlg hf rfl rfl rfl (op_q hf (rq_loadB hf H TF.ls4 0 rfl rfl rfl) rfl (by decide) fun a hf => ?_)
    refine pr 1 hf rfl rfl fun a hf => ?_
    refine iteB hGc7 (fun hc3 hGc7 => ?_) fun hc3 hGc7 => ?_
    ·have hf := hf.lit 22 rfl hc3
     refine pr 1 hf rfl rfl fun a hf => ?_
     refine wlg hf rfl rfl rfl (op_q hf (rq_loadB hf H TF.ls65 0 rfl rfl rfl) rfl (by decide) fun a hf => ?_)
     refine pr 4 hf rfl rfl fun a hf => ?_
     obtain rfl := Option.some.inj hGc7
     have hf := hf.prune [28, 1] rfl
     have H := H.let [true] [] [] [0, 1, 2, 3, 4] rfl rfl rfl rfl
     exact wl_end ⟨hf, H⟩
    ·have hf := hf.lit 22 rfl hc3
     refine pr 6 hf rfl rfl fun a hf => ?_
     obtain rfl := Option.some.inj hGc7
     have hf := hf.prune [28, 1] rfl
     have H := H.let [true] [] [] [0, 1, 2, 3, 4] rfl rfl rfl rfl
     exact wl_end ⟨hf, H⟩
 refine then_n (iteB hF (fun hc4 hF => cd_t hf rfl hc4 ?_) fun hc4 hF => cd_f hf rfl hc4 ?_)
 ·refine sq (reg (pr 1 hf rfl rfl fun a hf => ?_))
  refine wl_end (then_n (wp_ret (then_r (?_))))
  obtain rfl := Option.some.inj hF
  refine ret_1 (fn := Tryz.f115) (r := .tmp 2) hf rfl (rv_tmp hf rfl) ?_
  exact ⟨_, rfl, H.bel, mk_bool⟩
 ·refine wp_skip (then_n (sq (reg (pr 1 hf rfl rfl fun a hf => ?_))))
  refine wl0 rfl (op_q hf (rq_loadBN hf H TF.la37 0 rfl rfl rfl rfl) rfl (by decide) fun a hf => ?_)
  refine pr 1 hf rfl rfl fun a hf => ?_
  refine wl0 rfl (op_q hf (rq_loadB hf H TF.ls65 0 rfl rfl rfl) rfl (by decide) fun a hf => ?_)
  obtain ⟨y2, hy2, hF⟩ := bind_some hF
  refine wl0 rfl (op_call hf TF.cl179 rfl (by decide) (spec_l20All_ok (S := fun _ => True) (Plan_mkv (x := c.Plan) (rep_true (α := List ByteArray) (H.get 4 rfl)) (rep_true (α := List Fiber) (H.get 3 rfl)) (rep_true (α := List Light) (H.get 2 rfl))) (mk_list (rep_true (α := List Action) (H.get 0 rfl))) hy2) fun v2 w a hp2 hf => ?_)
  obtain ⟨hb2, v3, v4, rfl, hp3, hp4⟩ := hp2
  obtain ⟨A6, c8, A7, c9, A8, c10, rfl, hl6, hl7, hl8⟩ := Plan_open hp3
  replace hl6 := H.resF (f := MP.val [(.slice A6 y2.1.Network.Nodes.length c8)] y2.1.Network.Nodes) hl6
  replace hl7 := H.resF (f := MP.val [(.slice A7 y2.1.Network.Fibers.length c9)] y2.1.Network.Fibers) hl7
  replace hl8 := H.resF (f := MP.val [(.slice A8 y2.1.Lights.length c10)] y2.1.Lights) hl8
  obtain rfl := VR_int hp4
  have H := H.keep hb2
  have H := H.push (true, MP.val [(.slice A6 y2.1.Network.Nodes.length c8)] y2.1.Network.Nodes) hl6
  have H := H.push (true, MP.val [(.slice A7 y2.1.Network.Fibers.length c9)] y2.1.Network.Fibers) hl7
  have H := H.push (true, MP.val [(.slice A8 y2.1.Lights.length c10)] y2.1.Lights) hl8
  refine pr 3 hf rfl rfl fun a hf => ?_
  refine wl0 rfl (op_alloc hf H TF.zv37 rfl (by decide) fun b2 a w hf H => ?_)
  refine wl0 rfl (op_storeB hf H 0 TF.sz37 rfl rfl rfl rfl rfl rfl (nle rfl) fun w H => ?_)
  refine pr 1 hf rfl rfl fun a hf => ?_
  refine wl_end (then_n (sq (reg (pr 2 hf rfl rfl fun a hf => ?_))))
  refine wl0 rfl (op_q hf (rq_loadB hf H TF.ls65 1 rfl rfl rfl) rfl (by decide) fun a hf => ?_)
  refine pr 3 hf rfl rfl fun a hf => ?_
  have hf := hf.prune [2] rfl
  refine wl_end (then_n (wp_ret (?_)))
  obtain rfl := Option.some.inj hF
  refine ret_1 (fn := Tryz.f115) (r := .tmp 2) hf rfl (rv_tmp hf rfl) ?_
  exact ⟨_, rfl, H.bel, mk_bool⟩

/- loop.example/g00897/spec.IsValidChange -/
set_option maxHeartbeats 1000000 in
theorem spec_IsValidChange_ok {fu : Nat} {w0 : World} {S : Nat → Prop} {v0_ : Value} {c : Change} {r : Bool} (h0 : VR w0 S v0_ c) (hF : spec_IsValidChange fu c = some r) :
    Calls Tryz.prog 57 [v0_].toArray w0 fun e w' => ∃ v, e = .returned v ∧ (Below w0.heap.size w0 w' ∧ VR w' (St ⟨w0, []⟩ S [] [] [] true) v r) := by
 obtain ⟨A, c2, A2, c3, A3, c4, A4, c5, A5, c6, rfl, hl, hl2, hl3, hl4, hl5⟩ := Change_open h0
 have H := Mem.start ⟨w0, []⟩ S
 have H := H.pushArg (MP.val [(.slice A c.Plan.Network.Nodes.length c2)] c.Plan.Network.Nodes) hl
 have H := H.pushArg (MP.val [(.slice A2 c.Plan.Network.Fibers.length c3)] c.Plan.Network.Fibers) hl2
 have H := H.pushArg (MP.val [(.slice A3 c.Plan.Lights.length c4)] c.Plan.Lights) hl3
 have H := H.pushArg (MP.val [(.slice A4 c.Actions.length c5)] c.Actions) hl4
 have H := H.pushArg (MP.val [(.slice A5 c.Undo.length c6)] c.Undo) hl5
 refine enter Tryz.func57 rfl rfl (nle rfl) rfl fun a hf => ?_
 rw [spec_IsValidChange] at hF
 refine sq (reg (wl0 rfl (op_box hf H rfl rfl (by decide) fun b' a w hf H => ?_)))
 refine pr 1 hf rfl rfl fun a hf => ?_
 refine wl_end (then_n (sq (reg (wl0 rfl (op_q hf (rq_loadBN hf H TF.la74 0 rfl rfl rfl rfl) rfl (by decide) fun a hf => ?_)))))
 obtain ⟨y, hy, hF⟩ := bind_some hF
 refine wl0 rfl (op_call hf TF.cl115 rfl (by decide) (spec_l20Good_ok (S := fun _ => True) (Change_mkv (x := c) (rep_true (α := List ByteArray) (H.get 4 rfl)) (rep_true (α := List Fiber) (H.get 3 rfl)) (rep_true (α := List Light) (H.get 2 rfl)) (rep_true (α := List Action) (H.get 1 rfl)) (rep_true (α := List Action) (H.get 0 rfl))) hy) fun v w a hp hf => ?_)
 obtain ⟨hb, hp⟩ := hp
 obtain rfl := VR_bool hp
 have H := H.keep hb
 refine pr 1 hf rfl rfl fun a hf => ?_
 refine wl_end (then_n (wp_ret (?_)))
 obtain rfl := Option.some.inj hF
 refine ret_1 (fn := Tryz.f57) (r := .tmp 2) hf rfl (rv_tmp hf rfl) ?_
 exact ⟨_, rfl, H.bel, mk_bool⟩

/- loop.example/g00897/impl.applied -/
set_option maxHeartbeats 1000000 in
theorem impl_applied_ok {fu : Nat} {w0 : World} {S : Nat → Prop} {v0_ : Value} {v1_ : Value} {p : Plan} {list : List Action} {r : Plan × Int} (h0 : VR w0 S v0_ p) (h1 : VR w0 S v1_ list) (hF : impl_applied fu p list = some r) :
    Calls Tryz.prog 116 [v0_, v1_].toArray w0 fun e w' => ∃ v, e = .returned v ∧ (Below w0.heap.size w0 w' ∧ ∃ u0 u1, v = .tuple #[u0, u1] ∧ VR w' (St ⟨w0, []⟩ S [] [] [] true) u0 r.1 ∧ VR w' (St ⟨w0, []⟩ S [] [] [] true) u1 r.2) := by
 obtain ⟨A, c, A2, c2, A3, c3, rfl, hl, hl2, hl3⟩ := Plan_open h0
 obtain ⟨A4, c4, rfl, hl4⟩ := VR_list h1
 have H := Mem.start ⟨w0, []⟩ S
 have H := H.pushArg (MP.val [(.slice A p.Network.Nodes.length c)] p.Network.Nodes) hl
 have H := H.pushArg (MP.val [(.slice A2 p.Network.Fibers.length c2)] p.Network.Fibers) hl2
 have H := H.pushArg (MP.val [(.slice A3 p.Lights.length c3)] p.Lights) hl3
 have H := H.pushArg (MP.val [(.slice A4 list.length c4)] list) hl4
 refine enter Tryz.func116 rfl rfl (nle rfl) rfl fun a hf => ?_
 rw [impl_applied] at hF
 refine sq (reg (wl0 rfl (op_box hf H rfl rfl (by decide) fun b' a w hf H => ?_)))
 refine wl0 rfl (op_alloc hf H TF.zv37 rfl (by decide) fun b2 a w hf H => ?_)
 refine pr 1 hf rfl rfl fun a hf => ?_
 refine wl_end (then_n (sq (reg (wl0 rfl (op_q hf (rq_loadBN hf H TF.la37 1 rfl rfl rfl rfl) rfl (by decide) fun a hf => ?_)))))
 obtain ⟨y, hy, hF⟩ := bind_some hF
 refine wl0 rfl (op_call hf TF.cl86 rfl (by decide) (impl_copyPlan_ok (S := fun _ => True) (Plan_mkv (x := p) (rep_true (α := List ByteArray) (H.get 3 rfl)) (rep_true (α := List Fiber) (H.get 2 rfl)) (rep_true (α := List Light) (H.get 1 rfl))) hy) fun v w a hp hf => ?_)
 obtain ⟨hb, F, hp2, hN⟩ := hp
 obtain ⟨A5, c5, F2, A6, c6, F3, A7, c7, F4, rfl, rfl, hl5, hl6, hl7⟩ := Plan_vo hp2
 have H := H.addOwn hb (X := [(⟨F2, MP.own F2 [(.slice A5 y.Network.Nodes.length c5)] (y.Network.Nodes : List ByteArray)⟩ : DI), (⟨F3, MP.own F3 [(.slice A6 y.Network.Fibers.length c6)] (y.Network.Fibers : List Fiber)⟩ : DI), (⟨F4, MP.own F4 [(.slice A7 y.Lights.length c7)] (y.Lights : List Light)⟩ : DI)]) (by simpa using hN.1) (ps1 hl5 (ps1 hl6 (ps1 hl7 ps0))) (by simpa using hN.2)
 have H := H.lend 0 rfl
 have H := H.lend 1 rfl
 have H := H.lend 2 rfl
 refine wl0 rfl (op_alloc hf H TF.zv37 rfl (by decide) fun b3 a w hf H => ?_)
 refine wl0 rfl (op_storeB hf H 0 TF.sz37 rfl rfl rfl rfl rfl rfl (nle rfl) fun w H => ?_)
 refine wl_end (then_n (sq (sq (reg (pr 3 hf rfl rfl fun a hf => ?_)))))
 refine wl_end (then_n ?_)
 obtain ⟨out', hB1, hF⟩ := bind_some hF
 have hf := hf.prune [1, 4, 6, 13, 14, 15] rfl
 have H := H.let [true, true, false] [] [false, false, false] [0, 1, 2, 3] rfl rfl rfl rfl
 refine loopC (fun (s : Int × List ByteArray × List Fiber × List Light) (a : Act) (w : World) => match s with | (i, m, m2, m3) => ∃ (A8 : Option Addr) (c8 : Nat) (A9 : Option Addr) (c9 : Nat) (A10 : Option Addr) (c10 : Nat), Fr a 35 [(1, (.slice A4 list.length c4)), (4, (.pointer (some ⟨b2, 0, none⟩))), (6, (.pointer (some ⟨b3, 0, none⟩))), (13, (.slice A4 list.length c4)), (14, (.int .i64 (list.length : Int))), (15, (.int .i64 i))] ∧ Mem ⟨w0, []⟩ S [⟨b3, 37, [(.slice A8 m.length c8), (.slice A9 m2.length c9), (.slice A10 m3.length c10)]⟩, ⟨b2, 37, [(.slice none 0 0), (.slice none 0 0), (.slice none 0 0)]⟩] [] [] [(true, MP.val [(.slice A10 m3.length c10)] (m3 : List Light)), (true, MP.val [(.slice A9 m2.length c9)] (m2 : List Fiber)), (true, MP.val [(.slice A8 m.length c8)] (m : List ByteArray)), (false, MP.val [(.slice A4 list.length c4)] (list : List Action))] w) (fun k (s : Int × List ByteArray × List Fiber × List Light) => impl_applied_L1 fu list k s.1 s.2.1 s.2.2.1 s.2.2.2 = some out') (fun s => out' = Out.next s) (0, y.Network.Nodes, y.Network.Fibers, y.Lights) fu hB1 ⟨A5, c5, A6, c6, A7, c7, hf, H⟩ (fun s h => by cases h) ?_ ?_
 ·rintro fk ⟨i, m, m2, m3⟩ a w hR1 hI
  replace hR1 : impl_applied_L1 fu list (fk + 1) i m m2 m3 = some out' := hR1
  rw [impl_applied_L1] at hR1
  obtain ⟨A8, c8, A9, c9, A10, c10, hf, H⟩ := hI
  refine sq (reg (pr 1 hf rfl rfl fun a hf => ?_))
  refine wl_end (then_n (sq (iteB hR1 (fun hc hR1 => cd_t hf rfl hc ?_) fun hc hR1 => cd_f hf rfl hc ?_)))
  ·refine wp_skip (then_n (sq (wp_block (sq (reg (pr 1 hf rfl rfl fun a hf => ?_))))))
   obtain ⟨e, he, hR1⟩ := bind_some hR1
   refine wl0 rfl (op_iaddr hf H Tryz.underlying65 TF.sz136 3 rfl rfl rfl he (by decide) fun p2 o cs a hf hr H => ?_)
   obtain ⟨A11, c11, rfl, hl8⟩ := Action_cells hr
   have H := H.push (false, MP.val [(.slice A11 e.Light.Route.Fibers.length c11)] e.Light.Route.Fibers) hl8
   refine wl0 rfl (op_q hf (rq_loadIN hf H TF.la136 1 0 rfl rfl rfl rfl) rfl (by decide) fun a hf => ?_)
   refine wl0 rfl (op_alloc hf H TF.zv136 rfl (by decide) fun b4 a w hf H => ?_)
   refine pr 1 hf rfl rfl fun a hf => ?_
   refine wl0 rfl (op_storeB hf H 0 TF.sz136 rfl rfl rfl rfl rfl rfl (nle rfl) fun w H => ?_)
   refine wl_end (then_n (sq (reg (wl0 rfl (op_q hf (rq_loadBN hf H TF.la37 1 rfl rfl rfl rfl) rfl (by decide) fun a hf => ?_)))))
   refine wl0 rfl (op_q hf (rq_loadBN hf H TF.la136 0 rfl rfl rfl rfl) rfl (by decide) fun a hf => ?_)
   obtain ⟨y2, hy2, hR1⟩ := bind_some hR1
   refine wl0 rfl (op_call hf TF.cl113 rfl (by decide) (impl_ApplyAction_ok (S := fun _ => True) (Plan_mkv (x := ({ Network := ({ Nodes := m, Fibers := m2 } : Network), Lights := m3 } : Plan)) (rep_true (α := List ByteArray) (H.get 4 rfl)) (rep_true (α := List Fiber) (H.get 3 rfl)) (rep_true (α := List Light) (H.get 2 rfl))) (Action_mkv (x := e) (rep_true (α := List Int) (H.get 0 rfl))) hy2) fun v2 w a hp3 hf => ?_)
   obtain ⟨hb2, v3, v4, rfl, hp4, hp5⟩ := hp3
   obtain ⟨A12, c12, A13, c13, A14, c14, rfl, hl9, hl10, hl11⟩ := Plan_open hp4
   replace hl9 := H.resF (f := MP.val [(.slice A12 y2.1.Network.Nodes.length c12)] y2.1.Network.Nodes) hl9
   replace hl10 := H.resF (f := MP.val [(.slice A13 y2.1.Network.Fibers.length c13)] y2.1.Network.Fibers) hl10
   replace hl11 := H.resF (f := MP.val [(.slice A14 y2.1.Lights.length c14)] y2.1.Lights) hl11
   obtain rfl := VR_bool hp5
   have H := H.keep hb2
   have H := H.push (true, MP.val [(.slice A12 y2.1.Network.Nodes.length c12)] y2.1.Network.Nodes) hl9
   have H := H.push (true, MP.val [(.slice A13 y2.1.Network.Fibers.length c13)] y2.1.Network.Fibers) hl10
   have H := H.push (true, MP.val [(.slice A14 y2.1.Lights.length c14)] y2.1.Lights) hl11
   refine pr 3 hf rfl rfl fun a hf => ?_
   refine wl0 rfl (op_alloc hf H TF.zv37 rfl (by decide) fun b5 a w hf H => ?_)
   refine wl0 rfl (op_storeB hf H 0 TF.sz37 rfl rfl rfl rfl rfl rfl (nle rfl) fun w H => ?_)
   refine pr 1 hf rfl rfl fun a hf => ?_
   refine wl_end (then_n (sq (sq (reg (pr 2 hf rfl rfl fun a hf => ?_)))))
   have hf := hf.prune [1, 4, 6, 7, 9, 13, 14, 15, 27] rfl
   refine wl_end (then_n (iteB hR1 (fun hc2 hR1 => cd_t hf rfl hc2 ?_) fun hc2 hR1 => cd_f hf rfl hc2 ?_))
   ·refine sq (reg (wl0 rfl (op_q hf (rq_loadBN hf H TF.la37 2 rfl rfl rfl rfl) rfl (by decide) fun a hf => ?_)))
    refine pr 1 hf rfl rfl fun a hf => ?_
    refine wl0 rfl (op_storeB hf H 3 TF.sz37 rfl rfl rfl rfl rfl rfl (nle rfl) fun w H => ?_)
    refine pr 1 hf rfl rfl fun a hf => ?_
    refine wl_end (then_n (wp_ret (then_r (blk_r (then_r (then_r (blk_r (then_r (then_r (?_))))))))))
    obtain rfl := Option.some.inj hR1
    replace hF := on_ret hF
    obtain rfl := Option.some.inj hF
    refine ret_2 (fn := Tryz.f116) (r := .cell 4 37) (s := .tmp 5) hf rfl (rv_cellN hf H 3 TF.la37 rfl rfl rfl) (rv_tmp hf rfl) ?_
    exact ⟨_, rfl, H.bel, _, _, rfl, (Plan_mkv (x := ({ Network := ({ Nodes := m, Fibers := m2 } : Network), Lights := m3 } : Plan)) (rep_end (α := List ByteArray) (H.get 7 rfl)) (rep_end (α := List Fiber) (H.get 6 rfl)) (rep_end (α := List Light) (H.get 5 rfl))), mk_int⟩
   ·refine wp_skip (then_n (reg (wl0 rfl (op_q hf (rq_loadBN hf H TF.la37 0 rfl rfl rfl rfl) rfl (by decide) fun a hf => ?_))))
    refine wl0 rfl (op_storeB hf H 2 TF.sz37 rfl rfl rfl rfl rfl rfl (nle rfl) fun w H => ?_)
    refine wl_end (blk_n (then_n (reg (pr 2 hf rfl rfl fun a hf => ?_))))
    refine wl_end ?_
    have hf := hf.prune [1, 4, 6, 13, 14, 15] rfl
    have H := H.let [false, false, true, true] [] [] [0, 1, 2, 8] rfl rfl rfl rfl
    exact then_n ⟨(w64 (i + 1), y2.1.Network.Nodes, y2.1.Network.Fibers, y2.1.Lights), hR1, A12, c12, A13, c13, A14, c14, hf, H⟩
  ·refine wp_exit (then_x (then_x (blk_e (?_))))
   have hf := hf.prune [1, 4, 6, 13, 14, 15] rfl
   have H := H.let [true, true] [] [] [0, 1, 2, 3] rfl rfl rfl rfl
   exact ⟨(i, m, m2, m3), (Option.some.inj hR1).symm, A8, c8, A9, c9, A10, c10, hf, H⟩
 rintro a w ⟨⟨i2, m4, m5, m6⟩, rfl, A15, c15, A16, c16, A17, c17, hf, H⟩
 replace hF := on_next hF
 try dsimp only at hF
 refine then_n (sq (reg (wl0 rfl (op_q hf (rq_loadBN hf H TF.la37 0 rfl rfl rfl rfl) rfl (by decide) fun a hf => ?_))))
 refine pr 2 hf rfl rfl fun a hf => ?_
 refine wl0 rfl (op_storeB hf H 1 TF.sz37 rfl rfl rfl rfl rfl rfl (nle rfl) fun w H => ?_)
 refine pr 1 hf rfl rfl fun a hf => ?_
 refine wl_end (then_n (wp_ret (?_)))
 obtain rfl := Option.some.inj hF
 refine ret_2 (fn := Tryz.f116) (r := .cell 4 37) (s := .tmp 5) hf rfl (rv_cellN hf H 1 TF.la37 rfl rfl rfl) (rv_tmp hf rfl) ?_
 exact ⟨_, rfl, H.bel, _, _, rfl, (Plan_mkv (x := ({ Network := ({ Nodes := m4, Fibers := m5 } : Network), Lights := m6 } : Plan)) (rep_end (α := List ByteArray) (H.get 2 rfl)) (rep_end (α := List Fiber) (H.get 1 rfl)) (rep_end (α := List Light) (H.get 0 rfl))), mk_int⟩

/- loop.example/g00897/impl.IsValidChange -/
set_option maxHeartbeats 1000000 in
theorem impl_IsValidChange_ok {fu : Nat} {w0 : World} {S : Nat → Prop} {v0_ : Value} {c : Change} {r : Bool} (h0 : VR w0 S v0_ c) (hF : impl_IsValidChange fu c = some r) :
    Calls Tryz.prog 59 [v0_].toArray w0 fun e w' => ∃ v, e = .returned v ∧ (Below w0.heap.size w0 w' ∧ VR w' (St ⟨w0, []⟩ S [] [] [] true) v r) := by
 obtain ⟨A, c2, A2, c3, A3, c4, A4, c5, A5, c6, rfl, hl, hl2, hl3, hl4, hl5⟩ := Change_open h0
 have H := Mem.start ⟨w0, []⟩ S
 have H := H.pushArg (MP.val [(.slice A c.Plan.Network.Nodes.length c2)] c.Plan.Network.Nodes) hl
 have H := H.pushArg (MP.val [(.slice A2 c.Plan.Network.Fibers.length c3)] c.Plan.Network.Fibers) hl2
 have H := H.pushArg (MP.val [(.slice A3 c.Plan.Lights.length c4)] c.Plan.Lights) hl3
 have H := H.pushArg (MP.val [(.slice A4 c.Actions.length c5)] c.Actions) hl4
 have H := H.pushArg (MP.val [(.slice A5 c.Undo.length c6)] c.Undo) hl5
 refine enter Tryz.func59 rfl rfl (nle rfl) rfl fun a hf => ?_
 rw [impl_IsValidChange] at hF
 refine sq (reg (wl0 rfl (op_box hf H rfl rfl (by decide) fun b' a w hf H => ?_)))
 refine pr 1 hf rfl rfl fun a hf => ?_
 refine wl_end (then_n (sq (sq ?_)))
 obtain ⟨c7, hGc7, hF⟩ := bind_some hF
 have fh := hf.prune [1] rfl
 have Hm := H.let [true] [] [] [0, 1, 2, 3, 4] rfl rfl rfl rfl
 refine midF 28 (.bool c7) fh Hm ?_ fun a w hf H => ?_
 ·refine reg (pr 1 hf rfl rfl fun a hf => ?_)
  refine wl0 rfl (op_q hf (rq_loadBN hf H TF.la37 0 rfl rfl rfl rfl) rfl (by decide) fun a hf => ?_)
  obtain ⟨y, hy, hGc7⟩ := bind_some hGc7
  refine wl0 rfl (op_call hf TF.cl72 rfl (by decide) (impl_IsValidPlan_ok (S := fun _ => True) (Plan_mkv (x := c.Plan) (rep_true (α := List ByteArray) (H.get 4 rfl)) (rep_true (α := List Fiber) (H.get 3 rfl)) (rep_true (α := List Light) (H.get 2 rfl))) hy) fun v w a hp hf => ?_)
  obtain ⟨hb, hp⟩ := hp
  obtain rfl := VR_bool hp
  have H := H.keep hb
  refine pr 2 hf rfl rfl fun a hf => ?_
  refine iteB hGc7 (fun hc hGc7 => ?_) fun hc hGc7 => ?_
  ·have hf := hf.lit 9 rfl hc
   refine pr 13 hf rfl rfl fun a hf => ?_
   refine wlsu hf rfl rfl rfl rfl (by decide) fun a hf => ?_
   refine wlsu hf rfl rfl rfl rfl (by decide) fun a hf => ?_
   refine wlsu hf rfl rfl rfl rfl (by decide) fun a hf => ?_
   refine wlsu hf rfl rfl rfl rfl (by decide) fun a hf => ?_
   refine pr 2 hf rfl rfl fun a hf => ?_
   obtain rfl := Option.some.inj hGc7
   have hf := hf.prune [28, 1] rfl
   have H := H.let [true] [] [] [0, 1, 2, 3, 4] rfl rfl rfl rfl
   exact wl_end ⟨hf, H⟩
  ·have hf := hf.lit 9 rfl hc
   refine pr 1 hf rfl rfl fun a hf => ?_
   refine wlg hf rfl rfl rfl (op_q hf (rq_loadB hf H TF.ls65 0 rfl rfl rfl) rfl (by decide) fun a hf => ?_)
   refine pr 2 hf rfl rfl fun a hf => ?_
   refine wlg hf rfl rfl rfl (op_q hf (rq_loadB hf H TF.ls65 0 rfl rfl rfl) rfl (by decide) fun a hf => ?_)
   refine pr 5 hf rfl rfl fun a hf => ?_
   refine iteB hGc7 (fun hc2 hGc7 => ?_) fun hc2 hGc7 => ?_
   ·have hf := hf.lit 19 rfl hc2
    refine pr 3 hf rfl rfl fun a hf => ?_
    refine wlsu hf rfl rfl rfl rfl (by decide) fun a hf => ?_
    refine wlsu hf rfl rfl rfl rfl (by decide) fun a hf => ?_
    refine wlsu hf rfl rfl rfl rfl (by decide) fun a hf => ?_
    refine wlsu hf rfl rfl rfl rfl (by decide) fun a hf => ?_
    refine pr 2 hf rfl rfl fun a hf => ?_
    obtain rfl := Option.some.inj hGc7
    have hf := hf.prune [28, 1] rfl
    have H := H.let [true] [] [] [0, 1, 2, 3, 4] rfl rfl rfl rfl
    exact wl_end ⟨hf, H⟩
   ·have hf := hf.lit 19 rfl hc2
    refine pr 1 hf rfl rfl fun a hf => ?_
    refine wlg hf rfl rfl rfl (op_q hf (rq_loadB hf H TF.ls4 0 rfl rfl rfl) rfl (by decide) fun a hf => ?_)
    refine pr 1 hf rfl rfl fun a hf => ?_
    refine iteB hGc7 (fun hc3 hGc7 => ?_) fun hc3 hGc7 => ?_
    ·have hf := hf.lit 22 rfl hc3
     refine pr 1 hf rfl rfl fun a hf => ?_
     refine wlg hf rfl rfl rfl (op_q hf (rq_loadB hf H TF.ls65 0 rfl rfl rfl) rfl (by decide) fun a hf => ?_)
     refine pr 4 hf rfl rfl fun a hf => ?_
     obtain rfl := Option.some.inj hGc7
     have hf := hf.prune [28, 1] rfl
     have H := H.let [true] [] [] [0, 1, 2, 3, 4] rfl rfl rfl rfl
     exact wl_end ⟨hf, H⟩
    ·have hf := hf.lit 22 rfl hc3
     refine pr 6 hf rfl rfl fun a hf => ?_
     obtain rfl := Option.some.inj hGc7
     have hf := hf.prune [28, 1] rfl
     have H := H.let [true] [] [] [0, 1, 2, 3, 4] rfl rfl rfl rfl
     exact wl_end ⟨hf, H⟩
 refine then_n (iteB hF (fun hc4 hF => cd_t hf rfl hc4 ?_) fun hc4 hF => cd_f hf rfl hc4 ?_)
 ·refine sq (reg (pr 1 hf rfl rfl fun a hf => ?_))
  refine wl_end (then_n (wp_ret (then_r (?_))))
  obtain rfl := Option.some.inj hF
  refine ret_1 (fn := Tryz.f59) (r := .tmp 2) hf rfl (rv_tmp hf rfl) ?_
  exact ⟨_, rfl, H.bel, mk_bool⟩
 ·refine wp_skip (then_n (sq (reg (pr 1 hf rfl rfl fun a hf => ?_))))
  refine wl0 rfl (op_q hf (rq_loadBN hf H TF.la37 0 rfl rfl rfl rfl) rfl (by decide) fun a hf => ?_)
  refine pr 1 hf rfl rfl fun a hf => ?_
  refine wl0 rfl (op_q hf (rq_loadB hf H TF.ls65 0 rfl rfl rfl) rfl (by decide) fun a hf => ?_)
  obtain ⟨y2, hy2, hF⟩ := bind_some hF
  refine wl0 rfl (op_call hf TF.cl116 rfl (by decide) (impl_applied_ok (S := fun _ => True) (Plan_mkv (x := c.Plan) (rep_true (α := List ByteArray) (H.get 4 rfl)) (rep_true (α := List Fiber) (H.get 3 rfl)) (rep_true (α := List Light) (H.get 2 rfl))) (mk_list (rep_true (α := List Action) (H.get 0 rfl))) hy2) fun v2 w a hp2 hf => ?_)
  obtain ⟨hb2, v3, v4, rfl, hp3, hp4⟩ := hp2
  obtain ⟨A6, c8, A7, c9, A8, c10, rfl, hl6, hl7, hl8⟩ := Plan_open hp3
  replace hl6 := H.resF (f := MP.val [(.slice A6 y2.1.Network.Nodes.length c8)] y2.1.Network.Nodes) hl6
  replace hl7 := H.resF (f := MP.val [(.slice A7 y2.1.Network.Fibers.length c9)] y2.1.Network.Fibers) hl7
  replace hl8 := H.resF (f := MP.val [(.slice A8 y2.1.Lights.length c10)] y2.1.Lights) hl8
  obtain rfl := VR_int hp4
  have H := H.keep hb2
  have H := H.push (true, MP.val [(.slice A6 y2.1.Network.Nodes.length c8)] y2.1.Network.Nodes) hl6
  have H := H.push (true, MP.val [(.slice A7 y2.1.Network.Fibers.length c9)] y2.1.Network.Fibers) hl7
  have H := H.push (true, MP.val [(.slice A8 y2.1.Lights.length c10)] y2.1.Lights) hl8
  refine pr 3 hf rfl rfl fun a hf => ?_
  refine wl0 rfl (op_alloc hf H TF.zv37 rfl (by decide) fun b2 a w hf H => ?_)
  refine wl0 rfl (op_storeB hf H 0 TF.sz37 rfl rfl rfl rfl rfl rfl (nle rfl) fun w H => ?_)
  refine pr 1 hf rfl rfl fun a hf => ?_
  refine wl_end (then_n (sq (reg (pr 2 hf rfl rfl fun a hf => ?_))))
  refine wl0 rfl (op_q hf (rq_loadB hf H TF.ls65 1 rfl rfl rfl) rfl (by decide) fun a hf => ?_)
  refine pr 3 hf rfl rfl fun a hf => ?_
  have hf := hf.prune [2] rfl
  refine wl_end (then_n (wp_ret (?_)))
  obtain rfl := Option.some.inj hF
  refine ret_1 (fn := Tryz.f59) (r := .tmp 2) hf rfl (rv_tmp hf rfl) ?_
  exact ⟨_, rfl, H.bel, mk_bool⟩

/- loop.example/g00897/laws.FnExactIsValidChange -/
set_option maxHeartbeats 1000000 in
theorem laws_FnExactIsValidChange_ok {fu : Nat} {w0 : World} {S : Nat → Prop} {v0_ : Value} {aC : Change} {r : Bool} (h0 : VR w0 S v0_ aC) (hF : laws_FnExactIsValidChange fu aC = some r) :
    Calls Tryz.prog 14 [v0_].toArray w0 fun e w' => ∃ v, e = .returned v ∧ (Below w0.heap.size w0 w' ∧ VR w' (St ⟨w0, []⟩ S [] [] [] true) v r) := by
 obtain ⟨A, c, A2, c2, A3, c3, A4, c4, A5, c5, rfl, hl, hl2, hl3, hl4, hl5⟩ := Change_open h0
 have H := Mem.start ⟨w0, []⟩ S
 have H := H.pushArg (MP.val [(.slice A aC.Plan.Network.Nodes.length c)] aC.Plan.Network.Nodes) hl
 have H := H.pushArg (MP.val [(.slice A2 aC.Plan.Network.Fibers.length c2)] aC.Plan.Network.Fibers) hl2
 have H := H.pushArg (MP.val [(.slice A3 aC.Plan.Lights.length c3)] aC.Plan.Lights) hl3
 have H := H.pushArg (MP.val [(.slice A4 aC.Actions.length c4)] aC.Actions) hl4
 have H := H.pushArg (MP.val [(.slice A5 aC.Undo.length c5)] aC.Undo) hl5
 refine enter Tryz.func14 rfl rfl (nle rfl) rfl fun a hf => ?_
 rw [laws_FnExactIsValidChange] at hF
 refine sq (reg (wl0 rfl (op_box hf H rfl rfl (by decide) fun b' a w hf H => ?_)))
 refine pr 1 hf rfl rfl fun a hf => ?_
 refine wl_end (then_n (sq (reg (pr 1 hf rfl rfl fun a hf => ?_))))
 refine wl_end (then_n (sq (reg (wl0 rfl (op_q hf (rq_loadBN hf H TF.la83 0 rfl rfl rfl rfl) rfl (by decide) fun a hf => ?_)))))
 refine pr 1 hf rfl rfl fun a hf => ?_
 obtain ⟨y, hy, hF⟩ := bind_some hF
 refine wl0 rfl (op_call hf TF.cl56 rfl (by decide) (laws_szChange_ok (S := fun _ => True) (Change_mkv (x := aC) (rep_true (α := List ByteArray) (H.get 4 rfl)) (rep_true (α := List Fiber) (H.get 3 rfl)) (rep_true (α := List Light) (H.get 2 rfl)) (rep_true (α := List Action) (H.get 1 rfl)) (rep_true (α := List Action) (H.get 0 rfl))) mk_int hy) fun v w a hp hf => ?_)
 obtain ⟨hb, hp⟩ := hp
 obtain rfl := VR_int hp
 have H := H.keep hb
 refine pr 1 hf rfl rfl fun a hf => ?_
 refine wl_end (then_n (sq (sq (reg (pr 2 hf rfl rfl fun a hf => ?_)))))
 refine wl_end (then_n (iteB hF (fun hc hF => cd_t hf rfl hc ?_) fun hc hF => cd_f hf rfl hc ?_))
 ·refine sq (reg (pr 1 hf rfl rfl fun a hf => ?_))
  refine wl_end (then_n (wp_ret (then_r (?_))))
  obtain rfl := Option.some.inj hF
  refine ret_1 (fn := Tryz.f14) (r := .tmp 2) hf rfl (rv_tmp hf rfl) ?_
  exact ⟨_, rfl, H.bel, mk_bool⟩
 ·refine wp_skip (then_n (sq (reg (wl0 rfl (op_q hf (rq_loadBN hf H TF.la83 0 rfl rfl rfl rfl) rfl (by decide) fun a hf => ?_)))))
  obtain ⟨y2, hy2, hF⟩ := bind_some hF
  refine wl0 rfl (op_call hf TF.cl58 rfl (by decide) (laws_toChange_ok (S := fun _ => True) (Change_mkv (x := aC) (rep_true (α := List ByteArray) (H.get 4 rfl)) (rep_true (α := List Fiber) (H.get 3 rfl)) (rep_true (α := List Light) (H.get 2 rfl)) (rep_true (α := List Action) (H.get 1 rfl)) (rep_true (α := List Action) (H.get 0 rfl))) hy2) fun v2 w a hp2 hf => ?_)
  obtain ⟨hb2, F, hp3, hN⟩ := hp2
  obtain ⟨A6, c6, F2, A7, c7, F3, A8, c8, F4, A9, c9, F5, A10, c10, F6, rfl, rfl, hl6, hl7, hl8, hl9, hl10⟩ := Change_vo hp3
  have H := H.addOwn hb2 (X := [(⟨F2, MP.own F2 [(.slice A6 y2.Plan.Network.Nodes.length c6)] (y2.Plan.Network.Nodes : List ByteArray)⟩ : DI), (⟨F3, MP.own F3 [(.slice A7 y2.Plan.Network.Fibers.length c7)] (y2.Plan.Network.Fibers : List Fiber)⟩ : DI), (⟨F4, MP.own F4 [(.slice A8 y2.Plan.Lights.length c8)] (y2.Plan.Lights : List Light)⟩ : DI), (⟨F5, MP.own F5 [(.slice A9 y2.Actions.length c9)] (y2.Actions : List Action)⟩ : DI), (⟨F6, MP.own F6 [(.slice A10 y2.Undo.length c10)] (y2.Undo : List Action)⟩ : DI)]) (by simpa using hN.1) (ps1 hl6 (ps1 hl7 (ps1 hl8 (ps1 hl9 (ps1 hl10 ps0))))) (by simpa using hN.2)
  have H := H.lend 0 rfl
  have H := H.lend 1 rfl
  have H := H.lend 2 rfl
  have H := H.lend 3 rfl
  have H := H.lend 4 rfl
  obtain ⟨y3, hy3, hF⟩ := bind_some hF
  refine wl0 rfl (op_call hf TF.cl57 rfl (by decide) (spec_IsValidChange_ok (S := fun _ => True) (Change_mkv (x := y2) (rep_true (α := List ByteArray) (H.get 4 rfl)) (rep_true (α := List Fiber) (H.get 3 rfl)) (rep_true (α := List Light) (H.get 2 rfl)) (rep_true (α := List Action) (H.get 1 rfl)) (rep_true (α := List Action) (H.get 0 rfl))) hy3) fun v3 w a hp4 hf => ?_)
  obtain ⟨hb3, hp4⟩ := hp4
  obtain rfl := VR_bool hp4
  have H := H.keep hb3
  refine pr 1 hf rfl rfl fun a hf => ?_
  refine wl_end (then_n (sq (reg (wl0 rfl (op_q hf (rq_loadBN hf H TF.la83 0 rfl rfl rfl rfl) rfl (by decide) fun a hf => ?_)))))
  obtain ⟨y4, hy4, hF⟩ := bind_some hF
  refine wl0 rfl (op_call hf TF.cl58 rfl (by decide) (laws_toChange_ok (S := fun _ => True) (Change_mkv (x := aC) (rep_true (α := List ByteArray) (H.get 9 rfl)) (rep_true (α := List Fiber) (H.get 8 rfl)) (rep_true (α := List Light) (H.get 7 rfl)) (rep_true (α := List Action) (H.get 6 rfl)) (rep_true (α := List Action) (H.get 5 rfl))) hy4) fun v4 w a hp5 hf => ?_)
  obtain ⟨hb4, F7, hp6, hN2⟩ := hp5
  obtain ⟨A11, c11, F8, A12, c12, F9, A13, c13, F10, A14, c14, F11, A15, c15, F12, rfl, rfl, hl11, hl12, hl13, hl14, hl15⟩ := Change_vo hp6
  have H := H.addOwn hb4 (X := [(⟨F8, MP.own F8 [(.slice A11 y4.Plan.Network.Nodes.length c11)] (y4.Plan.Network.Nodes : List ByteArray)⟩ : DI), (⟨F9, MP.own F9 [(.slice A12 y4.Plan.Network.Fibers.length c12)] (y4.Plan.Network.Fibers : List Fiber)⟩ : DI), (⟨F10, MP.own F10 [(.slice A13 y4.Plan.Lights.length c13)] (y4.Plan.Lights : List Light)⟩ : DI), (⟨F11, MP.own F11 [(.slice A14 y4.Actions.length c14)] (y4.Actions : List Action)⟩ : DI), (⟨F12, MP.own F12 [(.slice A15 y4.Undo.length c15)] (y4.Undo : List Action)⟩ : DI)]) (by simpa using hN2.1) (ps1 hl11 (ps1 hl12 (ps1 hl13 (ps1 hl14 (ps1 hl15 ps0))))) (by simpa using hN2.2)
  have H := H.lend 0 rfl
  have H := H.lend 1 rfl
  have H := H.lend 2 rfl
  have H := H.lend 3 rfl
  have H := H.lend 4 rfl
  refine wl0 rfl (op_alloc hf H TF.zv74 rfl (by decide) fun b2 a w hf H => ?_)
  refine wl0 rfl (op_storeB hf H 0 TF.sz74 rfl rfl rfl rfl rfl rfl (nle rfl) fun w H => ?_)
  have hf := hf.prune [1, 4, 5] rfl
  refine wl_end (then_n (sq (reg (wl0 rfl (op_q hf (rq_loadBN hf H TF.la74 0 rfl rfl rfl rfl) rfl (by decide) fun a hf => ?_)))))
  obtain ⟨y5, hy5, hF⟩ := bind_some hF
  refine wl0 rfl (op_call hf TF.cl59 rfl (by decide) (impl_IsValidChange_ok (S := fun _ => True) (Change_mkv (x := y4) (rep_true (α := List ByteArray) (H.get 4 rfl)) (rep_true (α := List Fiber) (H.get 3 rfl)) (rep_true (α := List Light) (H.get 2 rfl)) (rep_true (α := List Action) (H.get 1 rfl)) (rep_true (α := List Action) (H.get 0 rfl))) hy5) fun v5 w a hp7 hf => ?_)
  obtain ⟨hb5, hp7⟩ := hp7
  obtain rfl := VR_bool hp7
  have H := H.keep hb5
  refine pr 1 hf rfl rfl fun a hf => ?_
  refine wl_end (then_n (sq (sq (reg (pr 3 hf rfl rfl fun a hf => ?_)))))
  refine wl_end (then_n (iteB hF (fun hc2 hF => cd_t hf rfl hc2 ?_) fun hc2 hF => cd_f hf rfl hc2 ?_))
  ·refine sq (reg (pr 1 hf rfl rfl fun a hf => ?_))
   refine wl_end (then_n (wp_ret (then_r (?_))))
   obtain rfl := Option.some.inj hF
   refine ret_1 (fn := Tryz.f14) (r := .tmp 2) hf rfl (rv_tmp hf rfl) ?_
   exact ⟨_, rfl, H.bel, mk_bool⟩
  ·refine wp_skip (then_n (sq (sq (drawn [] (bs := [false, false, false, false, false]) (fuel := 5) (Checked.mixed Tryz.checked) rfl rfl fun w hb => ?_))))
   have H := H.keep hb
   refine strT (H.let [true, false] [] [false, false, false, false, false, false, false, false, false, false] [] rfl rfl rfl rfl) (fun w H => trivial) fun hS => ?_
   refine tS 0 [] rfl rfl rfl rfl hf (by kernel_rfl) (by kernel_rfl) hS (fun w H => rq_loadBN hf H TF.la74 0 rfl rfl rfl rfl) fun a hf => ?_
   refine strT (H.let [true, true] [] [false, false, false, false, false, false, false, false, false, false] [] rfl rfl rfl rfl) (fun w H => H.let [true, false] [] [] [] rfl rfl rfl rfl) fun hS => ?_
   refine tS 1 [] rfl rfl rfl rfl hf (by kernel_rfl) (by kernel_rfl) hS (fun w H => rq_loadBN hf H TF.la83 1 rfl rfl rfl rfl) fun a hf => ?_
   obtain ⟨y6, hy6, hF⟩ := bind_some hF
   refine n1 2 (by kernel_rfl) rfl rfl (op_call hf TF.cl58 rfl (by decide) (laws_toChange_ok (S := fun _ => True) (Change_mkv (x := aC) (rep_true (α := List ByteArray) (H.get 14 rfl)) (rep_true (α := List Fiber) (H.get 13 rfl)) (rep_true (α := List Light) (H.get 12 rfl)) (rep_true (α := List Action) (H.get 11 rfl)) (rep_true (α := List Action) (H.get 10 rfl))) hy6) fun v6 w a hp8 hf => ?_)
   obtain ⟨hb6, F13, hp9, hN3⟩ := hp8
   obtain ⟨A16, c16, F14, A17, c17, F15, A18, c18, F16, A19, c19, F17, A20, c20, F18, rfl, rfl, hl16, hl17, hl18, hl19, hl20⟩ := Change_vo hp9
   have H := H.addOwn hb6 (X := [(⟨F14, MP.own F14 [(.slice A16 y6.Plan.Network.Nodes.length c16)] (y6.Plan.Network.Nodes : List ByteArray)⟩ : DI), (⟨F15, MP.own F15 [(.slice A17 y6.Plan.Network.Fibers.length c17)] (y6.Plan.Network.Fibers : List Fiber)⟩ : DI), (⟨F16, MP.own F16 [(.slice A18 y6.Plan.Lights.length c18)] (y6.Plan.Lights : List Light)⟩ : DI), (⟨F17, MP.own F17 [(.slice A19 y6.Actions.length c19)] (y6.Actions : List Action)⟩ : DI), (⟨F18, MP.own F18 [(.slice A20 y6.Undo.length c20)] (y6.Undo : List Action)⟩ : DI)]) (by simpa using hN3.1) (ps1 hl16 (ps1 hl17 (ps1 hl18 (ps1 hl19 (ps1 hl20 ps0))))) (by simpa using hN3.2)
   have H := H.lend 0 rfl
   have H := H.lend 1 rfl
   have H := H.lend 2 rfl
   have H := H.lend 3 rfl
   have H := H.lend 4 rfl
   have hS := H.let [true, true] [] [false, false, false, false, false, false, false, false, false, false, false, false, false, false, false] [] rfl rfl rfl rfl
   refine ⟨fun _ => hS, ?_⟩
   obtain ⟨y7, hy7, hF⟩ := bind_some hF
   refine n1 3 (by kernel_rfl) rfl rfl (op_call hf TF.cl51 rfl (by decide) (laws_eqChange_ok (S := fun _ => True) (Change_mkv (x := y4) (rep_true (α := List ByteArray) (H.get 9 rfl)) (rep_true (α := List Fiber) (H.get 8 rfl)) (rep_true (α := List Light) (H.get 7 rfl)) (rep_true (α := List Action) (H.get 6 rfl)) (rep_true (α := List Action) (H.get 5 rfl))) (Change_mkv (x := y6) (rep_true (α := List ByteArray) (H.get 4 rfl)) (rep_true (α := List Fiber) (H.get 3 rfl)) (rep_true (α := List Light) (H.get 2 rfl)) (rep_true (α := List Action) (H.get 1 rfl)) (rep_true (α := List Action) (H.get 0 rfl))) hy7) fun v7 w a hp10 hf => ?_)
   obtain ⟨hb7, hp10⟩ := hp10
   obtain rfl := VR_bool hp10
   have H := H.keep hb7
   have hS := H.let [true, true] [] [false, false, false, false, false, false, false, false, false, false, false, false, false, false, false] [] rfl rfl rfl rfl
   refine ⟨fun _ => hS, ?_⟩
   refine tp 4 rfl rfl hf (by kernel_rfl) (fun _ => hS) rfl fun a hf => ?_
   refine dn (by kernel_rfl) ?_
   have hf := hf.prune [26] rfl
   refine then_n (iteB hF (fun hc3 hF => cd_t hf rfl hc3 ?_) fun hc3 hF => cd_f hf rfl hc3 ?_)
   ·refine sq (reg (pr 1 hf rfl rfl fun a hf => ?_))
    refine wl_end (then_n (wp_ret (then_r (?_))))
    obtain rfl := Option.some.inj hF
    refine ret_1 (fn := Tryz.f14) (r := .tmp 2) hf rfl (rv_tmp hf rfl) ?_
    exact ⟨_, rfl, H.bel, mk_bool⟩
   ·refine wp_skip (then_n (sq (reg (pr 1 hf rfl rfl fun a hf => ?_))))
    refine wl_end (then_n (wp_ret (?_)))
    obtain rfl := Option.some.inj hF
    refine ret_1 (fn := Tryz.f14) (r := .tmp 2) hf rfl (rv_tmp hf rfl) ?_
    exact ⟨_, rfl, H.bel, mk_bool⟩
end AT

