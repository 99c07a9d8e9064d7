/- The Go functions do what is told of them, by program (gen.py). -/
import Derived.Test.YtokhhjepjbhhpaaGreatW1
set_option linter.unusedVariables false
set_option linter.unusedSimpArgs false
set_option maxRecDepth 100000
namespace AT
open Go Go.RowKit Go.Proofs

/- loop.example/g00897/impl.lowered -/
set_option maxHeartbeats 1000000 in
theorem impl_lowered_ok {fu : Nat} {w0 : World} {S : Nat → Prop} {v0_ : Value} {v1_ : Value} {p : Plan} {hitless : Bool} {r : Plan × Int} (h0 : VR w0 S v0_ p) (h1 : VR w0 S v1_ hitless) (hF : impl_lowered fu p hitless = some r) :
    Calls Tryz.prog 73 [v0_, v1_].toArray w0 fun e w' => ∃ v, e = .returned v ∧ (Below w0.heap.size w0 w' ∧ ∃ F0, ∃ u0 u1, v = .tuple #[u0, u1] ∧ VO w' F0 u0 r.1 ∧ VR w' (St ⟨w0, []⟩ S [] [] [] true) u1 r.2 ∧ New w0 w' F0) := by
 obtain ⟨A, c, A2, c2, A3, c3, rfl, hl, hl2, hl3⟩ := Plan_open h0
 obtain rfl := VR_bool h1
 have H := Mem.start ⟨w0, []⟩ S
 have H := H.pushArg (MP.val [(.slice A p.Network.Nodes.length c)] p.Network.Nodes) hl
 have H := H.pushArg (MP.val [(.slice A2 p.Network.Fibers.length c2)] p.Network.Fibers) hl2
 have H := H.pushArg (MP.val [(.slice A3 p.Lights.length c3)] p.Lights) hl3
 refine enter Tryz.func73 rfl rfl (nle rfl) rfl fun a hf => ?_
 rw [impl_lowered] at hF
 refine sq (reg (wl0 rfl (op_box hf H rfl rfl (by decide) fun b' a w hf H => ?_)))
 refine wl0 rfl (op_alloc hf H TF.zv37 rfl (by decide) fun b2 a w hf H => ?_)
 refine pr 1 hf rfl rfl fun a hf => ?_
 refine wl_end (then_n (sq (reg (wl0 rfl (op_q hf (rq_loadBN hf H TF.la37 1 rfl rfl rfl rfl) rfl (by decide) fun a hf => ?_)))))
 obtain ⟨y, hy, hF⟩ := bind_some hF
 refine wl0 rfl (op_call hf TF.cl86 rfl (by decide) (impl_copyPlan_ok (S := fun _ => True) (Plan_mkv (x := p) (rep_true (α := List ByteArray) (H.get 2 rfl)) (rep_true (α := List Fiber) (H.get 1 rfl)) (rep_true (α := List Light) (H.get 0 rfl))) hy) fun v w a hp hf => ?_)
 obtain ⟨hb, F, hp2, hN⟩ := hp
 obtain ⟨A4, c4, F2, A5, c5, F3, A6, c6, F4, rfl, rfl, hl4, hl5, hl6⟩ := Plan_vo hp2
 have H := H.addOwn hb (X := [(⟨F2, MP.own F2 [(.slice A4 y.Network.Nodes.length c4)] (y.Network.Nodes : List ByteArray)⟩ : DI), (⟨F3, MP.own F3 [(.slice A5 y.Network.Fibers.length c5)] (y.Network.Fibers : List Fiber)⟩ : DI), (⟨F4, MP.own F4 [(.slice A6 y.Lights.length c6)] (y.Lights : List Light)⟩ : DI)]) (by simpa using hN.1) (ps1 hl4 (ps1 hl5 (ps1 hl6 ps0))) (by simpa using hN.2)
 have H := H.lend 0 rfl
 have H := H.lend 1 rfl
 have H := H.lend 2 rfl
 have H := H.frontD 2 rfl
 obtain ⟨Fs, E, H, -⟩ := H.thaw rfl
 have H := H.arg (p := MP.val [(.slice A p.Network.Nodes.length c)] p.Network.Nodes) hl
 have H := H.arg (p := MP.val [(.slice A2 p.Network.Fibers.length c2)] p.Network.Fibers) hl2
 have H := H.arg (p := MP.val [(.slice A3 p.Lights.length c3)] p.Lights) hl3
 have H := H.lend 0 rfl
 have H := H.lend 1 rfl
 refine wl0 rfl (op_alloc hf H TF.zv37 rfl (by decide) fun b3 a w hf H => ?_)
 refine wl0 rfl (op_storeB hf H 0 TF.sz37 rfl rfl rfl rfl rfl rfl (nle rfl) fun w H => ?_)
 refine wl_end (then_n (sq (sq (reg (pr 1 hf rfl rfl fun a hf => ?_)))))
 refine wl0 rfl (op_q hf (rq_loadB hf H TF.ls35 2 rfl rfl rfl) rfl (by decide) fun a hf => ?_)
 refine pr 2 hf rfl rfl fun a hf => ?_
 refine wl_end (then_n ?_)
 obtain ⟨out', hB1, hF⟩ := bind_some hF
 have hf := hf.prune [1, 2, 4, 6, 13, 14, 15] rfl
 have H := H.let [true, true, true] [true] [true, true] [0, 1, 2, 3, 4] rfl rfl rfl rfl
 refine loopC (fun (s : Int) (a : Act) (w : World) => match s with | i => Fr a 41 [(1, (.bool hitless)), (2, (.pointer (some ⟨b', 0, none⟩))), (4, (.pointer (some ⟨b2, 0, none⟩))), (6, (.pointer (some ⟨b3, 0, none⟩))), (13, (.slice A3 p.Lights.length c3)), (14, (.int .i64 (p.Lights.length : Int))), (15, (.int .i64 i))] ∧ Mem ⟨w0, []⟩ S [⟨b3, 37, [(.slice A4 y.Network.Nodes.length c4), (.slice A5 y.Network.Fibers.length c5), (.slice A6 y.Lights.length c6)]⟩, ⟨b2, 37, [(.slice none 0 0), (.slice none 0 0), (.slice none 0 0)]⟩, ⟨b', 37, [(.slice A p.Network.Nodes.length c), (.slice A2 p.Network.Fibers.length c2), (.slice A3 p.Lights.length c3)]⟩] [⟨.ow Fs, E, A6, c6, (y.Lights : List Light)⟩] [⟨F2, MP.own F2 [(.slice A4 y.Network.Nodes.length c4)] (y.Network.Nodes : List ByteArray)⟩, ⟨F3, MP.own F3 [(.slice A5 y.Network.Fibers.length c5)] (y.Network.Fibers : List Fiber)⟩] [(true, MP.val [(.slice A5 y.Network.Fibers.length c5)] (y.Network.Fibers : List Fiber)), (true, MP.val [(.slice A4 y.Network.Nodes.length c4)] (y.Network.Nodes : List ByteArray)), (false, MP.val [(.slice A3 p.Lights.length c3)] (p.Lights : List Light)), (false, MP.val [(.slice A2 p.Network.Fibers.length c2)] (p.Network.Fibers : List Fiber)), (false, MP.val [(.slice A p.Network.Nodes.length c)] (p.Network.Nodes : List ByteArray))] w) (fun k (s : Int) => impl_lowered_L1 fu p hitless y k s = some out') (fun s => out' = Out.next s) 0 fu hB1 ⟨hf, H⟩ (fun s h => by cases h) ?_ ?_
 ·rintro fk i a w hR1 hI
  replace hR1 : impl_lowered_L1 fu p hitless y (fk + 1) i = some out' := hR1
  rw [impl_lowered_L1] at hR1
  obtain ⟨hf, H⟩ := hI
  refine sq (reg (pr 1 hf rfl rfl fun a hf => ?_))
  refine wl_end (then_n (sq (iteB hR1 (fun hc hR1 => cd_t hf rfl hc ?_) fun hc hR1 => cd_f hf rfl hc ?_)))
  ·refine wp_skip (then_n (sq (wp_block (sq (reg (pr 1 hf rfl rfl fun a hf => ?_))))))
   obtain ⟨e, he, hR1⟩ := bind_some hR1
   refine wl0 rfl (op_iaddr hf H Tryz.underlying35 TF.sz112 2 rfl rfl rfl he (by decide) fun p2 o cs a hf hr H => ?_)
   obtain ⟨A7, c7, rfl, hl7⟩ := Light_cells hr
   have H := H.push (false, MP.val [(.slice A7 e.Route.Fibers.length c7)] e.Route.Fibers) hl7
   refine wl0 rfl (op_q hf (rq_loadIN hf H TF.la112 1 0 rfl rfl rfl rfl) rfl (by decide) fun a hf => ?_)
   refine wl0 rfl (op_alloc hf H TF.zv112 rfl (by decide) fun b4 a w hf H => ?_)
   refine pr 1 hf rfl rfl fun a hf => ?_
   refine wl0 rfl (op_storeB hf H 0 TF.sz112 rfl rfl rfl rfl rfl rfl (nle rfl) fun w H => ?_)
   refine wl_end (then_n (sq (reg (wl0 rfl (op_q hf (rq_loadBN hf H TF.la37 3 rfl rfl rfl rfl) rfl (by decide) fun a hf => ?_)))))
   refine pr 2 hf rfl rfl fun a hf => ?_
   obtain ⟨y2, hy2, hR1⟩ := bind_some hR1
   refine wl0 rfl (op_call hf TF.cl68 rfl (by decide) (impl_lowest_ok (S := fun _ => True) (Plan_mkv (x := p) (rep_true (α := List ByteArray) (H.get 6 rfl)) (rep_true (α := List Fiber) (H.get 5 rfl)) (rep_true (α := List Light) (H.get 4 rfl))) mk_int mk_bool hy2) fun v2 w a hp3 hf => ?_)
   obtain ⟨hb2, hp3⟩ := hp3
   obtain rfl := VR_int hp3
   have H := H.keep hb2
   refine pr 1 hf rfl rfl fun a hf => ?_
   refine wl_end (then_n (sq (reg (pr 3 hf rfl rfl fun a hf => ?_))))
   refine wl0 rfl (op_q hf (rq_loadB hf H TF.ls3 0 rfl rfl rfl) rfl (by decide) fun a hf => ?_)
   refine pr 1 hf rfl rfl fun a hf => ?_
   refine wl_end (then_n (iteB hR1 (fun hc2 hR1 => cd_t hf rfl hc2 ?_) fun hc2 hR1 => cd_f hf rfl hc2 ?_))
   ·refine sq (reg (pr 1 hf rfl rfl fun a hf => ?_))
    refine wl0 rfl (op_q hf (rq_loadB hf H TF.ls35 1 rfl rfl rfl) rfl (by decide) fun a hf => ?_)
    refine pr 2 hf rfl rfl fun a hf => ?_
    obtain ⟨e2, he2, hR1⟩ := bind_some hR1
    refine wl0 rfl (op_iaddrR hf H Tryz.underlying35 TF.sz112 0 rfl rfl rfl he2 (by decide) fun p3 o2 cs2 a hf hA hr2 hk => ?_)
    have hrk := hr2
    obtain ⟨A8, c8, rfl, hl8⟩ := Light_cells hr2
    have H := H.push (true, MP.val [(.slice A8 e2.Route.Fibers.length c8)] e2.Route.Fibers) hl8
    refine pr 2 hf rfl rfl fun a hf => ?_
    refine wl0 rfl (op_storeR (e' := ({ Id := e2.Id, Route := e2.Route, Block := ({ First := y2, Count := e2.Block.Count } : Block) } : Light)) (o := o2) (off := 3) hf H TF.sz3 0 rfl rfl rfl rfl rfl (nle rfl) rfl hA he2 (st_own fun F cs h => by obtain ⟨A0, c0, F0, rfl, rfl, l0⟩ := Light_own h; exact Light_ownmk (x := ({ Id := e2.Id, Route := e2.Route, Block := ({ First := y2, Count := e2.Block.Count } : Block) } : Light)) l0) fun w H => ?_)
    replace hf : Fr a 41 [(1, (.bool hitless)), (2, (.pointer (some ⟨b', 0, none⟩))), (4, (.pointer (some ⟨b2, 0, none⟩))), (6, (.pointer (some ⟨b3, 0, none⟩))), (7, (.int .i64 i)), (8, (.pointer (some ⟨b4, 0, none⟩))), (9, (.int .i64 y2)), (13, (.slice A3 p.Lights.length c3)), (14, (.int .i64 (p.Lights.length : Int))), (15, (.int .i64 i)), (16, (.bool (decide (i < (p.Lights.length : Int))))), (17, (.int .i64 i)), (18, (.pointer (some ⟨p2, o + 0, none⟩))), (19, (.agg #[(.int .i64 e.Id), (.int .i64 e.Route.Start), (.slice A7 e.Route.Fibers.length c7), (.int .i64 e.Block.First), (.int .i64 e.Block.Count)])), (20, (.agg #[(.slice A p.Network.Nodes.length c), (.slice A2 p.Network.Fibers.length c2), (.slice A3 p.Lights.length c3)])), (21, (.int .i64 i)), (22, (.bool hitless)), (23, (.int .i64 y2)), (24, (.int .i64 y2)), (25, (.pointer (some ⟨b4, 3, none⟩))), (26, (.pointer (some ⟨b4, 3, none⟩))), (27, (.int .i64 e.Block.First)), (28, (.bool (decide (y2 < e.Block.First)))), (29, (.pointer (some ⟨b3, 2, none⟩))), (30, (.slice A6 y.Lights.length c6)), (31, (.int .i64 i)), (32, (.int .i64 y2)), (33, (.pointer (some ⟨p3, o2 + 0, none⟩))), (34, (.pointer (some ⟨p3, o2 + 3, none⟩))), (35, (.pointer (some ⟨p3, o2 + 3, none⟩)))] := hf.prune [1, 2, 4, 6, 7, 8, 9, 13, 14, 15, 16, 17, 18, 19, 20, 21, 22, 23, 24, 25, 26, 27, 28, 29, 30, 31, 32, 33, 34, 35] rfl
    replace hf : Fr a 41 [(1, (.bool hitless)), (2, (.pointer (some ⟨b', 0, none⟩))), (4, (.pointer (some ⟨b2, 0, none⟩))), (6, (.pointer (some ⟨b3, 0, none⟩))), (7, (.int .i64 i)), (8, (.pointer (some ⟨b4, 0, none⟩))), (9, (.int .i64 y2)), (13, (.slice A3 p.Lights.length c3)), (14, (.int .i64 (p.Lights.length : Int))), (15, (.int .i64 i)), (16, (.bool (decide (i < (p.Lights.length : Int))))), (17, (.int .i64 i)), (18, (.pointer (some ⟨p2, o + 0, none⟩))), (19, (.agg #[(.int .i64 e.Id), (.int .i64 e.Route.Start), (.slice A7 e.Route.Fibers.length c7), (.int .i64 e.Block.First), (.int .i64 e.Block.Count)])), (20, (.agg #[(.slice A p.Network.Nodes.length c), (.slice A2 p.Network.Fibers.length c2), (.slice A3 p.Lights.length c3)])), (21, (.int .i64 i)), (22, (.bool hitless)), (23, (.int .i64 y2)), (24, (.int .i64 y2)), (25, (.pointer (some ⟨b4, 3, none⟩))), (26, (.pointer (some ⟨b4, 3, none⟩))), (27, (.int .i64 e.Block.First)), (28, (.bool (decide (y2 < e.Block.First)))), (29, (.pointer (some ⟨b3, 2, none⟩))), (30, (.slice A6 (y.Lights.set (i).toNat ({ Id := e2.Id, Route := e2.Route, Block := ({ First := y2, Count := e2.Block.Count } : Block) } : Light)).length c6)), (31, (.int .i64 i)), (32, (.int .i64 y2)), (33, (.pointer (some ⟨p3, o2 + 0, none⟩))), (34, (.pointer (some ⟨p3, o2 + 3, none⟩))), (35, (.pointer (some ⟨p3, o2 + 3, none⟩)))] := by simpa only [List.length_set, Nat.add_zero] using hf
    replace H : Mem ⟨w0, []⟩ S [⟨b4, 112, [(.int .i64 e.Id), (.int .i64 e.Route.Start), (.slice A7 e.Route.Fibers.length c7), (.int .i64 e.Block.First), (.int .i64 e.Block.Count)]⟩, ⟨b3, 37, [(.slice A4 y.Network.Nodes.length c4), (.slice A5 y.Network.Fibers.length c5), (.slice A6 (y.Lights.set (i).toNat ({ Id := e2.Id, Route := e2.Route, Block := ({ First := y2, Count := e2.Block.Count } : Block) } : Light)).length c6)]⟩, ⟨b2, 37, [(.slice none 0 0), (.slice none 0 0), (.slice none 0 0)]⟩, ⟨b', 37, [(.slice A p.Network.Nodes.length c), (.slice A2 p.Network.Fibers.length c2), (.slice A3 p.Lights.length c3)]⟩] [⟨.ow Fs, E, A6, c6, (y.Lights.set (i).toNat ({ Id := e2.Id, Route := e2.Route, Block := ({ First := y2, Count := e2.Block.Count } : Block) } : Light) : List Light)⟩] [⟨F2, MP.own F2 [(.slice A4 y.Network.Nodes.length c4)] (y.Network.Nodes : List ByteArray)⟩, ⟨F3, MP.own F3 [(.slice A5 y.Network.Fibers.length c5)] (y.Network.Fibers : List Fiber)⟩] [(true, MP.val [(.slice A8 e2.Route.Fibers.length c8)] (e2.Route.Fibers : List Int)), (false, MP.val [(.slice A7 e.Route.Fibers.length c7)] (e.Route.Fibers : List Int)), (false, MP.cells ⟨p2, o, none⟩ [(.int .i64 e.Id), (.int .i64 e.Route.Start), (.slice A7 e.Route.Fibers.length c7), (.int .i64 e.Block.First), (.int .i64 e.Block.Count)]), (true, MP.val [(.slice A5 y.Network.Fibers.length c5)] (y.Network.Fibers : List Fiber)), (true, MP.val [(.slice A4 y.Network.Nodes.length c4)] (y.Network.Nodes : List ByteArray)), (false, MP.val [(.slice A3 p.Lights.length c3)] (p.Lights : List Light)), (false, MP.val [(.slice A2 p.Network.Fibers.length c2)] (p.Network.Fibers : List Fiber)), (false, MP.val [(.slice A p.Network.Nodes.length c)] (p.Network.Nodes : List ByteArray))] w := by simp only [List.length_set]; exact H
    have hf := hf.prune [4, 6, 8] rfl
    refine wl_end (then_n (sq (drawn [3] (bs := [false, false, false, false, false]) (fuel := 5) (Checked.mixed Tryz.checked) rfl rfl fun w hb => ?_)))
    have H := H.keep hb
    refine strT (H.let [false, true, false, false] [false] [false, false] [] rfl rfl rfl rfl) (fun w H => trivial) fun hS => ?_
    refine tS 0 [0, 3, 4] rfl rfl rfl rfl hf (by kernel_rfl) (by kernel_rfl) hS (fun w H => rq_loadBN hf H TF.la37 0 rfl rfl rfl rfl) fun a hf => ?_
    refine tp 1 rfl rfl hf (by kernel_rfl) (fun _ => hS) rfl fun a hf => ?_
    refine on2 (i := 2) (j := 3) (bi := [true, true, true, false, false]) (bj := [true, true, false, true, false]) (by kernel_rfl) rfl rfl rfl rfl rfl rfl ?_ ?_
    ·refine (op_q hf (rq_loadB hf H TF.ls3 0 rfl rfl rfl) rfl (by decide) fun a hf => ?_)
     have hS := H.let [false, true, false, false] [false] [false, false] [] rfl rfl rfl rfl
     refine ⟨fun _ => hS, ?_⟩
     refine n1 3 (by kernel_rfl) rfl rfl (op_storeB hf H 2 TF.sz37 rfl rfl rfl rfl rfl rfl (nle rfl) fun w H => ?_)
     refine ⟨fun h => absurd h (by decide), ?_⟩
     refine tp 4 rfl rfl hf (by kernel_rfl) (fun h => absurd h (by decide)) rfl fun a hf => ?_
     refine dn (by kernel_rfl) ?_
     refine then_n (wp_ret (blk_r (then_r (then_r (blk_r (then_r (then_r (?_))))))))
     obtain ⟨F5, H⟩ := H.freezeOwn 0 rfl
     have H := H.lend 0 rfl
     have H := H.frontD 2 rfl
     have H := H.frontD 2 rfl
     obtain rfl := Option.some.inj hR1
     replace hF := on_ret hF
     obtain rfl := Option.some.inj hF
     refine ret_2 (fn := Tryz.f73) (r := .cell 4 37) (s := .tmp 5) hf rfl (rv_cellN hf H 2 TF.la37 rfl rfl rfl) (rv_tmp hf rfl) ?_
     have hN := H.ends (X := [(⟨F2, MP.own F2 [(.slice A4 y.Network.Nodes.length c4)] (y.Network.Nodes : List ByteArray)⟩ : DI), (⟨F3, MP.own F3 [(.slice A5 y.Network.Fibers.length c5)] (y.Network.Fibers : List Fiber)⟩ : DI), (⟨F5, MP.own F5 [(.slice A6 (y.Lights.set (i).toNat ({ Id := e2.Id, Route := e2.Route, Block := ({ First := y2, Count := e2.Block.Count } : Block) } : Light)).length c6)] (y.Lights.set (i).toNat ({ Id := e2.Id, Route := e2.Route, Block := ({ First := y2, Count := e2.Block.Count } : Block) } : Light) : List Light)⟩ : DI)])
     simp only [List.flatMap_cons, List.flatMap_nil, List.append_nil, List.append_assoc] at hN
     exact ⟨_, rfl, H.bel, (F2 ++ (F3 ++ F5)), _, _, rfl, ⟨_, Plan_ownmk (x := ({ Network := y.Network, Lights := y.Lights.set (i).toNat ({ Id := e2.Id, Route := e2.Route, Block := ({ First := y2, Count := e2.Block.Count } : Block) } : Light) } : Plan)) (H.ownAt 0 rfl) (H.ownAt 1 rfl) (H.ownAt 2 rfl), rfl⟩, mk_int, hN⟩
    ·refine (op_storeB hf H 2 TF.sz37 rfl rfl rfl rfl rfl rfl (nle rfl) fun w H => ?_)
     refine ⟨fun h => absurd h (by decide), ?_⟩
     refine n1 2 (by kernel_rfl) rfl rfl (op_q hf (rq_loadB hf H TF.ls3 0 rfl rfl rfl) rfl (by decide) fun a hf => ?_)
     refine ⟨fun h => absurd h (by decide), ?_⟩
     refine tp 4 rfl rfl hf (by kernel_rfl) (fun h => absurd h (by decide)) rfl fun a hf => ?_
     refine dn (by kernel_rfl) ?_
     refine then_n (wp_ret (blk_r (then_r (then_r (blk_r (then_r (then_r (?_))))))))
     obtain ⟨F5, H⟩ := H.freezeOwn 0 rfl
     have H := H.lend 0 rfl
     have H := H.frontD 2 rfl
     have H := H.frontD 2 rfl
     obtain rfl := Option.some.inj hR1
     replace hF := on_ret hF
     obtain rfl := Option.some.inj hF
     refine ret_2 (fn := Tryz.f73) (r := .cell 4 37) (s := .tmp 5) hf rfl (rv_cellN hf H 2 TF.la37 rfl rfl rfl) (rv_tmp hf rfl) ?_
     have hN := H.ends (X := [(⟨F2, MP.own F2 [(.slice A4 y.Network.Nodes.length c4)] (y.Network.Nodes : List ByteArray)⟩ : DI), (⟨F3, MP.own F3 [(.slice A5 y.Network.Fibers.length c5)] (y.Network.Fibers : List Fiber)⟩ : DI), (⟨F5, MP.own F5 [(.slice A6 (y.Lights.set (i).toNat ({ Id := e2.Id, Route := e2.Route, Block := ({ First := y2, Count := e2.Block.Count } : Block) } : Light)).length c6)] (y.Lights.set (i).toNat ({ Id := e2.Id, Route := e2.Route, Block := ({ First := y2, Count := e2.Block.Count } : Block) } : Light) : List Light)⟩ : DI)])
     simp only [List.flatMap_cons, List.flatMap_nil, List.append_nil, List.append_assoc] at hN
     exact ⟨_, rfl, H.bel, (F2 ++ (F3 ++ F5)), _, _, rfl, ⟨_, Plan_ownmk (x := ({ Network := y.Network, Lights := y.Lights.set (i).toNat ({ Id := e2.Id, Route := e2.Route, Block := ({ First := y2, Count := e2.Block.Count } : Block) } : Light) } : Plan)) (H.ownAt 0 rfl) (H.ownAt 1 rfl) (H.ownAt 2 rfl), rfl⟩, mk_int, hN⟩
   ·refine wp_skip (blk_n (then_n (reg (pr 2 hf rfl rfl fun a hf => ?_))))
    have hf := hf.prune [1, 2, 4, 6, 13, 14, 15] rfl
    refine wl_end ?_
    have hf := hf.prune [1, 2, 4, 6, 13, 14, 15] rfl
    have H := H.let [false, true, true, true] [true] [true, true] [2, 3, 4, 5, 6] rfl rfl rfl rfl
    exact then_n ⟨w64 (i + 1), hR1, hf, H⟩
  ·refine wp_exit (then_x (then_x (blk_e (?_))))
   have hf := hf.prune [1, 2, 4, 6, 13, 14, 15] rfl
   have H := H.let [true, true, true] [true] [true, true] [0, 1, 2, 3, 4] rfl rfl rfl rfl
   exact ⟨i, (Option.some.inj hR1).symm, hf, H⟩
 rintro a w ⟨i2, rfl, hf, H⟩
 replace hF := on_next hF
 refine then_n (sq (reg (wl0 rfl (op_q hf (rq_loadBN hf H TF.la37 0 rfl rfl rfl rfl) rfl (by decide) fun a hf => ?_))))
 refine wl0 rfl (op_storeB hf H 1 TF.sz37 rfl rfl rfl rfl rfl rfl (nle rfl) fun w H => ?_)
 refine pr 1 hf rfl rfl fun a hf => ?_
 refine wl_end (then_n (wp_ret (?_)))
 obtain ⟨F6, H⟩ := H.freezeOwn 0 rfl
 have H := H.lend 0 rfl
 have H := H.frontD 2 rfl
 have H := H.frontD 2 rfl
 obtain rfl := Option.some.inj hF
 refine ret_2 (fn := Tryz.f73) (r := .cell 4 37) (s := .tmp 5) hf rfl (rv_cellN hf H 1 TF.la37 rfl rfl rfl) (rv_tmp hf rfl) ?_
 have hN := H.ends (X := [(⟨F2, MP.own F2 [(.slice A4 y.Network.Nodes.length c4)] (y.Network.Nodes : List ByteArray)⟩ : DI), (⟨F3, MP.own F3 [(.slice A5 y.Network.Fibers.length c5)] (y.Network.Fibers : List Fiber)⟩ : DI), (⟨F6, MP.own F6 [(.slice A6 y.Lights.length c6)] (y.Lights : List Light)⟩ : DI)])
 simp only [List.flatMap_cons, List.flatMap_nil, List.append_nil, List.append_assoc] at hN
 exact ⟨_, rfl, H.bel, (F2 ++ (F3 ++ F6)), _, _, rfl, ⟨_, Plan_ownmk (x := y) (H.ownAt 0 rfl) (H.ownAt 1 rfl) (H.ownAt 2 rfl), rfl⟩, mk_int, hN⟩

/- loop.example/g00897/impl.Defragment -/
set_option maxHeartbeats 1000000 in
theorem impl_Defragment_ok {fu : Nat} {w0 : World} {S : Nat → Prop} {v0_ : Value} {v1_ : Value} {v2_ : Value} {p : Plan} {hitless : Bool} {limit : Int} {r : Plan × List Int × Bool} (h0 : VR w0 S v0_ p) (h1 : VR w0 S v1_ hitless) (h2 : VR w0 S v2_ limit) (hF : impl_Defragment fu p hitless limit = some r) :
    Calls Tryz.prog 32 [v0_, v1_, v2_].toArray w0 fun e w' => ∃ v, e = .returned v ∧ (Below w0.heap.size w0 w' ∧ ∃ F0 F1, ∃ u0 u1 u2, v = .tuple #[u0, u1, u2] ∧ VO w' F0 u0 r.1 ∧ VO w' F1 u1 r.2.1 ∧ VR w' (St ⟨w0, []⟩ S [] [] [] true) u2 r.2.2 ∧ New w0 w' (F0 ++ F1)) := by
 obtain ⟨A, c, A2, c2, A3, c3, rfl, hl, hl2, hl3⟩ := Plan_open h0
 obtain rfl := VR_bool h1
 obtain rfl := VR_int h2
 have H := Mem.start ⟨w0, []⟩ S
 have H := H.pushArg (MP.val [(.slice A p.Network.Nodes.length c)] p.Network.Nodes) hl
 have H := H.pushArg (MP.val [(.slice A2 p.Network.Fibers.length c2)] p.Network.Fibers) hl2
 have H := H.pushArg (MP.val [(.slice A3 p.Lights.length c3)] p.Lights) hl3
 refine enter Tryz.func32 rfl rfl (nle rfl) rfl fun a hf => ?_
 rw [impl_Defragment] at hF
 refine sq (reg (wl0 rfl (op_box hf H rfl rfl (by decide) fun b' a w hf H => ?_)))
 refine wl0 rfl (op_alloc hf H TF.zv37 rfl (by decide) fun b2 a w hf H => ?_)
 refine pr 2 hf rfl rfl fun a hf => ?_
 refine wl_end (then_n (sq (sq ?_)))
 obtain ⟨c4, hGc4, hF⟩ := bind_some hF
 have fh := hf.prune [1, 2, 3, 6] rfl
 have Hm := H.let [true, true] [] [] [0, 1, 2] rfl rfl rfl rfl
 refine midF 20 (.bool c4) fh Hm ?_ fun a w hf H => ?_
 ·refine reg (wl0 rfl (op_q hf (rq_loadBN hf H TF.la37 1 rfl rfl rfl rfl) rfl (by decide) fun a hf => ?_))
  obtain ⟨y, hy, hGc4⟩ := bind_some hGc4
  refine wl0 rfl (op_call hf TF.cl72 rfl (by decide) (impl_IsValidPlan_ok (S := fun _ => True) (Plan_mkv (x := p) (rep_true (α := List ByteArray) (H.get 2 rfl)) (rep_true (α := List Fiber) (H.get 1 rfl)) (rep_true (α := List Light) (H.get 0 rfl))) hy) fun v w a hp hf => ?_)
  obtain ⟨hb, hp⟩ := hp
  obtain rfl := VR_bool hp
  have H := H.keep hb
  refine pr 2 hf rfl rfl fun a hf => ?_
  refine iteB hGc4 (fun hc hGc4 => ?_) fun hc hGc4 => ?_
  ·have hf := hf.lit 16 rfl hc
   refine pr 4 hf rfl rfl fun a hf => ?_
   obtain rfl := Option.some.inj hGc4
   have hf := hf.prune [20, 1, 2, 3, 6] rfl
   have H := H.let [true, true] [] [] [0, 1, 2] rfl rfl rfl rfl
   exact wl_end ⟨hf, H⟩
  ·have hf := hf.lit 16 rfl hc
   refine pr 1 hf rfl rfl fun a hf => ?_
   obtain ⟨y2, hy2, hGc4⟩ := bind_some hGc4
   refine wlg hf rfl rfl rfl (op_call hf TF.cl85 rfl (by decide) (impl_within_ok (S := fun _ => True) mk_int mk_int mk_int hy2) fun v2 w a hp2 hf => ?_)
   obtain ⟨hb2, hp2⟩ := hp2
   obtain rfl := VR_bool hp2
   have H := H.keep hb2
   refine pr 2 hf rfl rfl fun a hf => ?_
   obtain rfl := Option.some.inj hGc4
   have hf := hf.prune [20, 1, 2, 3, 6] rfl
   have H := H.let [true, true] [] [] [0, 1, 2] rfl rfl rfl rfl
   exact wl_end ⟨hf, H⟩
 refine then_n (iteB hF (fun hc2 hF => cd_t hf rfl hc2 ?_) fun hc2 hF => cd_f hf rfl hc2 ?_)
 ·refine sq (reg (wl0 rfl (op_q hf (rq_build hf (cs := [(.slice none 0 0), (.slice none 0 0), (.slice none 0 0)]) rfl (fun w => by kernel_rfl)) rfl (by decide) fun a hf => ?_)))
  refine wl0 rfl (op_storeB hf H 0 TF.sz37 rfl rfl rfl rfl rfl rfl (nle rfl) fun w H => ?_)
  refine pr 2 hf rfl rfl fun a hf => ?_
  refine wl_end (then_n (wp_ret (then_r (?_))))
  have H := H.ownNil (ByteArray)
  have H := H.lend 0 rfl
  have H := H.ownNil (Fiber)
  have H := H.lend 0 rfl
  have H := H.ownNil (Light)
  have H := H.lend 0 rfl
  have H := H.ownNil (Int)
  have H := H.lend 0 rfl
  have H := H.frontD 1 rfl
  have H := H.frontD 2 rfl
  have H := H.frontD 3 rfl
  obtain rfl := Option.some.inj hF
  refine ret_3 (fn := Tryz.f32) (r := .cell 6 37) (s := .tmp 7) (t := .tmp 8) hf rfl (rv_cellN hf H 0 TF.la37 rfl rfl rfl) (rv_tmp hf rfl) (rv_tmp hf rfl) ?_
  have hN := H.ends (X := [(⟨[], MP.own [] [(.slice none 0 0)] ([] : List ByteArray)⟩ : DI), (⟨[], MP.own [] [(.slice none 0 0)] ([] : List Fiber)⟩ : DI), (⟨[], MP.own [] [(.slice none 0 0)] ([] : List Light)⟩ : DI), (⟨[], MP.own [] [(.slice none 0 0)] ([] : List Int)⟩ : DI)])
  simp only [List.flatMap_cons, List.flatMap_nil, List.append_nil, List.append_assoc] at hN
  exact ⟨_, rfl, H.bel, ([] ++ ([] ++ [])), [], _, _, _, rfl, ⟨_, Plan_ownmk (x := ({ Network := ({ Nodes := [], Fibers := [] } : Network), Lights := [] } : Plan)) (H.ownAt 0 rfl) (H.ownAt 1 rfl) (H.ownAt 2 rfl), rfl⟩, (mko_list (H.ownAt 3 rfl)), mk_bool, by simpa using hN⟩
 ·refine wp_skip (then_n (sq (reg (wl0 rfl (op_q hf (rq_loadBN hf H TF.la37 1 rfl rfl rfl rfl) rfl (by decide) fun a hf => ?_)))))
  obtain ⟨y3, hy3, hF⟩ := bind_some hF
  refine wl0 rfl (op_call hf TF.cl86 rfl (by decide) (impl_copyPlan_ok (S := fun _ => True) (Plan_mkv (x := p) (rep_true (α := List ByteArray) (H.get 2 rfl)) (rep_true (α := List Fiber) (H.get 1 rfl)) (rep_true (α := List Light) (H.get 0 rfl))) hy3) fun v3 w a hp3 hf => ?_)
  obtain ⟨hb3, F, hp4, hN⟩ := hp3
  obtain ⟨A4, c5, F2, A5, c6, F3, A6, c7, F4, rfl, rfl, hl4, hl5, hl6⟩ := Plan_vo hp4
  have H := H.addOwn hb3 (X := [(⟨F2, MP.own F2 [(.slice A4 y3.Network.Nodes.length c5)] (y3.Network.Nodes : List ByteArray)⟩ : DI), (⟨F3, MP.own F3 [(.slice A5 y3.Network.Fibers.length c6)] (y3.Network.Fibers : List Fiber)⟩ : DI), (⟨F4, MP.own F4 [(.slice A6 y3.Lights.length c7)] (y3.Lights : List Light)⟩ : DI)]) (by simpa using hN.1) (ps1 hl4 (ps1 hl5 (ps1 hl6 ps0))) (by simpa using hN.2)
  have H := H.lend 0 rfl
  have H := H.lend 1 rfl
  have H := H.lend 2 rfl
  refine wl0 rfl (op_bslice hf H (.sh true) rfl 3 ([] : List Int) [] rfl (fun w => by kernel_rfl) rfl (by decide) rfl trivial el0 (by decide) fun A7 a w hf H => ?_)
  refine wl0 rfl (op_alloc hf H TF.zv37 rfl (by decide) fun b3 a w hf H => ?_)
  refine wl0 rfl (op_storeB hf H 0 TF.sz37 rfl rfl rfl rfl rfl rfl (nle rfl) fun w H => ?_)
  refine pr 1 hf rfl rfl fun a hf => ?_
  refine wl_end (then_n (sq (sq (reg (pr 2 hf rfl rfl fun a hf => ?_)))))
  refine wl_end (then_n ?_)
  obtain ⟨out', hB1, hF⟩ := bind_some hF
  have hf := hf.prune [1, 6, 9, 10, 25, 26] rfl
  have H := H.frontD 1 rfl
  have H := H.frontD 2 rfl
  have H := H.let [true, true, false] [true] [true, true, true] [0, 1, 2] rfl rfl rfl rfl
  refine loopC (fun (s : List Int × Int × List ByteArray × List Fiber × List Light) (a : Act) (w : World) => match s with | (ids, i, m, m2, m3) => ∃ (A8 : Option Addr) (c8 : Nat) (E : Go.TypeId) (A9 : Option Addr) (c9 : Nat) (F5 : List Nat) (A10 : Option Addr) (c10 : Nat) (F6 : List Nat) (A11 : Option Addr) (c11 : Nat) (F7 : List Nat), Fr a 44 [(1, (.bool hitless)), (6, (.pointer (some ⟨b2, 0, none⟩))), (9, (.pointer (some ⟨b3, 0, none⟩))), (10, (.slice A8 ids.length c8)), (25, (.int .i64 limit)), (26, (.int .i64 i))] ∧ Mem ⟨w0, []⟩ S [⟨b3, 37, [(.slice A9 m.length c9), (.slice A10 m2.length c10), (.slice A11 m3.length c11)]⟩, ⟨b2, 37, [(.slice none 0 0), (.slice none 0 0), (.slice none 0 0)]⟩] [⟨.sh true, E, A8, c8, (ids : List Int)⟩] [⟨F7, MP.own F7 [(.slice A11 m3.length c11)] (m3 : List Light)⟩, ⟨F6, MP.own F6 [(.slice A10 m2.length c10)] (m2 : List Fiber)⟩, ⟨F5, MP.own F5 [(.slice A9 m.length c9)] (m : List ByteArray)⟩] [(true, MP.val [(.slice A11 m3.length c11)] (m3 : List Light)), (true, MP.val [(.slice A10 m2.length c10)] (m2 : List Fiber)), (true, MP.val [(.slice A9 m.length c9)] (m : List ByteArray))] w) (fun k (s : List Int × Int × List ByteArray × List Fiber × List Light) => impl_Defragment_L1 fu hitless limit k s.1 s.2.1 s.2.2.1 s.2.2.2.1 s.2.2.2.2 = some out') (fun s => out' = s) (([] : List Int), 0, y3.Network.Nodes, y3.Network.Fibers, y3.Lights) fu hB1 ⟨A7, 0, 3, A4, c5, F2, A5, c6, F3, A6, c7, F4, hf, H⟩ (fun s h => by cases h) ?_ ?_
  ·rintro fk ⟨ids, i, m, m2, m3⟩ a w hR1 hI
   replace hR1 : impl_Defragment_L1 fu hitless limit (fk + 1) ids i m m2 m3 = some out' := hR1
   rw [impl_Defragment_L1] at hR1
   obtain ⟨A8, c8, E, A9, c9, F5, A10, c10, F6, A11, c11, F7, hf, H⟩ := hI
   refine sq (reg (pr 1 hf rfl rfl fun a hf => ?_))
   refine wl_end (then_n (sq (iteB hR1 (fun hc3 hR1 => cd_t hf rfl hc3 ?_) fun hc3 hR1 => cd_f hf rfl hc3 ?_)))
   ·refine wp_skip (then_n (sq (wp_block (sq (reg (wl0 rfl (op_q hf (rq_loadBN hf H TF.la37 0 rfl rfl rfl rfl) rfl (by decide) fun a hf => ?_)))))))
    refine pr 1 hf rfl rfl fun a hf => ?_
    obtain ⟨y4, hy4, hR1⟩ := bind_some hR1
    refine wl0 rfl (op_call hf TF.cl73 rfl (by decide) (impl_lowered_ok (S := fun _ => True) (Plan_mkv (x := ({ Network := ({ Nodes := m, Fibers := m2 } : Network), Lights := m3 } : Plan)) (rep_true (α := List ByteArray) (H.get 2 rfl)) (rep_true (α := List Fiber) (H.get 1 rfl)) (rep_true (α := List Light) (H.get 0 rfl))) mk_bool hy4) fun v4 w a hp5 hf => ?_)
    obtain ⟨hb4, F8, v5, v6, rfl, hp6, hp7, hN2⟩ := hp5
    obtain ⟨A12, c12, F9, A13, c13, F10, A14, c14, F11, rfl, rfl, hl7, hl8, hl9⟩ := Plan_vo hp6
    obtain rfl := VR_int hp7
    have H := H.addOwn hb4 (X := [(⟨F9, MP.own F9 [(.slice A12 y4.1.Network.Nodes.length c12)] (y4.1.Network.Nodes : List ByteArray)⟩ : DI), (⟨F10, MP.own F10 [(.slice A13 y4.1.Network.Fibers.length c13)] (y4.1.Network.Fibers : List Fiber)⟩ : DI), (⟨F11, MP.own F11 [(.slice A14 y4.1.Lights.length c14)] (y4.1.Lights : List Light)⟩ : DI)]) (by simpa using hN2.1) (ps1 hl7 (ps1 hl8 (ps1 hl9 ps0))) (by simpa using hN2.2)
    have H := H.lend 0 rfl
    have H := H.lend 1 rfl
    have H := H.lend 2 rfl
    refine pr 3 hf rfl rfl fun a hf => ?_
    refine wl0 rfl (op_alloc hf H TF.zv37 rfl (by decide) fun b4 a w hf H => ?_)
    refine wl0 rfl (op_storeB hf H 0 TF.sz37 rfl rfl rfl rfl rfl rfl (nle rfl) fun w H => ?_)
    refine pr 1 hf rfl rfl fun a hf => ?_
    refine wl_end (then_n (sq (sq (reg (pr 2 hf rfl rfl fun a hf => ?_)))))
    refine wl_end (then_n (iteB hR1 (fun hc4 hR1 => cd_t hf rfl hc4 ?_) fun hc4 hR1 => cd_f hf rfl hc4 ?_))
    ·refine wp_exit (then_x (blk_x rfl (then_x (then_x (blk_e (?_))))))
     have hf := hf.prune [1, 6, 9, 10, 25, 26] rfl
     have H := H.let [false, true, true] [true] [false, false, false, true, true, true] [3, 4, 5] rfl rfl rfl rfl
     exact ⟨(ids, i, m, m2, m3), (Option.some.inj hR1).symm, A8, c8, E, A9, c9, F5, A10, c10, F6, A11, c11, F7, hf, H⟩
    ·refine wp_skip (then_n (drawn [5] (bs := [false, false, false, false, false, false, false]) (fuel := 7) (Checked.mixed Tryz.checked) rfl rfl fun w hb => ?_))
     have H := H.keep hb
     refine strT (H.let [true, false, false] [false] [false, false, false, false, false, false] [] rfl rfl rfl rfl) (fun w H => trivial) fun hS => ?_
     refine tS 0 [0, 5, 6] rfl rfl rfl rfl hf (by kernel_rfl) (by kernel_rfl) hS (fun w H => rq_loadBN hf H TF.la37 0 rfl rfl rfl rfl) fun a hf => ?_
     refine tp 1 rfl rfl hf (by kernel_rfl) (fun _ => hS) rfl fun a hf => ?_
     refine tp 2 rfl rfl hf (by kernel_rfl) (fun _ => hS) rfl fun a hf => ?_
     refine n1 3 (by kernel_rfl) rfl rfl (op_bslice hf H (.sh true) rfl 3 ([y4.2] : List Int) [(.int .i64 y4.2)] rfl (fun w => by kernel_rfl) rfl (by decide) rfl trivial (el1 (y := y4.2) (rfl)) (by decide) fun A15 a w hf H => ?_)
     have hS := H.let [true, false, false] [false, false] [false, false, false, false, false, false] [] rfl rfl rfl rfl
     refine ⟨fun _ => hS, ?_⟩
     obtain ⟨l, hl, hR1⟩ := bind_some hR1
     refine n1 4 (by kernel_rfl) rfl rfl (op_appR hf H Tryz.underlying44 TF.ai3 rfl (by decide) 1 0 rfl rfl rfl rfl (.inr rfl) hl (by decide) fun E2 A16 c15 a w hf H => ?_)
     have hS := H.let [true, false, false] [false, false] [false, false, false, false, false, false] [] rfl rfl rfl rfl
     refine ⟨fun _ => hS, ?_⟩
     refine n1 5 (by kernel_rfl) rfl rfl (op_storeB hf H 1 TF.sz37 rfl rfl rfl rfl rfl rfl (nle rfl) fun w H => ?_)
     refine ⟨fun h => absurd h (by decide), ?_⟩
     refine tp 6 rfl rfl hf (by kernel_rfl) (fun h => absurd h (by decide)) rfl fun a hf => ?_
     refine dn (by kernel_rfl) ?_
     have hf := hf.prune [1, 6, 9, 10, 25, 26] rfl
     refine blk_n (then_n (reg (pr 2 hf rfl rfl fun a hf => ?_)))
     refine wl_end ?_
     have hf := hf.prune [1, 6, 9, 10, 25, 26] rfl
     have H := H.frontD 1 rfl
     have H := H.frontD 2 rfl
     have H := H.let [false, true, true] [false, true] [true, true, true, false, false, false] [0, 1, 2] rfl rfl rfl rfl
     exact then_n ⟨(l, w64 (i + 1), y4.1.Network.Nodes, y4.1.Network.Fibers, y4.1.Lights), hR1, A16, c15, E2, A12, c12, F9, A13, c13, F10, A14, c14, F11, hf, H⟩
   ·refine wp_exit (then_x (then_x (blk_e (?_))))
    have hf := hf.prune [1, 6, 9, 10, 25, 26] rfl
    have H := H.let [true, true] [true] [true, true, true] [0, 1, 2] rfl rfl rfl rfl
    exact ⟨(ids, i, m, m2, m3), (Option.some.inj hR1).symm, A8, c8, E, A9, c9, F5, A10, c10, F6, A11, c11, F7, hf, H⟩
  rintro a w ⟨⟨ids2, i2, m4, m5, m6⟩, rfl, A17, c16, E3, A18, c17, F12, A19, c18, F13, A20, c19, F14, hf, H⟩
  dsimp only at hF
  refine then_n (sq (reg (wl0 rfl (op_q hf (rq_loadBN hf H TF.la37 0 rfl rfl rfl rfl) rfl (by decide) fun a hf => ?_))))
  refine pr 1 hf rfl rfl fun a hf => ?_
  refine wl0 rfl (op_storeB hf H 1 TF.sz37 rfl rfl rfl rfl rfl rfl (nle rfl) fun w H => ?_)
  refine pr 2 hf rfl rfl fun a hf => ?_
  refine wl_end (then_n (wp_ret (?_)))
  have H := H.rowOwn 0 rfl rfl
  obtain ⟨F15, H⟩ := H.freezeOwn 0 rfl
  have H := H.lend 0 rfl
  have H := H.frontD 1 rfl
  have H := H.frontD 2 rfl
  have H := H.frontD 3 rfl
  obtain rfl := Option.some.inj hF
  refine ret_3 (fn := Tryz.f32) (r := .cell 6 37) (s := .tmp 7) (t := .tmp 8) hf rfl (rv_cellN hf H 1 TF.la37 rfl rfl rfl) (rv_tmp hf rfl) (rv_tmp hf rfl) ?_
  have hN := H.ends (X := [(⟨F12, MP.own F12 [(.slice A18 m4.length c17)] (m4 : List ByteArray)⟩ : DI), (⟨F13, MP.own F13 [(.slice A19 m5.length c18)] (m5 : List Fiber)⟩ : DI), (⟨F14, MP.own F14 [(.slice A20 m6.length c19)] (m6 : List Light)⟩ : DI), (⟨F15, MP.own F15 [(.slice A17 ids2.length c16)] (ids2 : List Int)⟩ : DI)])
  simp only [List.flatMap_cons, List.flatMap_nil, List.append_nil, List.append_assoc] at hN
  exact ⟨_, rfl, H.bel, (F12 ++ (F13 ++ F14)), F15, _, _, _, rfl, ⟨_, Plan_ownmk (x := ({ Network := ({ Nodes := m4, Fibers := m5 } : Network), Lights := m6 } : Plan)) (H.ownAt 0 rfl) (H.ownAt 1 rfl) (H.ownAt 2 rfl), rfl⟩, (mko_list (H.ownAt 3 rfl)), mk_bool, by simpa using hN⟩

/- loop.example/g00897/laws.eqStringS -/
set_option maxHeartbeats 1000000 in
theorem laws_eqStringS_ok {fu : Nat} {w0 : World} {S : Nat → Prop} {v0_ : Value} {v1_ : Value} {a' : List ByteArray} {b' : List ByteArray} {r : Bool} (h0 : VR w0 S v0_ a') (h1 : VR w0 S v1_ b') (hF : laws_eqStringS fu a' b' = some r) :
    Calls Tryz.prog 131 [v0_, v1_].toArray w0 fun e w' => ∃ v, e = .returned v ∧ (Below w0.heap.size w0 w' ∧ VR w' (St ⟨w0, []⟩ S [] [] [] true) v r) := by
 obtain ⟨A, c, rfl, hl⟩ := VR_list h0
 obtain ⟨A2, c2, rfl, hl2⟩ := VR_list h1
 have H := Mem.start ⟨w0, []⟩ S
 have H := H.pushArg (MP.val [(.slice A a'.length c)] a') hl
 have H := H.pushArg (MP.val [(.slice A2 b'.length c2)] b') hl2
 refine enter Tryz.func131 rfl rfl (nle rfl) rfl fun a hf => ?_
 rw [laws_eqStringS] at hF
 refine sq (reg (pr 1 hf rfl rfl fun a hf => ?_))
 refine wl_end (then_n (sq (sq (reg (pr 5 hf rfl rfl fun a hf => ?_)))))
 refine wl_end (then_n (iteB hF (fun hc hF => cd_t hf rfl hc ?_) fun hc hF => cd_f hf rfl hc ?_))
 ·refine sq (reg (pr 1 hf rfl rfl fun a hf => ?_))
  refine wl_end (then_n (wp_ret (then_r (?_))))
  obtain rfl := Option.some.inj hF
  refine ret_1 (fn := Tryz.f131) (r := .tmp 4) hf rfl (rv_tmp hf rfl) ?_
  exact ⟨_, rfl, H.bel, mk_bool⟩
 ·refine wp_skip (then_n (sq (sq (reg (pr 1 hf rfl rfl fun a hf => ?_)))))
  refine wl_end (then_n ?_)
  obtain ⟨out', hB1, hF⟩ := bind_some hF
  have hf := hf.prune [0, 1, 5] rfl
  have H := H.let [] [] [] [0, 1] rfl rfl rfl rfl
  refine loopC (fun (s : Int) (a : Act) (w : World) => match s with | i => Fr a 26 [(0, (.slice A a'.length c)), (1, (.slice A2 b'.length c2)), (5, (.int .i64 i))] ∧ Mem ⟨w0, []⟩ S [] [] [] [(false, MP.val [(.slice A2 b'.length c2)] (b' : List ByteArray)), (false, MP.val [(.slice A a'.length c)] (a' : List ByteArray))] w) (fun k (s : Int) => laws_eqStringS_L1 fu a' b' k s = some out') (fun s => out' = Out.next s) 0 fu hB1 ⟨hf, H⟩ (fun s h => by cases h) ?_ ?_
  ·rintro fk i a w hR1 hI
   replace hR1 : laws_eqStringS_L1 fu a' b' (fk + 1) i = some out' := hR1
   rw [laws_eqStringS_L1] at hR1
   obtain ⟨hf, H⟩ := hI
   refine sq (sq (reg (pr 4 hf rfl rfl fun a hf => ?_)))
   refine wl_end (then_n (iteB hR1 (fun hc2 hR1 => cd_t hf rfl hc2 ?_) fun hc2 hR1 => cd_f hf rfl hc2 ?_))
   ·refine wp_skip (then_n (sq (wp_block (sq (drawn [] (bs := [false, false, false, false, false, false, false, false, false]) (fuel := 9) (Checked.mixed Tryz.checked) rfl rfl fun w hb => ?_)))))
    have H := H.keep hb
    refine tp 0 rfl rfl hf (by kernel_rfl) (fun _ => trivial) rfl fun a hf => ?_
    refine tp 1 rfl rfl hf (by kernel_rfl) (fun _ => trivial) rfl fun a hf => ?_
    obtain ⟨e, he, hR1⟩ := bind_some hR1
    obtain ⟨p, o, cs, hx, hr, H⟩ := pre_iaddr H Tryz.underlying22 TF.sz9 1 rfl he
    refine tP 2 rfl rfl rfl rfl hf (by kernel_rfl) (fun _ => trivial) (fun w => rq_iaddrE hf rfl rfl rfl hx w) fun a hf => ?_
    obtain rfl := hr
    refine strT (H.let [] [] [] [0] rfl rfl rfl rfl) (fun w H => trivial) fun hS => ?_
    refine tS 3 [] rfl rfl rfl rfl hf (by kernel_rfl) (by kernel_rfl) hS (fun w H => rq_loadI hf H TF.ls9 0 0 rfl rfl rfl) fun a hf => ?_
    refine tp 4 rfl rfl hf (by kernel_rfl) (fun _ => hS) rfl fun a hf => ?_
    refine tp 5 rfl rfl hf (by kernel_rfl) (fun _ => hS) rfl fun a hf => ?_
    obtain ⟨e2, he2, hR1⟩ := bind_some hR1
    obtain ⟨p2, o2, cs2, hx2, hr2, H⟩ := pre_iaddr H Tryz.underlying22 TF.sz9 1 rfl he2
    refine tP 6 rfl rfl rfl rfl hf (by kernel_rfl) (fun _ => hS) (fun w => rq_iaddrE hf rfl rfl rfl hx2 w) fun a hf => ?_
    obtain rfl := hr2
    refine strT (H.let [] [] [] [0, 1] rfl rfl rfl rfl) (fun w H => H.let [] [] [] [1] rfl rfl rfl rfl) fun hS => ?_
    refine tS 7 [] rfl rfl rfl rfl hf (by kernel_rfl) (by kernel_rfl) hS (fun w H => rq_loadI hf H TF.ls9 0 0 rfl rfl rfl) fun a hf => ?_
    refine tp 8 rfl rfl hf (by kernel_rfl) (fun _ => hS) rfl fun a hf => ?_
    refine dn (by kernel_rfl) ?_
    refine then_n (iteB hR1 (fun hc3 hR1 => cd_t hf rfl hc3 ?_) fun hc3 hR1 => cd_f hf rfl hc3 ?_)
    ·refine sq (reg (pr 1 hf rfl rfl fun a hf => ?_))
     have hf := hf.prune [4] rfl
     refine wl_end (then_n (wp_ret (blk_r (then_r (then_r (blk_r (then_r (then_r (?_)))))))))
     obtain rfl := Option.some.inj hR1
     replace hF := on_ret hF
     obtain rfl := Option.some.inj hF
     refine ret_1 (fn := Tryz.f131) (r := .tmp 4) hf rfl (rv_tmp hf rfl) ?_
     exact ⟨_, rfl, H.bel, mk_bool⟩
    ·refine wp_skip (blk_n (then_n (reg (pr 3 hf rfl rfl fun a hf => ?_))))
     have hf := hf.prune [0, 1, 5] rfl
     refine wl_end ?_
     have hf := hf.prune [0, 1, 5] rfl
     have H := H.let [] [] [] [2, 3] rfl rfl rfl rfl
     exact then_n ⟨w64 (i + 1), hR1, hf, H⟩
   ·refine wp_exit (then_x (then_x (blk_e (?_))))
    have hf := hf.prune [0, 1, 5] rfl
    have H := H.let [] [] [] [0, 1] rfl rfl rfl rfl
    exact ⟨i, (Option.some.inj hR1).symm, hf, H⟩
  rintro a w ⟨i2, rfl, hf, H⟩
  replace hF := on_next hF
  refine then_n (sq (reg (pr 1 hf rfl rfl fun a hf => ?_)))
  refine wl_end (then_n (wp_ret (?_)))
  obtain rfl := Option.some.inj hF
  refine ret_1 (fn := Tryz.f131) (r := .tmp 4) hf rfl (rv_tmp hf rfl) ?_
  exact ⟨_, rfl, H.bel, mk_bool⟩

/- loop.example/g00897/laws.eqFiber -/
set_option maxHeartbeats 1000000 in
theorem laws_eqFiber_ok {fu : Nat} {w0 : World} {S : Nat → Prop} {v0_ : Value} {v1_ : Value} {a' : Fiber} {b' : Fiber} {r : Bool} (h0 : VR w0 S v0_ a') (h1 : VR w0 S v1_ b') (hF : laws_eqFiber fu a' b' = some r) :
    Calls Tryz.prog 189 [v0_, v1_].toArray w0 fun e w' => ∃ v, e = .returned v ∧ (Below w0.heap.size w0 w' ∧ VR w' (St ⟨w0, []⟩ S [] [] [] true) v r) := by
 obtain rfl := Fiber_open h0
 obtain rfl := Fiber_open h1
 have H := Mem.start ⟨w0, []⟩ S
 refine enter Tryz.func189 rfl rfl (nle rfl) rfl fun a hf => ?_
 rw [laws_eqFiber] at hF
 refine sq (reg (wl0 rfl (op_box hf H rfl rfl (by decide) fun b2 a w hf H => ?_)))
 refine wl0 rfl (op_box hf H rfl rfl (by decide) fun b3 a w hf H => ?_)
 refine pr 1 hf rfl rfl fun a hf => ?_
 refine wl_end (then_n (sq (sq (reg (pr 1 hf rfl rfl fun a hf => ?_)))))
 refine wl0 rfl (op_q hf (rq_loadB hf H TF.ls3 1 rfl rfl rfl) rfl (by decide) fun a hf => ?_)
 refine pr 1 hf rfl rfl fun a hf => ?_
 refine wl0 rfl (op_q hf (rq_loadB hf H TF.ls3 0 rfl rfl rfl) rfl (by decide) fun a hf => ?_)
 refine pr 1 hf rfl rfl fun a hf => ?_
 refine wl_end (then_n (iteB hF (fun hc hF => cd_t hf rfl hc ?_) fun hc hF => cd_f hf rfl hc ?_))
 ·refine sq (reg (pr 1 hf rfl rfl fun a hf => ?_))
  refine wl_end (then_n (wp_ret (then_r (?_))))
  obtain rfl := Option.some.inj hF
  refine ret_1 (fn := Tryz.f189) (r := .tmp 4) hf rfl (rv_tmp hf rfl) ?_
  exact ⟨_, rfl, H.bel, mk_bool⟩
 ·refine wp_skip (then_n (sq (sq (reg (pr 1 hf rfl rfl fun a hf => ?_)))))
  refine wl0 rfl (op_q hf (rq_loadB hf H TF.ls3 1 rfl rfl rfl) rfl (by decide) fun a hf => ?_)
  refine pr 1 hf rfl rfl fun a hf => ?_
  refine wl0 rfl (op_q hf (rq_loadB hf H TF.ls3 0 rfl rfl rfl) rfl (by decide) fun a hf => ?_)
  refine pr 1 hf rfl rfl fun a hf => ?_
  refine wl_end (then_n (iteB hF (fun hc2 hF => cd_t hf rfl hc2 ?_) fun hc2 hF => cd_f hf rfl hc2 ?_))
  ·refine sq (reg (pr 1 hf rfl rfl fun a hf => ?_))
   have hf := hf.prune [4] rfl
   refine wl_end (then_n (wp_ret (then_r (?_))))
   obtain rfl := Option.some.inj hF
   refine ret_1 (fn := Tryz.f189) (r := .tmp 4) hf rfl (rv_tmp hf rfl) ?_
   exact ⟨_, rfl, H.bel, mk_bool⟩
  ·refine wp_skip (then_n (sq (sq (reg (pr 1 hf rfl rfl fun a hf => ?_)))))
   refine wl0 rfl (op_q hf (rq_loadB hf H TF.ls3 1 rfl rfl rfl) rfl (by decide) fun a hf => ?_)
   refine pr 1 hf rfl rfl fun a hf => ?_
   refine wl0 rfl (op_q hf (rq_loadB hf H TF.ls3 0 rfl rfl rfl) rfl (by decide) fun a hf => ?_)
   refine pr 1 hf rfl rfl fun a hf => ?_
   have hf := hf.prune [2, 3, 19] rfl
   refine wl_end (then_n (iteB hF (fun hc3 hF => cd_t hf rfl hc3 ?_) fun hc3 hF => cd_f hf rfl hc3 ?_))
   ·refine sq (reg (pr 1 hf rfl rfl fun a hf => ?_))
    refine wl_end (then_n (wp_ret (then_r (?_))))
    obtain rfl := Option.some.inj hF
    refine ret_1 (fn := Tryz.f189) (r := .tmp 4) hf rfl (rv_tmp hf rfl) ?_
    exact ⟨_, rfl, H.bel, mk_bool⟩
   ·refine wp_skip (then_n (sq (sq (reg (pr 1 hf rfl rfl fun a hf => ?_)))))
    refine wl0 rfl (op_q hf (rq_loadB hf H TF.ls3 1 rfl rfl rfl) rfl (by decide) fun a hf => ?_)
    refine pr 1 hf rfl rfl fun a hf => ?_
    refine wl0 rfl (op_q hf (rq_loadB hf H TF.ls3 0 rfl rfl rfl) rfl (by decide) fun a hf => ?_)
    refine pr 1 hf rfl rfl fun a hf => ?_
    refine wl_end (then_n (iteB hF (fun hc4 hF => cd_t hf rfl hc4 ?_) fun hc4 hF => cd_f hf rfl hc4 ?_))
    ·refine sq (reg (pr 1 hf rfl rfl fun a hf => ?_))
     refine wl_end (then_n (wp_ret (then_r (?_))))
     obtain rfl := Option.some.inj hF
     refine ret_1 (fn := Tryz.f189) (r := .tmp 4) hf rfl (rv_tmp hf rfl) ?_
     exact ⟨_, rfl, H.bel, mk_bool⟩
    ·refine wp_skip (then_n (sq (reg (pr 1 hf rfl rfl fun a hf => ?_))))
     refine wl_end (then_n (wp_ret (?_)))
     obtain rfl := Option.some.inj hF
     refine ret_1 (fn := Tryz.f189) (r := .tmp 4) hf rfl (rv_tmp hf rfl) ?_
     exact ⟨_, rfl, H.bel, mk_bool⟩

/- loop.example/g00897/laws.eqFiberS -/
set_option maxHeartbeats 1000000 in
theorem laws_eqFiberS_ok {fu : Nat} {w0 : World} {S : Nat → Prop} {v0_ : Value} {v1_ : Value} {a' : List Fiber} {b' : List Fiber} {r : Bool} (h0 : VR w0 S v0_ a') (h1 : VR w0 S v1_ b') (hF : laws_eqFiberS fu a' b' = some r) :
    Calls Tryz.prog 132 [v0_, v1_].toArray w0 fun e w' => ∃ v, e = .returned v ∧ (Below w0.heap.size w0 w' ∧ VR w' (St ⟨w0, []⟩ S [] [] [] true) v r) := by
 obtain ⟨A, c, rfl, hl⟩ := VR_list h0
 obtain ⟨A2, c2, rfl, hl2⟩ := VR_list h1
 have H := Mem.start ⟨w0, []⟩ S
 have H := H.pushArg (MP.val [(.slice A a'.length c)] a') hl
 have H := H.pushArg (MP.val [(.slice A2 b'.length c2)] b') hl2
 refine enter Tryz.func132 rfl rfl (nle rfl) rfl fun a hf => ?_
 rw [laws_eqFiberS] at hF
 refine sq (reg (pr 1 hf rfl rfl fun a hf => ?_))
 refine wl_end (then_n (sq (sq (reg (pr 5 hf rfl rfl fun a hf => ?_)))))
 refine wl_end (then_n (iteB hF (fun hc hF => cd_t hf rfl hc ?_) fun hc hF => cd_f hf rfl hc ?_))
 ·refine sq (reg (pr 1 hf rfl rfl fun a hf => ?_))
  refine wl_end (then_n (wp_ret (then_r (?_))))
  obtain rfl := Option.some.inj hF
  refine ret_1 (fn := Tryz.f132) (r := .tmp 4) hf rfl (rv_tmp hf rfl) ?_
  exact ⟨_, rfl, H.bel, mk_bool⟩
 ·refine wp_skip (then_n (sq (sq (reg (pr 1 hf rfl rfl fun a hf => ?_)))))
  refine wl_end (then_n ?_)
  obtain ⟨out', hB1, hF⟩ := bind_some hF
  have hf := hf.prune [0, 1, 5] rfl
  have H := H.let [] [] [] [0, 1] rfl rfl rfl rfl
  refine loopC (fun (s : Int) (a : Act) (w : World) => match s with | i => Fr a 27 [(0, (.slice A a'.length c)), (1, (.slice A2 b'.length c2)), (5, (.int .i64 i))] ∧ Mem ⟨w0, []⟩ S [] [] [] [(false, MP.val [(.slice A2 b'.length c2)] (b' : List Fiber)), (false, MP.val [(.slice A a'.length c)] (a' : List Fiber))] w) (fun k (s : Int) => laws_eqFiberS_L1 fu a' b' k s = some out') (fun s => out' = Out.next s) 0 fu hB1 ⟨hf, H⟩ (fun s h => by cases h) ?_ ?_
  ·rintro fk i a w hR1 hI
   replace hR1 : laws_eqFiberS_L1 fu a' b' (fk + 1) i = some out' := hR1
   rw [laws_eqFiberS_L1] at hR1
   obtain ⟨hf, H⟩ := hI
   refine sq (sq (reg (pr 4 hf rfl rfl fun a hf => ?_)))
   refine wl_end (then_n (iteB hR1 (fun hc2 hR1 => cd_t hf rfl hc2 ?_) fun hc2 hR1 => cd_f hf rfl hc2 ?_))
   ·refine wp_skip (then_n (sq (wp_block (sq (drawn [] (bs := [false, false, false, false, false, false, false, false, false, false]) (fuel := 10) (Checked.mixed Tryz.checked) rfl rfl fun w hb => ?_)))))
    have H := H.keep hb
    refine tp 0 rfl rfl hf (by kernel_rfl) (fun _ => trivial) rfl fun a hf => ?_
    refine tp 1 rfl rfl hf (by kernel_rfl) (fun _ => trivial) rfl fun a hf => ?_
    obtain ⟨e, he, hR1⟩ := bind_some hR1
    obtain ⟨p, o, cs, hx, hr, H⟩ := pre_iaddr H Tryz.underlying32 TF.sz120 1 rfl he
    refine tP 2 rfl rfl rfl rfl hf (by kernel_rfl) (fun _ => trivial) (fun w => rq_iaddrE hf rfl rfl rfl hx w) fun a hf => ?_
    obtain rfl := Fiber_cells hr
    refine strT (H.let [] [] [] [0] rfl rfl rfl rfl) (fun w H => trivial) fun hS => ?_
    refine tS 3 [] rfl rfl rfl rfl hf (by kernel_rfl) (by kernel_rfl) hS (fun w H => rq_loadIN hf H TF.la120 0 0 rfl rfl rfl rfl) fun a hf => ?_
    refine tp 4 rfl rfl hf (by kernel_rfl) (fun _ => hS) rfl fun a hf => ?_
    refine tp 5 rfl rfl hf (by kernel_rfl) (fun _ => hS) rfl fun a hf => ?_
    obtain ⟨e2, he2, hR1⟩ := bind_some hR1
    obtain ⟨p2, o2, cs2, hx2, hr2, H⟩ := pre_iaddr H Tryz.underlying32 TF.sz120 1 rfl he2
    refine tP 6 rfl rfl rfl rfl hf (by kernel_rfl) (fun _ => hS) (fun w => rq_iaddrE hf rfl rfl rfl hx2 w) fun a hf => ?_
    obtain rfl := Fiber_cells hr2
    refine strT (H.let [] [] [] [0, 1] rfl rfl rfl rfl) (fun w H => H.let [] [] [] [1] rfl rfl rfl rfl) fun hS => ?_
    refine tS 7 [] rfl rfl rfl rfl hf (by kernel_rfl) (by kernel_rfl) hS (fun w H => rq_loadIN hf H TF.la120 0 0 rfl rfl rfl rfl) fun a hf => ?_
    obtain ⟨y, hy, hR1⟩ := bind_some hR1
    refine n1 8 (by kernel_rfl) rfl rfl (op_call hf TF.cl189 rfl (by decide) (laws_eqFiber_ok (S := fun _ => True) Fiber_mkv Fiber_mkv hy) fun v w a hp hf => ?_)
    obtain ⟨hb, hp⟩ := hp
    obtain rfl := VR_bool hp
    have H := H.keep hb
    have hS := H.let [] [] [] [0, 1] rfl rfl rfl rfl
    refine ⟨fun _ => hS, ?_⟩
    refine tp 9 rfl rfl hf (by kernel_rfl) (fun _ => hS) rfl fun a hf => ?_
    refine dn (by kernel_rfl) ?_
    have hf := hf.prune [0, 1, 5, 26] rfl
    refine then_n (iteB hR1 (fun hc3 hR1 => cd_t hf rfl hc3 ?_) fun hc3 hR1 => cd_f hf rfl hc3 ?_)
    ·refine sq (reg (pr 1 hf rfl rfl fun a hf => ?_))
     refine wl_end (then_n (wp_ret (blk_r (then_r (then_r (blk_r (then_r (then_r (?_)))))))))
     obtain rfl := Option.some.inj hR1
     replace hF := on_ret hF
     obtain rfl := Option.some.inj hF
     refine ret_1 (fn := Tryz.f132) (r := .tmp 4) hf rfl (rv_tmp hf rfl) ?_
     exact ⟨_, rfl, H.bel, mk_bool⟩
    ·refine wp_skip (blk_n (then_n (reg (pr 3 hf rfl rfl fun a hf => ?_))))
     refine wl_end ?_
     have hf := hf.prune [0, 1, 5] rfl
     have H := H.let [] [] [] [2, 3] rfl rfl rfl rfl
     exact then_n ⟨w64 (i + 1), hR1, hf, H⟩
   ·refine wp_exit (then_x (then_x (blk_e (?_))))
    have hf := hf.prune [0, 1, 5] rfl
    have H := H.let [] [] [] [0, 1] rfl rfl rfl rfl
    exact ⟨i, (Option.some.inj hR1).symm, hf, H⟩
  rintro a w ⟨i2, rfl, hf, H⟩
  replace hF := on_next hF
  refine then_n (sq (reg (pr 1 hf rfl rfl fun a hf => ?_)))
  refine wl_end (then_n (wp_ret (?_)))
  obtain rfl := Option.some.inj hF
  refine ret_1 (fn := Tryz.f132) (r := .tmp 4) hf rfl (rv_tmp hf rfl) ?_
  exact ⟨_, rfl, H.bel, mk_bool⟩

/- loop.example/g00897/laws.eqNetwork -/
set_option maxHeartbeats 1000000 in
theorem laws_eqNetwork_ok {fu : Nat} {w0 : World} {S : Nat → Prop} {v0_ : Value} {v1_ : Value} {a' : Network} {b' : Network} {r : Bool} (h0 : VR w0 S v0_ a') (h1 : VR w0 S v1_ b') (hF : laws_eqNetwork fu a' b' = some r) :
    Calls Tryz.prog 69 [v0_, v1_].toArray w0 fun e w' => ∃ v, e = .returned v ∧ (Below w0.heap.size w0 w' ∧ VR w' (St ⟨w0, []⟩ S [] [] [] true) v r) := by
 obtain ⟨A, c, A2, c2, rfl, hl, hl2⟩ := Network_open h0
 obtain ⟨A3, c3, A4, c4, rfl, hl3, hl4⟩ := Network_open h1
 have H := Mem.start ⟨w0, []⟩ S
 have H := H.pushArg (MP.val [(.slice A a'.Nodes.length c)] a'.Nodes) hl
 have H := H.pushArg (MP.val [(.slice A2 a'.Fibers.length c2)] a'.Fibers) hl2
 have H := H.pushArg (MP.val [(.slice A3 b'.Nodes.length c3)] b'.Nodes) hl3
 have H := H.pushArg (MP.val [(.slice A4 b'.Fibers.length c4)] b'.Fibers) hl4
 refine enter Tryz.func69 rfl rfl (nle rfl) rfl fun a hf => ?_
 rw [laws_eqNetwork] at hF
 refine sq (reg (wl0 rfl (op_box hf H rfl rfl (by decide) fun b2 a w hf H => ?_)))
 refine wl0 rfl (op_box hf H rfl rfl (by decide) fun b3 a w hf H => ?_)
 refine pr 1 hf rfl rfl fun a hf => ?_
 refine wl_end (then_n (sq (sq (reg (pr 1 hf rfl rfl fun a hf => ?_)))))
 refine wl0 rfl (op_q hf (rq_loadB hf H TF.ls22 1 rfl rfl rfl) rfl (by decide) fun a hf => ?_)
 refine pr 1 hf rfl rfl fun a hf => ?_
 refine wl0 rfl (op_q hf (rq_loadB hf H TF.ls22 0 rfl rfl rfl) rfl (by decide) fun a hf => ?_)
 obtain ⟨y, hy, hF⟩ := bind_some hF
 refine wl0 rfl (op_call hf TF.cl131 rfl (by decide) (laws_eqStringS_ok (S := fun _ => True) (mk_list (rep_true (α := List ByteArray) (H.get 3 rfl))) (mk_list (rep_true (α := List ByteArray) (H.get 1 rfl))) hy) fun v w a hp hf => ?_)
 obtain ⟨hb, hp⟩ := hp
 obtain rfl := VR_bool hp
 have H := H.keep hb
 refine pr 1 hf rfl rfl fun a hf => ?_
 refine wl_end (then_n (iteB hF (fun hc hF => cd_t hf rfl hc ?_) fun hc hF => cd_f hf rfl hc ?_))
 ·refine sq (reg (pr 1 hf rfl rfl fun a hf => ?_))
  refine wl_end (then_n (wp_ret (then_r (?_))))
  obtain rfl := Option.some.inj hF
  refine ret_1 (fn := Tryz.f69) (r := .tmp 4) hf rfl (rv_tmp hf rfl) ?_
  exact ⟨_, rfl, H.bel, mk_bool⟩
 ·refine wp_skip (then_n (sq (sq (reg (pr 1 hf rfl rfl fun a hf => ?_)))))
  refine wl0 rfl (op_q hf (rq_loadB hf H TF.ls32 1 rfl rfl rfl) rfl (by decide) fun a hf => ?_)
  refine pr 1 hf rfl rfl fun a hf => ?_
  refine wl0 rfl (op_q hf (rq_loadB hf H TF.ls32 0 rfl rfl rfl) rfl (by decide) fun a hf => ?_)
  obtain ⟨y2, hy2, hF⟩ := bind_some hF
  refine wl0 rfl (op_call hf TF.cl132 rfl (by decide) (laws_eqFiberS_ok (S := fun _ => True) (mk_list (rep_true (α := List Fiber) (H.get 2 rfl))) (mk_list (rep_true (α := List Fiber) (H.get 0 rfl))) hy2) fun v2 w a hp2 hf => ?_)
  obtain ⟨hb2, hp2⟩ := hp2
  obtain rfl := VR_bool hp2
  have H := H.keep hb2
  refine pr 1 hf rfl rfl fun a hf => ?_
  have hf := hf.prune [16] rfl
  refine wl_end (then_n (iteB hF (fun hc2 hF => cd_t hf rfl hc2 ?_) fun hc2 hF => cd_f hf rfl hc2 ?_))
  ·refine sq (reg (pr 1 hf rfl rfl fun a hf => ?_))
   refine wl_end (then_n (wp_ret (then_r (?_))))
   obtain rfl := Option.some.inj hF
   refine ret_1 (fn := Tryz.f69) (r := .tmp 4) hf rfl (rv_tmp hf rfl) ?_
   exact ⟨_, rfl, H.bel, mk_bool⟩
  ·refine wp_skip (then_n (sq (reg (pr 1 hf rfl rfl fun a hf => ?_))))
   refine wl_end (then_n (wp_ret (?_)))
   obtain rfl := Option.some.inj hF
   refine ret_1 (fn := Tryz.f69) (r := .tmp 4) hf rfl (rv_tmp hf rfl) ?_
   exact ⟨_, rfl, H.bel, mk_bool⟩

/- loop.example/g00897/laws.eqIntS -/
set_option maxHeartbeats 1000000 in
theorem laws_eqIntS_ok {fu : Nat} {w0 : World} {S : Nat → Prop} {v0_ : Value} {v1_ : Value} {a' : List Int} {b' : List Int} {r : Bool} (h0 : VR w0 S v0_ a') (h1 : VR w0 S v1_ b') (hF : laws_eqIntS fu a' b' = some r) :
    Calls Tryz.prog 24 [v0_, v1_].toArray w0 fun e w' => ∃ v, e = .returned v ∧ (Below w0.heap.size w0 w' ∧ VR w' (St ⟨w0, []⟩ S [] [] [] true) v r) := by
 obtain ⟨A, c, rfl, hl⟩ := VR_list h0
 obtain ⟨A2, c2, rfl, hl2⟩ := VR_list h1
 have H := Mem.start ⟨w0, []⟩ S
 have H := H.pushArg (MP.val [(.slice A a'.length c)] a') hl
 have H := H.pushArg (MP.val [(.slice A2 b'.length c2)] b') hl2
 refine enter Tryz.func24 rfl rfl (nle rfl) rfl fun a hf => ?_
 rw [laws_eqIntS] at hF
 refine sq (reg (pr 1 hf rfl rfl fun a hf => ?_))
 refine wl_end (then_n (sq (sq (reg (pr 5 hf rfl rfl fun a hf => ?_)))))
 refine wl_end (then_n (iteB hF (fun hc hF => cd_t hf rfl hc ?_) fun hc hF => cd_f hf rfl hc ?_))
 ·refine sq (reg (pr 1 hf rfl rfl fun a hf => ?_))
  refine wl_end (then_n (wp_ret (then_r (?_))))
  obtain rfl := Option.some.inj hF
  refine ret_1 (fn := Tryz.f24) (r := .tmp 4) hf rfl (rv_tmp hf rfl) ?_
  exact ⟨_, rfl, H.bel, mk_bool⟩
 ·refine wp_skip (then_n (sq (sq (reg (pr 1 hf rfl rfl fun a hf => ?_)))))
  refine wl_end (then_n ?_)
  obtain ⟨out', hB1, hF⟩ := bind_some hF
  have hf := hf.prune [0, 1, 5] rfl
  have H := H.let [] [] [] [0, 1] rfl rfl rfl rfl
  refine loopC (fun (s : Int) (a : Act) (w : World) => match s with | i => Fr a 26 [(0, (.slice A a'.length c)), (1, (.slice A2 b'.length c2)), (5, (.int .i64 i))] ∧ Mem ⟨w0, []⟩ S [] [] [] [(false, MP.val [(.slice A2 b'.length c2)] (b' : List Int)), (false, MP.val [(.slice A a'.length c)] (a' : List Int))] w) (fun k (s : Int) => laws_eqIntS_L1 fu a' b' k s = some out') (fun s => out' = Out.next s) 0 fu hB1 ⟨hf, H⟩ (fun s h => by cases h) ?_ ?_
  ·rintro fk i a w hR1 hI
   replace hR1 : laws_eqIntS_L1 fu a' b' (fk + 1) i = some out' := hR1
   rw [laws_eqIntS_L1] at hR1
   obtain ⟨hf, H⟩ := hI
   refine sq (sq (reg (pr 4 hf rfl rfl fun a hf => ?_)))
   refine wl_end (then_n (iteB hR1 (fun hc2 hR1 => cd_t hf rfl hc2 ?_) fun hc2 hR1 => cd_f hf rfl hc2 ?_))
   ·refine wp_skip (then_n (sq (wp_block (sq (drawn [] (bs := [false, false, false, false, false, false, false, false, false]) (fuel := 9) (Checked.mixed Tryz.checked) rfl rfl fun w hb => ?_)))))
    have H := H.keep hb
    refine tp 0 rfl rfl hf (by kernel_rfl) (fun _ => trivial) rfl fun a hf => ?_
    refine tp 1 rfl rfl hf (by kernel_rfl) (fun _ => trivial) rfl fun a hf => ?_
    obtain ⟨e, he, hR1⟩ := bind_some hR1
    obtain ⟨p, o, cs, hx, hr, H⟩ := pre_iaddr H Tryz.underlying44 TF.sz3 1 rfl he
    refine tP 2 rfl rfl rfl rfl hf (by kernel_rfl) (fun _ => trivial) (fun w => rq_iaddrE hf rfl rfl rfl hx w) fun a hf => ?_
    obtain rfl := hr
    refine strT (H.let [] [] [] [0] rfl rfl rfl rfl) (fun w H => trivial) fun hS => ?_
    refine tS 3 [] rfl rfl rfl rfl hf (by kernel_rfl) (by kernel_rfl) hS (fun w H => rq_loadI hf H TF.ls3 0 0 rfl rfl rfl) fun a hf => ?_
    refine tp 4 rfl rfl hf (by kernel_rfl) (fun _ => hS) rfl fun a hf => ?_
    refine tp 5 rfl rfl hf (by kernel_rfl) (fun _ => hS) rfl fun a hf => ?_
    obtain ⟨e2, he2, hR1⟩ := bind_some hR1
    obtain ⟨p2, o2, cs2, hx2, hr2, H⟩ := pre_iaddr H Tryz.underlying44 TF.sz3 1 rfl he2
    refine tP 6 rfl rfl rfl rfl hf (by kernel_rfl) (fun _ => hS) (fun w => rq_iaddrE hf rfl rfl rfl hx2 w) fun a hf => ?_
    obtain rfl := hr2
    refine strT (H.let [] [] [] [0, 1] rfl rfl rfl rfl) (fun w H => H.let [] [] [] [1] rfl rfl rfl rfl) fun hS => ?_
    refine tS 7 [] rfl rfl rfl rfl hf (by kernel_rfl) (by kernel_rfl) hS (fun w H => rq_loadI hf H TF.ls3 0 0 rfl rfl rfl) fun a hf => ?_
    refine tp 8 rfl rfl hf (by kernel_rfl) (fun _ => hS) rfl fun a hf => ?_
    refine dn (by kernel_rfl) ?_
    refine then_n (iteB hR1 (fun hc3 hR1 => cd_t hf rfl hc3 ?_) fun hc3 hR1 => cd_f hf rfl hc3 ?_)
    ·refine sq (reg (pr 1 hf rfl rfl fun a hf => ?_))
     have hf := hf.prune [4] rfl
     refine wl_end (then_n (wp_ret (blk_r (then_r (then_r (blk_r (then_r (then_r (?_)))))))))
     obtain rfl := Option.some.inj hR1
     replace hF := on_ret hF
     obtain rfl := Option.some.inj hF
     refine ret_1 (fn := Tryz.f24) (r := .tmp 4) hf rfl (rv_tmp hf rfl) ?_
     exact ⟨_, rfl, H.bel, mk_bool⟩
    ·refine wp_skip (blk_n (then_n (reg (pr 3 hf rfl rfl fun a hf => ?_))))
     have hf := hf.prune [0, 1, 5] rfl
     refine wl_end ?_
     have hf := hf.prune [0, 1, 5] rfl
     have H := H.let [] [] [] [2, 3] rfl rfl rfl rfl
     exact then_n ⟨w64 (i + 1), hR1, hf, H⟩
   ·refine wp_exit (then_x (then_x (blk_e (?_))))
    have hf := hf.prune [0, 1, 5] rfl
    have H := H.let [] [] [] [0, 1] rfl rfl rfl rfl
    exact ⟨i, (Option.some.inj hR1).symm, hf, H⟩
  rintro a w ⟨i2, rfl, hf, H⟩
  replace hF := on_next hF
  refine then_n (sq (reg (pr 1 hf rfl rfl fun a hf => ?_)))
  refine wl_end (then_n (wp_ret (?_)))
  obtain rfl := Option.some.inj hF
  refine ret_1 (fn := Tryz.f24) (r := .tmp 4) hf rfl (rv_tmp hf rfl) ?_
  exact ⟨_, rfl, H.bel, mk_bool⟩

/- loop.example/g00897/laws.eqRoute -/
set_option maxHeartbeats 1000000 in
theorem laws_eqRoute_ok {fu : Nat} {w0 : World} {S : Nat → Prop} {v0_ : Value} {v1_ : Value} {a' : Route} {b' : Route} {r : Bool} (h0 : VR w0 S v0_ a') (h1 : VR w0 S v1_ b') (hF : laws_eqRoute fu a' b' = some r) :
    Calls Tryz.prog 190 [v0_, v1_].toArray w0 fun e w' => ∃ v, e = .returned v ∧ (Below w0.heap.size w0 w' ∧ VR w' (St ⟨w0, []⟩ S [] [] [] true) v r) := by
 obtain ⟨A, c, rfl, hl⟩ := Route_open h0
 obtain ⟨A2, c2, rfl, hl2⟩ := Route_open h1
 have H := Mem.start ⟨w0, []⟩ S
 have H := H.pushArg (MP.val [(.slice A a'.Fibers.length c)] a'.Fibers) hl
 have H := H.pushArg (MP.val [(.slice A2 b'.Fibers.length c2)] b'.Fibers) hl2
 refine enter Tryz.func190 rfl rfl (nle rfl) rfl fun a hf => ?_
 rw [laws_eqRoute] at hF
 refine sq (reg (wl0 rfl (op_box hf H rfl rfl (by decide) fun b2 a w hf H => ?_)))
 refine wl0 rfl (op_box hf H rfl rfl (by decide) fun b3 a w hf H => ?_)
 refine pr 1 hf rfl rfl fun a hf => ?_
 refine wl_end (then_n (sq (sq (reg (pr 1 hf rfl rfl fun a hf => ?_)))))
 refine wl0 rfl (op_q hf (rq_loadB hf H TF.ls3 1 rfl rfl rfl) rfl (by decide) fun a hf => ?_)
 refine pr 1 hf rfl rfl fun a hf => ?_
 refine wl0 rfl (op_q hf (rq_loadB hf H TF.ls3 0 rfl rfl rfl) rfl (by decide) fun a hf => ?_)
 refine pr 1 hf rfl rfl fun a hf => ?_
 refine wl_end (then_n (iteB hF (fun hc hF => cd_t hf rfl hc ?_) fun hc hF => cd_f hf rfl hc ?_))
 ·refine sq (reg (pr 1 hf rfl rfl fun a hf => ?_))
  refine wl_end (then_n (wp_ret (then_r (?_))))
  obtain rfl := Option.some.inj hF
  refine ret_1 (fn := Tryz.f190) (r := .tmp 4) hf rfl (rv_tmp hf rfl) ?_
  exact ⟨_, rfl, H.bel, mk_bool⟩
 ·refine wp_skip (then_n (sq (sq (reg (pr 1 hf rfl rfl fun a hf => ?_)))))
  refine wl0 rfl (op_q hf (rq_loadB hf H TF.ls44 1 rfl rfl rfl) rfl (by decide) fun a hf => ?_)
  refine pr 1 hf rfl rfl fun a hf => ?_
  refine wl0 rfl (op_q hf (rq_loadB hf H TF.ls44 0 rfl rfl rfl) rfl (by decide) fun a hf => ?_)
  obtain ⟨y, hy, hF⟩ := bind_some hF
  refine wl0 rfl (op_call hf TF.cl24 rfl (by decide) (laws_eqIntS_ok (S := fun _ => True) (mk_list (rep_true (α := List Int) (H.get 1 rfl))) (mk_list (rep_true (α := List Int) (H.get 0 rfl))) hy) fun v w a hp hf => ?_)
  obtain ⟨hb, hp⟩ := hp
  obtain rfl := VR_bool hp
  have H := H.keep hb
  refine pr 1 hf rfl rfl fun a hf => ?_
  have hf := hf.prune [15] rfl
  refine wl_end (then_n (iteB hF (fun hc2 hF => cd_t hf rfl hc2 ?_) fun hc2 hF => cd_f hf rfl hc2 ?_))
  ·refine sq (reg (pr 1 hf rfl rfl fun a hf => ?_))
   refine wl_end (then_n (wp_ret (then_r (?_))))
   obtain rfl := Option.some.inj hF
   refine ret_1 (fn := Tryz.f190) (r := .tmp 4) hf rfl (rv_tmp hf rfl) ?_
   exact ⟨_, rfl, H.bel, mk_bool⟩
  ·refine wp_skip (then_n (sq (reg (pr 1 hf rfl rfl fun a hf => ?_))))
   refine wl_end (then_n (wp_ret (?_)))
   obtain rfl := Option.some.inj hF
   refine ret_1 (fn := Tryz.f190) (r := .tmp 4) hf rfl (rv_tmp hf rfl) ?_
   exact ⟨_, rfl, H.bel, mk_bool⟩

/- loop.example/g00897/laws.eqBlock -/
set_option maxHeartbeats 1000000 in
theorem laws_eqBlock_ok {fu : Nat} {w0 : World} {S : Nat → Prop} {v0_ : Value} {v1_ : Value} {a' : Block} {b' : Block} {r : Bool} (h0 : VR w0 S v0_ a') (h1 : VR w0 S v1_ b') (hF : laws_eqBlock fu a' b' = some r) :
    Calls Tryz.prog 191 [v0_, v1_].toArray w0 fun e w' => ∃ v, e = .returned v ∧ (Below w0.heap.size w0 w' ∧ VR w' (St ⟨w0, []⟩ S [] [] [] true) v r) := by
 obtain rfl := Block_open h0
 obtain rfl := Block_open h1
 have H := Mem.start ⟨w0, []⟩ S
 refine enter Tryz.func191 rfl rfl (nle rfl) rfl fun a hf => ?_
 rw [laws_eqBlock] at hF
 refine sq (reg (wl0 rfl (op_box hf H rfl rfl (by decide) fun b2 a w hf H => ?_)))
 refine wl0 rfl (op_box hf H rfl rfl (by decide) fun b3 a w hf H => ?_)
 refine pr 1 hf rfl rfl fun a hf => ?_
 refine wl_end (then_n (sq (sq (reg (pr 1 hf rfl rfl fun a hf => ?_)))))
 refine wl0 rfl (op_q hf (rq_loadB hf H TF.ls3 1 rfl rfl rfl) rfl (by decide) fun a hf => ?_)
 refine pr 1 hf rfl rfl fun a hf => ?_
 refine wl0 rfl (op_q hf (rq_loadB hf H TF.ls3 0 rfl rfl rfl) rfl (by decide) fun a hf => ?_)
 refine pr 1 hf rfl rfl fun a hf => ?_
 refine wl_end (then_n (iteB hF (fun hc hF => cd_t hf rfl hc ?_) fun hc hF => cd_f hf rfl hc ?_))
 ·refine sq (reg (pr 1 hf rfl rfl fun a hf => ?_))
  refine wl_end (then_n (wp_ret (then_r (?_))))
  obtain rfl := Option.some.inj hF
  refine ret_1 (fn := Tryz.f191) (r := .tmp 4) hf rfl (rv_tmp hf rfl) ?_
  exact ⟨_, rfl, H.bel, mk_bool⟩
 ·refine wp_skip (then_n (sq (sq (reg (pr 1 hf rfl rfl fun a hf => ?_)))))
  refine wl0 rfl (op_q hf (rq_loadB hf H TF.ls3 1 rfl rfl rfl) rfl (by decide) fun a hf => ?_)
  refine pr 1 hf rfl rfl fun a hf => ?_
  refine wl0 rfl (op_q hf (rq_loadB hf H TF.ls3 0 rfl rfl rfl) rfl (by decide) fun a hf => ?_)
  refine pr 1 hf rfl rfl fun a hf => ?_
  have hf := hf.prune [14] rfl
  refine wl_end (then_n (iteB hF (fun hc2 hF => cd_t hf rfl hc2 ?_) fun hc2 hF => cd_f hf rfl hc2 ?_))
  ·refine sq (reg (pr 1 hf rfl rfl fun a hf => ?_))
   refine wl_end (then_n (wp_ret (then_r (?_))))
   obtain rfl := Option.some.inj hF
   refine ret_1 (fn := Tryz.f191) (r := .tmp 4) hf rfl (rv_tmp hf rfl) ?_
   exact ⟨_, rfl, H.bel, mk_bool⟩
  ·refine wp_skip (then_n (sq (reg (pr 1 hf rfl rfl fun a hf => ?_))))
   refine wl_end (then_n (wp_ret (?_)))
   obtain rfl := Option.some.inj hF
   refine ret_1 (fn := Tryz.f191) (r := .tmp 4) hf rfl (rv_tmp hf rfl) ?_
   exact ⟨_, rfl, H.bel, mk_bool⟩

/- loop.example/g00897/laws.eqLight -/
set_option maxHeartbeats 1000000 in
theorem laws_eqLight_ok {fu : Nat} {w0 : World} {S : Nat → Prop} {v0_ : Value} {v1_ : Value} {a' : Light} {b' : Light} {r : Bool} (h0 : VR w0 S v0_ a') (h1 : VR w0 S v1_ b') (hF : laws_eqLight fu a' b' = some r) :
    Calls Tryz.prog 133 [v0_, v1_].toArray w0 fun e w' => ∃ v, e = .returned v ∧ (Below w0.heap.size w0 w' ∧ VR w' (St ⟨w0, []⟩ S [] [] [] true) v r) := by
 obtain ⟨A, c, rfl, hl⟩ := Light_open h0
 obtain ⟨A2, c2, rfl, hl2⟩ := Light_open h1
 have H := Mem.start ⟨w0, []⟩ S
 have H := H.pushArg (MP.val [(.slice A a'.Route.Fibers.length c)] a'.Route.Fibers) hl
 have H := H.pushArg (MP.val [(.slice A2 b'.Route.Fibers.length c2)] b'.Route.Fibers) hl2
 refine enter Tryz.func133 rfl rfl (nle rfl) rfl fun a hf => ?_
 rw [laws_eqLight] at hF
 refine sq (reg (wl0 rfl (op_box hf H rfl rfl (by decide) fun b2 a w hf H => ?_)))
 refine wl0 rfl (op_box hf H rfl rfl (by decide) fun b3 a w hf H => ?_)
 refine pr 1 hf rfl rfl fun a hf => ?_
 refine wl_end (then_n (sq (sq (reg (pr 1 hf rfl rfl fun a hf => ?_)))))
 refine wl0 rfl (op_q hf (rq_loadB hf H TF.ls3 1 rfl rfl rfl) rfl (by decide) fun a hf => ?_)
 refine pr 1 hf rfl rfl fun a hf => ?_
 refine wl0 rfl (op_q hf (rq_loadB hf H TF.ls3 0 rfl rfl rfl) rfl (by decide) fun a hf => ?_)
 refine pr 1 hf rfl rfl fun a hf => ?_
 refine wl_end (then_n (iteB hF (fun hc hF => cd_t hf rfl hc ?_) fun hc hF => cd_f hf rfl hc ?_))
 ·refine sq (reg (pr 1 hf rfl rfl fun a hf => ?_))
  refine wl_end (then_n (wp_ret (then_r (?_))))
  obtain rfl := Option.some.inj hF
  refine ret_1 (fn := Tryz.f133) (r := .tmp 4) hf rfl (rv_tmp hf rfl) ?_
  exact ⟨_, rfl, H.bel, mk_bool⟩
 ·refine wp_skip (then_n (sq (sq (reg (pr 1 hf rfl rfl fun a hf => ?_)))))
  refine wl0 rfl (op_q hf (rq_loadBN hf H TF.la108 1 rfl rfl rfl rfl) rfl (by decide) fun a hf => ?_)
  refine pr 1 hf rfl rfl fun a hf => ?_
  refine wl0 rfl (op_q hf (rq_loadBN hf H TF.la108 0 rfl rfl rfl rfl) rfl (by decide) fun a hf => ?_)
  obtain ⟨y, hy, hF⟩ := bind_some hF
  refine wl0 rfl (op_call hf TF.cl190 rfl (by decide) (laws_eqRoute_ok (S := fun _ => True) (Route_mkv (x := a'.Route) (rep_true (α := List Int) (H.get 1 rfl))) (Route_mkv (x := b'.Route) (rep_true (α := List Int) (H.get 0 rfl))) hy) fun v w a hp hf => ?_)
  obtain ⟨hb, hp⟩ := hp
  obtain rfl := VR_bool hp
  have H := H.keep hb
  refine pr 1 hf rfl rfl fun a hf => ?_
  have hf := hf.prune [2, 3, 15] rfl
  refine wl_end (then_n (iteB hF (fun hc2 hF => cd_t hf rfl hc2 ?_) fun hc2 hF => cd_f hf rfl hc2 ?_))
  ·refine sq (reg (pr 1 hf rfl rfl fun a hf => ?_))
   refine wl_end (then_n (wp_ret (then_r (?_))))
   obtain rfl := Option.some.inj hF
   refine ret_1 (fn := Tryz.f133) (r := .tmp 4) hf rfl (rv_tmp hf rfl) ?_
   exact ⟨_, rfl, H.bel, mk_bool⟩
  ·refine wp_skip (then_n (sq (sq (reg (pr 1 hf rfl rfl fun a hf => ?_)))))
   refine wl0 rfl (op_q hf (rq_loadBN hf H TF.la110 1 rfl rfl rfl rfl) rfl (by decide) fun a hf => ?_)
   refine pr 1 hf rfl rfl fun a hf => ?_
   refine wl0 rfl (op_q hf (rq_loadBN hf H TF.la110 0 rfl rfl rfl rfl) rfl (by decide) fun a hf => ?_)
   obtain ⟨y2, hy2, hF⟩ := bind_some hF
   refine wl0 rfl (op_call hf TF.cl191 rfl (by decide) (laws_eqBlock_ok (S := fun _ => True) Block_mkv Block_mkv hy2) fun v2 w a hp2 hf => ?_)
   obtain ⟨hb2, hp2⟩ := hp2
   obtain rfl := VR_bool hp2
   have H := H.keep hb2
   refine pr 1 hf rfl rfl fun a hf => ?_
   refine wl_end (then_n (iteB hF (fun hc3 hF => cd_t hf rfl hc3 ?_) fun hc3 hF => cd_f hf rfl hc3 ?_))
   ·refine sq (reg (pr 1 hf rfl rfl fun a hf => ?_))
    refine wl_end (then_n (wp_ret (then_r (?_))))
    obtain rfl := Option.some.inj hF
    refine ret_1 (fn := Tryz.f133) (r := .tmp 4) hf rfl (rv_tmp hf rfl) ?_
    exact ⟨_, rfl, H.bel, mk_bool⟩
   ·refine wp_skip (then_n (sq (reg (pr 1 hf rfl rfl fun a hf => ?_))))
    refine wl_end (then_n (wp_ret (?_)))
    obtain rfl := Option.some.inj hF
    refine ret_1 (fn := Tryz.f133) (r := .tmp 4) hf rfl (rv_tmp hf rfl) ?_
    exact ⟨_, rfl, H.bel, mk_bool⟩

/- loop.example/g00897/laws.eqLightS -/
set_option maxHeartbeats 1000000 in
theorem laws_eqLightS_ok {fu : Nat} {w0 : World} {S : Nat → Prop} {v0_ : Value} {v1_ : Value} {a' : List Light} {b' : List Light} {r : Bool} (h0 : VR w0 S v0_ a') (h1 : VR w0 S v1_ b') (hF : laws_eqLightS fu a' b' = some r) :
    Calls Tryz.prog 70 [v0_, v1_].toArray w0 fun e w' => ∃ v, e = .returned v ∧ (Below w0.heap.size w0 w' ∧ VR w' (St ⟨w0, []⟩ S [] [] [] true) v r) := by
 obtain ⟨A, c, rfl, hl⟩ := VR_list h0
 obtain ⟨A2, c2, rfl, hl2⟩ := VR_list h1
 have H := Mem.start ⟨w0, []⟩ S
 have H := H.pushArg (MP.val [(.slice A a'.length c)] a') hl
 have H := H.pushArg (MP.val [(.slice A2 b'.length c2)] b') hl2
 refine enter Tryz.func70 rfl rfl (nle rfl) rfl fun a hf => ?_
 rw [laws_eqLightS] at hF
 refine sq (reg (pr 1 hf rfl rfl fun a hf => ?_))
 refine wl_end (then_n (sq (sq (reg (pr 5 hf rfl rfl fun a hf => ?_)))))
 refine wl_end (then_n (iteB hF (fun hc hF => cd_t hf rfl hc ?_) fun hc hF => cd_f hf rfl hc ?_))
 ·refine sq (reg (pr 1 hf rfl rfl fun a hf => ?_))
  refine wl_end (then_n (wp_ret (then_r (?_))))
  obtain rfl := Option.some.inj hF
  refine ret_1 (fn := Tryz.f70) (r := .tmp 4) hf rfl (rv_tmp hf rfl) ?_
  exact ⟨_, rfl, H.bel, mk_bool⟩
 ·refine wp_skip (then_n (sq (sq (reg (pr 1 hf rfl rfl fun a hf => ?_)))))
  refine wl_end (then_n ?_)
  obtain ⟨out', hB1, hF⟩ := bind_some hF
  have hf := hf.prune [0, 1, 5] rfl
  have H := H.let [] [] [] [0, 1] rfl rfl rfl rfl
  refine loopC (fun (s : Int) (a : Act) (w : World) => match s with | i => Fr a 27 [(0, (.slice A a'.length c)), (1, (.slice A2 b'.length c2)), (5, (.int .i64 i))] ∧ Mem ⟨w0, []⟩ S [] [] [] [(false, MP.val [(.slice A2 b'.length c2)] (b' : List Light)), (false, MP.val [(.slice A a'.length c)] (a' : List Light))] w) (fun k (s : Int) => laws_eqLightS_L1 fu a' b' k s = some out') (fun s => out' = Out.next s) 0 fu hB1 ⟨hf, H⟩ (fun s h => by cases h) ?_ ?_
  ·rintro fk i a w hR1 hI
   replace hR1 : laws_eqLightS_L1 fu a' b' (fk + 1) i = some out' := hR1
   rw [laws_eqLightS_L1] at hR1
   obtain ⟨hf, H⟩ := hI
   refine sq (sq (reg (pr 4 hf rfl rfl fun a hf => ?_)))
   refine wl_end (then_n (iteB hR1 (fun hc2 hR1 => cd_t hf rfl hc2 ?_) fun hc2 hR1 => cd_f hf rfl hc2 ?_))
   ·refine wp_skip (then_n (sq (wp_block (sq (drawn [] (bs := [false, false, false, false, false, false, false, false, false, false]) (fuel := 10) (Checked.mixed Tryz.checked) rfl rfl fun w hb => ?_)))))
    have H := H.keep hb
    refine tp 0 rfl rfl hf (by kernel_rfl) (fun _ => trivial) rfl fun a hf => ?_
    refine tp 1 rfl rfl hf (by kernel_rfl) (fun _ => trivial) rfl fun a hf => ?_
    obtain ⟨e, he, hR1⟩ := bind_some hR1
    obtain ⟨p, o, cs, hx, hr, H⟩ := pre_iaddr H Tryz.underlying35 TF.sz112 1 rfl he
    refine tP 2 rfl rfl rfl rfl hf (by kernel_rfl) (fun _ => trivial) (fun w => rq_iaddrE hf rfl rfl rfl hx w) fun a hf => ?_
    obtain ⟨A3, c3, rfl, hl3⟩ := Light_cells hr
    have H := H.push (false, MP.val [(.slice A3 e.Route.Fibers.length c3)] e.Route.Fibers) hl3
    refine strT (H.let [] [] [] [1] rfl rfl rfl rfl) (fun w H => trivial) fun hS => ?_
    refine tS 3 [] rfl rfl rfl rfl hf (by kernel_rfl) (by kernel_rfl) hS (fun w H => rq_loadIN hf H TF.la112 0 0 rfl rfl rfl rfl) fun a hf => ?_
    refine tp 4 rfl rfl hf (by kernel_rfl) (fun _ => hS) rfl fun a hf => ?_
    refine tp 5 rfl rfl hf (by kernel_rfl) (fun _ => hS) rfl fun a hf => ?_
    obtain ⟨e2, he2, hR1⟩ := bind_some hR1
    obtain ⟨p2, o2, cs2, hx2, hr2, H⟩ := pre_iaddr H Tryz.underlying35 TF.sz112 2 rfl he2
    refine tP 6 rfl rfl rfl rfl hf (by kernel_rfl) (fun _ => hS) (fun w => rq_iaddrE hf rfl rfl rfl hx2 w) fun a hf => ?_
    obtain ⟨A4, c4, rfl, hl4⟩ := Light_cells hr2
    have H := H.push (false, MP.val [(.slice A4 e2.Route.Fibers.length c4)] e2.Route.Fibers) hl4
    refine strT (H.let [] [] [] [1, 3] rfl rfl rfl rfl) (fun w H => H.let [] [] [] [1] rfl rfl rfl rfl) fun hS => ?_
    refine tS 7 [] rfl rfl rfl rfl hf (by kernel_rfl) (by kernel_rfl) hS (fun w H => rq_loadIN hf H TF.la112 0 0 rfl rfl rfl rfl) fun a hf => ?_
    obtain ⟨y, hy, hR1⟩ := bind_some hR1
    refine n1 8 (by kernel_rfl) rfl rfl (op_call hf TF.cl133 rfl (by decide) (laws_eqLight_ok (S := fun _ => True) (Light_mkv (x := e) (rep_true (α := List Int) (H.get 2 rfl))) (Light_mkv (x := e2) (rep_true (α := List Int) (H.get 0 rfl))) hy) fun v w a hp hf => ?_)
    obtain ⟨hb, hp⟩ := hp
    obtain rfl := VR_bool hp
    have H := H.keep hb
    have hS := H.let [] [] [] [1, 3] rfl rfl rfl rfl
    refine ⟨fun _ => hS, ?_⟩
    refine tp 9 rfl rfl hf (by kernel_rfl) (fun _ => hS) rfl fun a hf => ?_
    refine dn (by kernel_rfl) ?_
    have hf := hf.prune [0, 1, 5, 26] rfl
    refine then_n (iteB hR1 (fun hc3 hR1 => cd_t hf rfl hc3 ?_) fun hc3 hR1 => cd_f hf rfl hc3 ?_)
    ·refine sq (reg (pr 1 hf rfl rfl fun a hf => ?_))
     refine wl_end (then_n (wp_ret (blk_r (then_r (then_r (blk_r (then_r (then_r (?_)))))))))
     obtain rfl := Option.some.inj hR1
     replace hF := on_ret hF
     obtain rfl := Option.some.inj hF
     refine ret_1 (fn := Tryz.f70) (r := .tmp 4) hf rfl (rv_tmp hf rfl) ?_
     exact ⟨_, rfl, H.bel, mk_bool⟩
    ·refine wp_skip (blk_n (then_n (reg (pr 3 hf rfl rfl fun a hf => ?_))))
     refine wl_end ?_
     have hf := hf.prune [0, 1, 5] rfl
     have H := H.let [] [] [] [4, 5] rfl rfl rfl rfl
     exact then_n ⟨w64 (i + 1), hR1, hf, H⟩
   ·refine wp_exit (then_x (then_x (blk_e (?_))))
    have hf := hf.prune [0, 1, 5] rfl
    have H := H.let [] [] [] [0, 1] rfl rfl rfl rfl
    exact ⟨i, (Option.some.inj hR1).symm, hf, H⟩
  rintro a w ⟨i2, rfl, hf, H⟩
  replace hF := on_next hF
  refine then_n (sq (reg (pr 1 hf rfl rfl fun a hf => ?_)))
  refine wl_end (then_n (wp_ret (?_)))
  obtain rfl := Option.some.inj hF
  refine ret_1 (fn := Tryz.f70) (r := .tmp 4) hf rfl (rv_tmp hf rfl) ?_
  exact ⟨_, rfl, H.bel, mk_bool⟩

/- loop.example/g00897/laws.eqPlan -/
set_option maxHeartbeats 1000000 in
theorem laws_eqPlan_ok {fu : Nat} {w0 : World} {S : Nat → Prop} {v0_ : Value} {v1_ : Value} {a' : Plan} {b' : Plan} {r : Bool} (h0 : VR w0 S v0_ a') (h1 : VR w0 S v1_ b') (hF : laws_eqPlan fu a' b' = some r) :
    Calls Tryz.prog 19 [v0_, v1_].toArray w0 fun e w' => ∃ v, e = .returned v ∧ (Below w0.heap.size w0 w' ∧ VR w' (St ⟨w0, []⟩ S [] [] [] true) v r) := by
 obtain ⟨A, c, A2, c2, A3, c3, rfl, hl, hl2, hl3⟩ := Plan_open h0
 obtain ⟨A4, c4, A5, c5, A6, c6, rfl, hl4, hl5, hl6⟩ := Plan_open h1
 have H := Mem.start ⟨w0, []⟩ S
 have H := H.pushArg (MP.val [(.slice A a'.Network.Nodes.length c)] a'.Network.Nodes) hl
 have H := H.pushArg (MP.val [(.slice A2 a'.Network.Fibers.length c2)] a'.Network.Fibers) hl2
 have H := H.pushArg (MP.val [(.slice A3 a'.Lights.length c3)] a'.Lights) hl3
 have H := H.pushArg (MP.val [(.slice A4 b'.Network.Nodes.length c4)] b'.Network.Nodes) hl4
 have H := H.pushArg (MP.val [(.slice A5 b'.Network.Fibers.length c5)] b'.Network.Fibers) hl5
 have H := H.pushArg (MP.val [(.slice A6 b'.Lights.length c6)] b'.Lights) hl6
 refine enter Tryz.func19 rfl rfl (nle rfl) rfl fun a hf => ?_
 rw [laws_eqPlan] at hF
 refine sq (reg (wl0 rfl (op_box hf H rfl rfl (by decide) fun b2 a w hf H => ?_)))
 refine wl0 rfl (op_box hf H rfl rfl (by decide) fun b3 a w hf H => ?_)
 refine pr 1 hf rfl rfl fun a hf => ?_
 refine wl_end (then_n (sq (sq (reg (pr 1 hf rfl rfl fun a hf => ?_)))))
 refine wl0 rfl (op_q hf (rq_loadBN hf H TF.la34 1 rfl rfl rfl rfl) rfl (by decide) fun a hf => ?_)
 refine pr 1 hf rfl rfl fun a hf => ?_
 refine wl0 rfl (op_q hf (rq_loadBN hf H TF.la34 0 rfl rfl rfl rfl) rfl (by decide) fun a hf => ?_)
 obtain ⟨y, hy, hF⟩ := bind_some hF
 refine wl0 rfl (op_call hf TF.cl69 rfl (by decide) (laws_eqNetwork_ok (S := fun _ => True) (Network_mkv (x := a'.Network) (rep_true (α := List ByteArray) (H.get 5 rfl)) (rep_true (α := List Fiber) (H.get 4 rfl))) (Network_mkv (x := b'.Network) (rep_true (α := List ByteArray) (H.get 2 rfl)) (rep_true (α := List Fiber) (H.get 1 rfl))) hy) fun v w a hp hf => ?_)
 obtain ⟨hb, hp⟩ := hp
 obtain rfl := VR_bool hp
 have H := H.keep hb
 refine pr 1 hf rfl rfl fun a hf => ?_
 refine wl_end (then_n (iteB hF (fun hc hF => cd_t hf rfl hc ?_) fun hc hF => cd_f hf rfl hc ?_))
 ·refine sq (reg (pr 1 hf rfl rfl fun a hf => ?_))
  refine wl_end (then_n (wp_ret (then_r (?_))))
  obtain rfl := Option.some.inj hF
  refine ret_1 (fn := Tryz.f19) (r := .tmp 4) hf rfl (rv_tmp hf rfl) ?_
  exact ⟨_, rfl, H.bel, mk_bool⟩
 ·refine wp_skip (then_n (sq (sq (reg (pr 1 hf rfl rfl fun a hf => ?_)))))
  refine wl0 rfl (op_q hf (rq_loadB hf H TF.ls35 1 rfl rfl rfl) rfl (by decide) fun a hf => ?_)
  refine pr 1 hf rfl rfl fun a hf => ?_
  refine wl0 rfl (op_q hf (rq_loadB hf H TF.ls35 0 rfl rfl rfl) rfl (by decide) fun a hf => ?_)
  obtain ⟨y2, hy2, hF⟩ := bind_some hF
  refine wl0 rfl (op_call hf TF.cl70 rfl (by decide) (laws_eqLightS_ok (S := fun _ => True) (mk_list (rep_true (α := List Light) (H.get 3 rfl))) (mk_list (rep_true (α := List Light) (H.get 0 rfl))) hy2) fun v2 w a hp2 hf => ?_)
  obtain ⟨hb2, hp2⟩ := hp2
  obtain rfl := VR_bool hp2
  have H := H.keep hb2
  refine pr 1 hf rfl rfl fun a hf => ?_
  have hf := hf.prune [16] rfl
  refine wl_end (then_n (iteB hF (fun hc2 hF => cd_t hf rfl hc2 ?_) fun hc2 hF => cd_f hf rfl hc2 ?_))
  ·refine sq (reg (pr 1 hf rfl rfl fun a hf => ?_))
   refine wl_end (then_n (wp_ret (then_r (?_))))
   obtain rfl := Option.some.inj hF
   refine ret_1 (fn := Tryz.f19) (r := .tmp 4) hf rfl (rv_tmp hf rfl) ?_
   exact ⟨_, rfl, H.bel, mk_bool⟩
  ·refine wp_skip (then_n (sq (reg (pr 1 hf rfl rfl fun a hf => ?_))))
   refine wl_end (then_n (wp_ret (?_)))
   obtain rfl := Option.some.inj hF
   refine ret_1 (fn := Tryz.f19) (r := .tmp 4) hf rfl (rv_tmp hf rfl) ?_
   exact ⟨_, rfl, H.bel, mk_bool⟩

/- loop.example/g00897/laws.markText -/
set_option maxHeartbeats 1000000 in
theorem laws_markText_ok {fu : Nat} {w0 : World} {S : Nat → Prop} {v0_ : Value} {k' : Int} {r : ByteArray} (h0 : VR w0 S v0_ k') (hF : laws_markText fu k' = some r) :
    Calls Tryz.prog 199 [v0_].toArray w0 fun e w' => ∃ v, e = .returned v ∧ (Below w0.heap.size w0 w' ∧ VR w' (St ⟨w0, []⟩ S [] [] [] true) v r) := by
 obtain rfl := VR_int h0
 have H := Mem.start ⟨w0, []⟩ S
 refine enter Tryz.func199 rfl rfl (nle rfl) rfl fun a hf => ?_
 rw [laws_markText] at hF
 refine sq (reg (pr 1 hf rfl rfl fun a hf => ?_))
 refine wl_end (then_n (sq (sq (reg (pr 2 hf rfl rfl fun a hf => ?_)))))
 refine wl_end (then_n (iteB hF (fun hc hF => cd_t hf rfl hc ?_) fun hc hF => cd_f hf rfl hc ?_))
 ·refine sq (reg (pr 1 hf rfl rfl fun a hf => ?_))
  refine wl_end (then_n (wp_ret (then_r (?_))))
  obtain rfl := Option.some.inj hF
  refine ret_1 (fn := Tryz.f199) (r := .tmp 2) hf rfl (rv_tmp hf rfl) ?_
  exact ⟨_, rfl, H.bel, mk_str⟩
 ·refine wp_skip (then_n (sq (reg (pr 1 hf rfl rfl fun a hf => ?_))))
  refine wl_end (then_n (sq ?_))
  obtain ⟨out2, hB1, hF⟩ := bind_some hF
  have hf := hf.prune [0, 3] rfl
  have H := H.let [] [] [] [] rfl rfl rfl rfl
  refine loopC (fun (s : Int × ByteArray) (a : Act) (w : World) => match s with | (k2, out') => Fr a 20 [(0, (.int .i64 k2)), (3, (.string out'))] ∧ Mem ⟨w0, []⟩ S [] [] [] [] w) (fun k (s : Int × ByteArray) => laws_markText_L1 fu k s.1 s.2 = some out2) (fun s => out2 = s) (k', ByteArray.empty) fu hB1 ⟨hf, H⟩ (fun s h => by cases h) ?_ ?_
  ·rintro fk ⟨k2, out'⟩ a w hR1 hI
   replace hR1 : laws_markText_L1 fu (fk + 1) k2 out' = some out2 := hR1
   rw [laws_markText_L1] at hR1
   obtain ⟨hf, H⟩ := hI
   refine sq (sq (reg (pr 2 hf rfl rfl fun a hf => ?_)))
   refine wl_end (then_n (iteB hR1 (fun hc2 hR1 => cd_t hf rfl hc2 ?_) fun hc2 hR1 => cd_f hf rfl hc2 ?_))
   ·refine wp_skip (then_n (wp_block (sq (reg (pr 1 hf rfl rfl fun a hf => ?_)))))
    obtain ⟨q, hq, hR1⟩ := bind_some hR1
    refine wl0 rfl (op_q hf (rq_rem hf rfl rfl hq) rfl (by decide) fun a hf => ?_)
    refine pr 1 hf rfl rfl fun a hf => ?_
    refine wl0 rfl (op_q hf (rq_conv u8w Tryz.underlying3 Tryz.underlying5 hf rfl) rfl (by decide) fun a hf => ?_)
    refine wl0 rfl (op_bslice hf H (.sh true) rfl 5 ([(⟨wu8 (w64 (48 + q))⟩ : By)] : List By) [(.int .u8 (wu8 (w64 (48 + q))))] rfl (fun w => by kernel_rfl) rfl (by decide) rfl trivial (el1 (y := (⟨wu8 (w64 (48 + q))⟩ : By)) (rfl)) (by decide) fun A a w hf H => ?_)
    refine wl0 rfl (op_q hf (rq_convBS Tryz.underlying229 Tryz.underlying5 Tryz.underlying9 hf rfl (H.rowTrue 0 rfl)) rfl (by decide) fun a hf => ?_)
    refine pr 1 hf rfl rfl fun a hf => ?_
    obtain ⟨s', hs', hR1⟩ := bind_some hR1
    refine wl0 rfl (op_q hf (rq_scat hf rfl rfl hs') rfl (by decide) fun a hf => ?_)
    refine pr 1 hf rfl rfl fun a hf => ?_
    refine wl_end (then_n (reg (pr 1 hf rfl rfl fun a hf => ?_)))
    obtain ⟨q2, hq2, hR1⟩ := bind_some hR1
    refine wl0 rfl (op_q hf (rq_quo hf rfl rfl hq2) rfl (by decide) fun a hf => ?_)
    refine pr 1 hf rfl rfl fun a hf => ?_
    refine wl_end (blk_n ?_)
    have hf := hf.prune [0, 3] rfl
    have H := H.let [] [false] [] [] rfl rfl rfl rfl
    exact then_n ⟨(q2, s'), hR1, hf, H⟩
   ·refine wp_exit (then_x (then_x (blk_e (?_))))
    have hf := hf.prune [0, 3] rfl
    have H := H.let [] [] [] [] rfl rfl rfl rfl
    exact ⟨(k2, out'), (Option.some.inj hR1).symm, hf, H⟩
  rintro a w ⟨⟨k3, out3⟩, rfl, hf, H⟩
  dsimp only at hF
  refine then_n (sq (reg (pr 1 hf rfl rfl fun a hf => ?_)))
  obtain ⟨s2, hs2, hF⟩ := bind_some hF
  refine wl0 rfl (op_q hf (rq_scat hf rfl rfl hs2) rfl (by decide) fun a hf => ?_)
  refine pr 1 hf rfl rfl fun a hf => ?_
  refine wl_end (then_n (wp_ret (?_)))
  obtain rfl := Option.some.inj hF
  refine ret_1 (fn := Tryz.f199) (r := .tmp 2) hf rfl (rv_tmp hf rfl) ?_
  exact ⟨_, rfl, H.bel, mk_str⟩

/- loop.example/g00897/laws.markStringS -/
set_option maxHeartbeats 1000000 in
theorem laws_markStringS_ok {fu : Nat} {w0 : World} {S : Nat → Prop} {F : List Nat} {cs : List Value} {v1_ : Value} {a' : List ByteArray} {k' : Int} {r : Int × List ByteArray} (hO : GoTy.own w0 F cs a') (hn : F.Nodup) (h1 : VR w0 S v1_ k') (hF : laws_markStringS fu a' k' = some r) :
    Calls Tryz.prog 145 [(bif GoTy.agg (List ByteArray) then .agg cs.toArray else cs.headD undef), v1_].toArray w0 fun e w' => ∃ v, e = .returned v ∧ (Chg w0 w' F ∧ VR w' (fun _ => True) v r.1 ∧ ∃ F', GoTy.own w' F' cs r.2 ∧ Back w0 w' F F') := by
 obtain rfl := VR_int h1
 obtain ⟨A, c, rfl, hO⟩ := own_list hO
 have H := Mem.startG S hO hn
 obtain ⟨Fs, E, H, -⟩ := H.thaw rfl
 have H := H.rowSh 0 rfl
 refine enter Tryz.func145 rfl rfl (nle rfl) rfl fun a hf => ?_
 rw [laws_markStringS] at hF
 refine sq (reg (pr 1 hf rfl rfl fun a hf => ?_))
 refine wl_end (then_n (sq (sq (reg (pr 1 hf rfl rfl fun a hf => ?_)))))
 refine wl_end (then_n ?_)
 obtain ⟨out', hB1, hF⟩ := bind_some hF
 have hf := hf.prune [0, 1, 5] rfl
 have hf : Fr a 20 [(0, (.slice A a'.length c)), (1, (.int .i64 k')), (5, (.int .i64 0))] := by first | exact hf | (simp only [List.length_set] at hf; exact hf)
 have H := H.let [] [true] [] [] rfl rfl rfl rfl
 refine loopC (fun (s : List ByteArray × Int × Int) (a : Act) (w : World) => match s with | (a2, k2, i) => a2.length = a'.length ∧ Fr a 20 [(0, (.slice A a'.length c)), (1, (.int .i64 k2)), (5, (.int .i64 i))] ∧ Mem ⟨w0, F⟩ S [] [⟨.sh true, E, A, c, (a2 : List ByteArray)⟩] [] [] w) (fun k (s : List ByteArray × Int × Int) => laws_markStringS_L1 fu k s.1 s.2.1 s.2.2 = some out') (fun s => out' = s) (a', k', 0) fu hB1 ⟨rfl, hf, H⟩ (fun s h => by cases h) ?_ ?_
 ·rintro fk ⟨a2, k2, i⟩ a w hR1 hI
  replace hR1 : laws_markStringS_L1 fu (fk + 1) a2 k2 i = some out' := hR1
  rw [laws_markStringS_L1] at hR1
  obtain ⟨hlen, hf, H⟩ := hI
  have hf : Fr a 20 [(0, (.slice A a2.length c)), (1, (.int .i64 k2)), (5, (.int .i64 i))] := by rw [hlen]; exact hf
  refine sq (sq (reg (pr 4 hf rfl rfl fun a hf => ?_)))
  refine wl_end (then_n (iteB hR1 (fun hc hR1 => cd_t hf rfl hc ?_) fun hc hR1 => cd_f hf rfl hc ?_))
  ·refine wp_skip (then_n (sq (wp_block (sq (reg (pr 3 hf rfl rfl fun a hf => ?_))))))
   obtain ⟨y, hy, hR1⟩ := bind_some hR1
   refine wl0 rfl (op_call hf TF.cl199 rfl (by decide) (laws_markText_ok (S := fun _ => True) mk_int hy) fun v w a hp hf => ?_)
   obtain ⟨hb, hp⟩ := hp
   obtain rfl := VR_str hp
   have H := H.keep hb
   obtain ⟨e, he, hR1⟩ := bind_some hR1
   refine wl0 rfl (op_iaddrR hf H Tryz.underlying22 TF.sz9 0 rfl rfl rfl he (by decide) fun p o cs a hf hA hr hk => ?_)
   obtain rfl := hr
   refine wl0 rfl (op_storeR (e' := y) (o := o) (off := 0) hf H TF.sz9 0 rfl rfl rfl rfl rfl (nle rfl) rfl hA he (st_full rfl) fun w H => ?_)
   replace hf : Fr a 20 [(0, (.slice A a2.length c)), (1, (.int .i64 k2)), (5, (.int .i64 i)), (6, (.int .i64 i)), (7, (.slice A a2.length c)), (8, (.int .i64 (a2.length : Int))), (9, (.bool (decide (i < (a2.length : Int))))), (12, (.slice A a2.length c)), (13, (.int .i64 i)), (14, (.int .i64 k2)), (15, (.string y)), (16, (.pointer (some ⟨p, o + 0, none⟩)))] := hf.prune [0, 1, 5, 6, 7, 8, 9, 12, 13, 14, 15, 16] rfl
   replace hf : Fr a 20 [(0, (.slice A (a2.set (i).toNat y).length c)), (1, (.int .i64 k2)), (5, (.int .i64 i)), (6, (.int .i64 i)), (7, (.slice A (a2.set (i).toNat y).length c)), (8, (.int .i64 (a2.length : Int))), (9, (.bool (decide (i < (a2.length : Int))))), (12, (.slice A (a2.set (i).toNat y).length c)), (13, (.int .i64 i)), (14, (.int .i64 k2)), (15, (.string y)), (16, (.pointer (some ⟨p, o + 0, none⟩)))] := by simpa only [List.length_set, Nat.add_zero] using hf
   refine wl_end (then_n (reg (pr 3 hf rfl rfl fun a hf => ?_)))
   refine wl_end (blk_n (then_n (reg (pr 3 hf rfl rfl fun a hf => ?_))))
   have hf := hf.prune [0, 1, 5] rfl
   refine wl_end ?_
   have hf := hf.prune [0, 1, 5] rfl
   have hf : Fr a 20 [(0, (.slice A a'.length c)), (1, (.int .i64 (w64 (k2 + 1)))), (5, (.int .i64 (w64 (i + 1))))] := by first | exact hf | (simp only [List.length_set, hlen] at hf; exact hf)
   have H := H.let [] [true] [] [] rfl rfl rfl rfl
   exact then_n ⟨(a2.set (i).toNat y, w64 (k2 + 1), w64 (i + 1)), hR1, (by simp only [List.length_set, hlen]), hf, H⟩
  ·refine wp_exit (then_x (then_x (blk_e (?_))))
   have hf := hf.prune [0, 1, 5] rfl
   have hf : Fr a 20 [(0, (.slice A a'.length c)), (1, (.int .i64 k2)), (5, (.int .i64 i))] := by first | exact hf | (simp only [List.length_set, hlen] at hf; exact hf)
   have H := H.let [] [true] [] [] rfl rfl rfl rfl
   exact ⟨(a2, k2, i), (Option.some.inj hR1).symm, (by simp only [List.length_set, hlen]), hf, H⟩
 rintro a w ⟨⟨a3, k3, i2⟩, rfl, hlen, hf, H⟩
 try dsimp only at hlen
 have hf : Fr a 20 [(0, (.slice A a3.length c)), (1, (.int .i64 k3)), (5, (.int .i64 i2))] := by rw [hlen]; exact hf
 dsimp only at hF
 refine then_n (sq (reg (pr 2 hf rfl rfl fun a hf => ?_)))
 refine wl_end (then_n (wp_ret (?_)))
 have H := H.rowOwn 0 rfl rfl
 obtain ⟨F', H⟩ := H.freezeOwn 0 rfl
 rw [hlen] at H
 obtain rfl := Option.some.inj hF
 refine ret_1 (fn := Tryz.f145) (r := .tmp 4) hf rfl (rv_tmp hf rfl) ?_
 exact ⟨_, rfl, H.chg, mk_int, _, H.ownAt 0 rfl, H.back⟩

/- loop.example/g00897/laws.markFiberS -/
set_option maxHeartbeats 1000000 in
theorem laws_markFiberS_ok {fu : Nat} {w0 : World} {S : Nat → Prop} {F : List Nat} {cs : List Value} {v1_ : Value} {a' : List Fiber} {k' : Int} {r : Int × List Fiber} (hO : GoTy.own w0 F cs a') (hn : F.Nodup) (h1 : VR w0 S v1_ k') (hF : laws_markFiberS fu a' k' = some r) :
    Calls Tryz.prog 146 [(bif GoTy.agg (List Fiber) then .agg cs.toArray else cs.headD undef), v1_].toArray w0 fun e w' => ∃ v, e = .returned v ∧ (Chg w0 w' F ∧ VR w' (fun _ => True) v r.1 ∧ ∃ F', GoTy.own w' F' cs r.2 ∧ Back w0 w' F F') := by
 obtain rfl := VR_int h1
 obtain ⟨A, c, rfl, hO⟩ := own_list hO
 have H := Mem.startG S hO hn
 obtain ⟨Fs, E, H, -⟩ := H.thaw rfl
 have H := H.rowSh 0 rfl
 refine enter Tryz.func146 rfl rfl (nle rfl) rfl fun a hf => ?_
 rw [laws_markFiberS] at hF
 refine sq (reg (pr 1 hf rfl rfl fun a hf => ?_))
 refine wl_end (then_n (sq (sq (reg (pr 1 hf rfl rfl fun a hf => ?_)))))
 refine wl_end (then_n ?_)
 obtain ⟨out', hB1, hF⟩ := bind_some hF
 have hf := hf.prune [0, 1, 5] rfl
 have hf : Fr a 41 [(0, (.slice A a'.length c)), (1, (.int .i64 k')), (5, (.int .i64 0))] := by first | exact hf | (simp only [List.length_set] at hf; exact hf)
 have H := H.let [] [true] [] [] rfl rfl rfl rfl
 refine loopC (fun (s : List Fiber × Int × Int) (a : Act) (w : World) => match s with | (a2, k2, i) => a2.length = a'.length ∧ Fr a 41 [(0, (.slice A a'.length c)), (1, (.int .i64 k2)), (5, (.int .i64 i))] ∧ Mem ⟨w0, F⟩ S [] [⟨.sh true, E, A, c, (a2 : List Fiber)⟩] [] [] w) (fun k (s : List Fiber × Int × Int) => laws_markFiberS_L1 fu k s.1 s.2.1 s.2.2 = some out') (fun s => out' = s) (a', k', 0) fu hB1 ⟨rfl, hf, H⟩ (fun s h => by cases h) ?_ ?_
 ·rintro fk ⟨a2, k2, i⟩ a w hR1 hI
  replace hR1 : laws_markFiberS_L1 fu (fk + 1) a2 k2 i = some out' := hR1
  rw [laws_markFiberS_L1] at hR1
  obtain ⟨hlen, hf, H⟩ := hI
  have hf : Fr a 41 [(0, (.slice A a2.length c)), (1, (.int .i64 k2)), (5, (.int .i64 i))] := by rw [hlen]; exact hf
  refine sq (sq (reg (pr 4 hf rfl rfl fun a hf => ?_)))
  refine wl_end (then_n (iteB hR1 (fun hc hR1 => cd_t hf rfl hc ?_) fun hc hR1 => cd_f hf rfl hc ?_))
  ·refine wp_skip (then_n (sq (wp_block (sq (reg (pr 3 hf rfl rfl fun a hf => ?_))))))
   obtain ⟨e, he, hR1⟩ := bind_some hR1
   refine wl0 rfl (op_iaddrR hf H Tryz.underlying32 TF.sz120 0 rfl rfl rfl he (by decide) fun p o cs a hf hA hr hk => ?_)
   obtain rfl := Fiber_cells hr
   refine pr 1 hf rfl rfl fun a hf => ?_
   refine wl0 rfl (op_storeR (e' := ({ A := k2, B := e.B, Length := e.Length, Risk := e.Risk } : Fiber)) (o := o) (off := 0) hf H TF.sz3 0 rfl rfl rfl rfl rfl (nle rfl) rfl hA he (fun cs h => by obtain rfl := Fiber_cells h; exact Fiber_mk (x := ({ A := k2, B := e.B, Length := e.Length, Risk := e.Risk } : Fiber))) fun w H => ?_)
   replace hf : Fr a 41 [(0, (.slice A a2.length c)), (1, (.int .i64 k2)), (5, (.int .i64 i)), (6, (.int .i64 i)), (7, (.slice A a2.length c)), (8, (.int .i64 (a2.length : Int))), (9, (.bool (decide (i < (a2.length : Int))))), (12, (.slice A a2.length c)), (13, (.int .i64 i)), (14, (.int .i64 k2)), (15, (.pointer (some ⟨p, o + 0, none⟩))), (16, (.pointer (some ⟨p, o + 0, none⟩)))] := hf.prune [0, 1, 5, 6, 7, 8, 9, 12, 13, 14, 15, 16] rfl
   replace hf : Fr a 41 [(0, (.slice A (a2.set (i).toNat ({ A := k2, B := e.B, Length := e.Length, Risk := e.Risk } : Fiber)).length c)), (1, (.int .i64 k2)), (5, (.int .i64 i)), (6, (.int .i64 i)), (7, (.slice A (a2.set (i).toNat ({ A := k2, B := e.B, Length := e.Length, Risk := e.Risk } : Fiber)).length c)), (8, (.int .i64 (a2.length : Int))), (9, (.bool (decide (i < (a2.length : Int))))), (12, (.slice A (a2.set (i).toNat ({ A := k2, B := e.B, Length := e.Length, Risk := e.Risk } : Fiber)).length c)), (13, (.int .i64 i)), (14, (.int .i64 k2)), (15, (.pointer (some ⟨p, o + 0, none⟩))), (16, (.pointer (some ⟨p, o + 0, none⟩)))] := by simpa only [List.length_set, Nat.add_zero] using hf
   refine wl_end (then_n (sq (reg (pr 3 hf rfl rfl fun a hf => ?_))))
   refine wl_end (then_n (sq (reg (pr 3 hf rfl rfl fun a hf => ?_))))
   obtain ⟨e2, he2, hR1⟩ := bind_some hR1
   refine wl0 rfl (op_iaddrR hf H Tryz.underlying32 TF.sz120 0 rfl rfl rfl he2 (by decide) fun p2 o2 cs2 a hf hA2 hr2 hk2 => ?_)
   obtain rfl := Fiber_cells hr2
   refine pr 1 hf rfl rfl fun a hf => ?_
   refine wl0 rfl (op_storeR (e' := ({ A := e2.A, B := w64 (k2 + 1), Length := e2.Length, Risk := e2.Risk } : Fiber)) (o := o2) (off := 1) hf H TF.sz3 0 rfl rfl rfl rfl rfl (nle rfl) rfl hA2 he2 (fun cs h => by obtain rfl := Fiber_cells h; exact Fiber_mk (x := ({ A := e2.A, B := w64 (k2 + 1), Length := e2.Length, Risk := e2.Risk } : Fiber))) fun w H => ?_)
   replace hf : Fr a 41 [(0, (.slice A (a2.set (i).toNat ({ A := k2, B := e.B, Length := e.Length, Risk := e.Risk } : Fiber)).length c)), (1, (.int .i64 (w64 (k2 + 1)))), (5, (.int .i64 i)), (6, (.int .i64 i)), (7, (.slice A (a2.set (i).toNat ({ A := k2, B := e.B, Length := e.Length, Risk := e.Risk } : Fiber)).length c)), (8, (.int .i64 (a2.length : Int))), (9, (.bool (decide (i < (a2.length : Int))))), (12, (.slice A (a2.set (i).toNat ({ A := k2, B := e.B, Length := e.Length, Risk := e.Risk } : Fiber)).length c)), (13, (.int .i64 i)), (14, (.int .i64 k2)), (15, (.pointer (some ⟨p, o + 0, none⟩))), (16, (.pointer (some ⟨p, o + 0, none⟩))), (17, (.int .i64 k2)), (18, (.int .i64 (w64 (k2 + 1)))), (19, (.slice A (a2.set (i).toNat ({ A := k2, B := e.B, Length := e.Length, Risk := e.Risk } : Fiber)).length c)), (20, (.int .i64 i)), (21, (.int .i64 (w64 (k2 + 1)))), (22, (.pointer (some ⟨p2, o2 + 0, none⟩))), (23, (.pointer (some ⟨p2, o2 + 1, none⟩)))] := hf.prune [0, 1, 5, 6, 7, 8, 9, 12, 13, 14, 15, 16, 17, 18, 19, 20, 21, 22, 23] rfl
   replace hf : Fr a 41 [(0, (.slice A ((a2.set (i).toNat ({ A := k2, B := e.B, Length := e.Length, Risk := e.Risk } : Fiber)).set (i).toNat ({ A := e2.A, B := w64 (k2 + 1), Length := e2.Length, Risk := e2.Risk } : Fiber)).length c)), (1, (.int .i64 (w64 (k2 + 1)))), (5, (.int .i64 i)), (6, (.int .i64 i)), (7, (.slice A ((a2.set (i).toNat ({ A := k2, B := e.B, Length := e.Length, Risk := e.Risk } : Fiber)).set (i).toNat ({ A := e2.A, B := w64 (k2 + 1), Length := e2.Length, Risk := e2.Risk } : Fiber)).length c)), (8, (.int .i64 (a2.length : Int))), (9, (.bool (decide (i < (a2.length : Int))))), (12, (.slice A ((a2.set (i).toNat ({ A := k2, B := e.B, Length := e.Length, Risk := e.Risk } : Fiber)).set (i).toNat ({ A := e2.A, B := w64 (k2 + 1), Length := e2.Length, Risk := e2.Risk } : Fiber)).length c)), (13, (.int .i64 i)), (14, (.int .i64 k2)), (15, (.pointer (some ⟨p, o + 0, none⟩))), (16, (.pointer (some ⟨p, o + 0, none⟩))), (17, (.int .i64 k2)), (18, (.int .i64 (w64 (k2 + 1)))), (19, (.slice A ((a2.set (i).toNat ({ A := k2, B := e.B, Length := e.Length, Risk := e.Risk } : Fiber)).set (i).toNat ({ A := e2.A, B := w64 (k2 + 1), Length := e2.Length, Risk := e2.Risk } : Fiber)).length c)), (20, (.int .i64 i)), (21, (.int .i64 (w64 (k2 + 1)))), (22, (.pointer (some ⟨p2, o2 + 0, none⟩))), (23, (.pointer (some ⟨p2, o2 + 1, none⟩)))] := by simpa only [List.length_set, Nat.add_zero] using hf
   have hf := hf.prune [0, 1, 5] rfl
   refine wl_end (then_n (sq (reg (pr 3 hf rfl rfl fun a hf => ?_))))
   refine wl_end (then_n (sq (reg (pr 3 hf rfl rfl fun a hf => ?_))))
   obtain ⟨e3, he3, hR1⟩ := bind_some hR1
   refine wl0 rfl (op_iaddrR hf H Tryz.underlying32 TF.sz120 0 rfl rfl rfl he3 (by decide) fun p3 o3 cs3 a hf hA3 hr3 hk3 => ?_)
   obtain rfl := Fiber_cells hr3
   refine pr 1 hf rfl rfl fun a hf => ?_
   refine wl0 rfl (op_storeR (e' := ({ A := e3.A, B := e3.B, Length := w64 ((w64 (k2 + 1)) + 1), Risk := e3.Risk } : Fiber)) (o := o3) (off := 2) hf H TF.sz3 0 rfl rfl rfl rfl rfl (nle rfl) rfl hA3 he3 (fun cs h => by obtain rfl := Fiber_cells h; exact Fiber_mk (x := ({ A := e3.A, B := e3.B, Length := w64 ((w64 (k2 + 1)) + 1), Risk := e3.Risk } : Fiber))) fun w H => ?_)
   replace hf : Fr a 41 [(0, (.slice A ((a2.set (i).toNat ({ A := k2, B := e.B, Length := e.Length, Risk := e.Risk } : Fiber)).set (i).toNat ({ A := e2.A, B := w64 (k2 + 1), Length := e2.Length, Risk := e2.Risk } : Fiber)).length c)), (1, (.int .i64 (w64 ((w64 (k2 + 1)) + 1)))), (5, (.int .i64 i)), (24, (.int .i64 (w64 (k2 + 1)))), (25, (.int .i64 (w64 ((w64 (k2 + 1)) + 1)))), (26, (.slice A ((a2.set (i).toNat ({ A := k2, B := e.B, Length := e.Length, Risk := e.Risk } : Fiber)).set (i).toNat ({ A := e2.A, B := w64 (k2 + 1), Length := e2.Length, Risk := e2.Risk } : Fiber)).length c)), (27, (.int .i64 i)), (28, (.int .i64 (w64 ((w64 (k2 + 1)) + 1)))), (29, (.pointer (some ⟨p3, o3 + 0, none⟩))), (30, (.pointer (some ⟨p3, o3 + 2, none⟩)))] := hf.prune [0, 1, 5, 24, 25, 26, 27, 28, 29, 30] rfl
   replace hf : Fr a 41 [(0, (.slice A (((a2.set (i).toNat ({ A := k2, B := e.B, Length := e.Length, Risk := e.Risk } : Fiber)).set (i).toNat ({ A := e2.A, B := w64 (k2 + 1), Length := e2.Length, Risk := e2.Risk } : Fiber)).set (i).toNat ({ A := e3.A, B := e3.B, Length := w64 ((w64 (k2 + 1)) + 1), Risk := e3.Risk } : Fiber)).length c)), (1, (.int .i64 (w64 ((w64 (k2 + 1)) + 1)))), (5, (.int .i64 i)), (24, (.int .i64 (w64 (k2 + 1)))), (25, (.int .i64 (w64 ((w64 (k2 + 1)) + 1)))), (26, (.slice A (((a2.set (i).toNat ({ A := k2, B := e.B, Length := e.Length, Risk := e.Risk } : Fiber)).set (i).toNat ({ A := e2.A, B := w64 (k2 + 1), Length := e2.Length, Risk := e2.Risk } : Fiber)).set (i).toNat ({ A := e3.A, B := e3.B, Length := w64 ((w64 (k2 + 1)) + 1), Risk := e3.Risk } : Fiber)).length c)), (27, (.int .i64 i)), (28, (.int .i64 (w64 ((w64 (k2 + 1)) + 1)))), (29, (.pointer (some ⟨p3, o3 + 0, none⟩))), (30, (.pointer (some ⟨p3, o3 + 2, none⟩)))] := by simpa only [List.length_set, Nat.add_zero] using hf
   refine wl_end (then_n (sq (reg (pr 3 hf rfl rfl fun a hf => ?_))))
   refine wl_end (then_n (sq (reg (pr 3 hf rfl rfl fun a hf => ?_))))
   obtain ⟨e4, he4, hR1⟩ := bind_some hR1
   refine wl0 rfl (op_iaddrR hf H Tryz.underlying32 TF.sz120 0 rfl rfl rfl he4 (by decide) fun p4 o4 cs4 a hf hA4 hr4 hk4 => ?_)
   obtain rfl := Fiber_cells hr4
   refine pr 1 hf rfl rfl fun a hf => ?_
   refine wl0 rfl (op_storeR (e' := ({ A := e4.A, B := e4.B, Length := e4.Length, Risk := w64 ((w64 ((w64 (k2 + 1)) + 1)) + 1) } : Fiber)) (o := o4) (off := 3) hf H TF.sz3 0 rfl rfl rfl rfl rfl (nle rfl) rfl hA4 he4 (fun cs h => by obtain rfl := Fiber_cells h; exact Fiber_mk (x := ({ A := e4.A, B := e4.B, Length := e4.Length, Risk := w64 ((w64 ((w64 (k2 + 1)) + 1)) + 1) } : Fiber))) fun w H => ?_)
   replace hf : Fr a 41 [(0, (.slice A (((a2.set (i).toNat ({ A := k2, B := e.B, Length := e.Length, Risk := e.Risk } : Fiber)).set (i).toNat ({ A := e2.A, B := w64 (k2 + 1), Length := e2.Length, Risk := e2.Risk } : Fiber)).set (i).toNat ({ A := e3.A, B := e3.B, Length := w64 ((w64 (k2 + 1)) + 1), Risk := e3.Risk } : Fiber)).length c)), (1, (.int .i64 (w64 ((w64 ((w64 (k2 + 1)) + 1)) + 1)))), (5, (.int .i64 i)), (24, (.int .i64 (w64 (k2 + 1)))), (25, (.int .i64 (w64 ((w64 (k2 + 1)) + 1)))), (26, (.slice A (((a2.set (i).toNat ({ A := k2, B := e.B, Length := e.Length, Risk := e.Risk } : Fiber)).set (i).toNat ({ A := e2.A, B := w64 (k2 + 1), Length := e2.Length, Risk := e2.Risk } : Fiber)).set (i).toNat ({ A := e3.A, B := e3.B, Length := w64 ((w64 (k2 + 1)) + 1), Risk := e3.Risk } : Fiber)).length c)), (27, (.int .i64 i)), (28, (.int .i64 (w64 ((w64 (k2 + 1)) + 1)))), (29, (.pointer (some ⟨p3, o3 + 0, none⟩))), (30, (.pointer (some ⟨p3, o3 + 2, none⟩))), (31, (.int .i64 (w64 ((w64 (k2 + 1)) + 1)))), (32, (.int .i64 (w64 ((w64 ((w64 (k2 + 1)) + 1)) + 1)))), (33, (.slice A (((a2.set (i).toNat ({ A := k2, B := e.B, Length := e.Length, Risk := e.Risk } : Fiber)).set (i).toNat ({ A := e2.A, B := w64 (k2 + 1), Length := e2.Length, Risk := e2.Risk } : Fiber)).set (i).toNat ({ A := e3.A, B := e3.B, Length := w64 ((w64 (k2 + 1)) + 1), Risk := e3.Risk } : Fiber)).length c)), (34, (.int .i64 i)), (35, (.int .i64 (w64 ((w64 ((w64 (k2 + 1)) + 1)) + 1)))), (36, (.pointer (some ⟨p4, o4 + 0, none⟩))), (37, (.pointer (some ⟨p4, o4 + 3, none⟩)))] := hf.prune [0, 1, 5, 24, 25, 26, 27, 28, 29, 30, 31, 32, 33, 34, 35, 36, 37] rfl
   replace hf : Fr a 41 [(0, (.slice A ((((a2.set (i).toNat ({ A := k2, B := e.B, Length := e.Length, Risk := e.Risk } : Fiber)).set (i).toNat ({ A := e2.A, B := w64 (k2 + 1), Length := e2.Length, Risk := e2.Risk } : Fiber)).set (i).toNat ({ A := e3.A, B := e3.B, Length := w64 ((w64 (k2 + 1)) + 1), Risk := e3.Risk } : Fiber)).set (i).toNat ({ A := e4.A, B := e4.B, Length := e4.Length, Risk := w64 ((w64 ((w64 (k2 + 1)) + 1)) + 1) } : Fiber)).length c)), (1, (.int .i64 (w64 ((w64 ((w64 (k2 + 1)) + 1)) + 1)))), (5, (.int .i64 i)), (24, (.int .i64 (w64 (k2 + 1)))), (25, (.int .i64 (w64 ((w64 (k2 + 1)) + 1)))), (26, (.slice A ((((a2.set (i).toNat ({ A := k2, B := e.B, Length := e.Length, Risk := e.Risk } : Fiber)).set (i).toNat ({ A := e2.A, B := w64 (k2 + 1), Length := e2.Length, Risk := e2.Risk } : Fiber)).set (i).toNat ({ A := e3.A, B := e3.B, Length := w64 ((w64 (k2 + 1)) + 1), Risk := e3.Risk } : Fiber)).set (i).toNat ({ A := e4.A, B := e4.B, Length := e4.Length, Risk := w64 ((w64 ((w64 (k2 + 1)) + 1)) + 1) } : Fiber)).length c)), (27, (.int .i64 i)), (28, (.int .i64 (w64 ((w64 (k2 + 1)) + 1)))), (29, (.pointer (some ⟨p3, o3 + 0, none⟩))), (30, (.pointer (some ⟨p3, o3 + 2, none⟩))), (31, (.int .i64 (w64 ((w64 (k2 + 1)) + 1)))), (32, (.int .i64 (w64 ((w64 ((w64 (k2 + 1)) + 1)) + 1)))), (33, (.slice A ((((a2.set (i).toNat ({ A := k2, B := e.B, Length := e.Length, Risk := e.Risk } : Fiber)).set (i).toNat ({ A := e2.A, B := w64 (k2 + 1), Length := e2.Length, Risk := e2.Risk } : Fiber)).set (i).toNat ({ A := e3.A, B := e3.B, Length := w64 ((w64 (k2 + 1)) + 1), Risk := e3.Risk } : Fiber)).set (i).toNat ({ A := e4.A, B := e4.B, Length := e4.Length, Risk := w64 ((w64 ((w64 (k2 + 1)) + 1)) + 1) } : Fiber)).length c)), (34, (.int .i64 i)), (35, (.int .i64 (w64 ((w64 ((w64 (k2 + 1)) + 1)) + 1)))), (36, (.pointer (some ⟨p4, o4 + 0, none⟩))), (37, (.pointer (some ⟨p4, o4 + 3, none⟩)))] := by simpa only [List.length_set, Nat.add_zero] using hf
   have hf := hf.prune [0, 1, 5] rfl
   refine wl_end (then_n (reg (pr 3 hf rfl rfl fun a hf => ?_)))
   refine wl_end (blk_n (then_n (reg (pr 3 hf rfl rfl fun a hf => ?_))))
   refine wl_end ?_
   have hf := hf.prune [0, 1, 5] rfl
   have hf : Fr a 41 [(0, (.slice A a'.length c)), (1, (.int .i64 (w64 ((w64 ((w64 ((w64 (k2 + 1)) + 1)) + 1)) + 1)))), (5, (.int .i64 (w64 (i + 1))))] := by first | exact hf | (simp only [List.length_set, hlen] at hf; exact hf)
   have H := H.let [] [true] [] [] rfl rfl rfl rfl
   exact then_n ⟨((((a2.set (i).toNat ({ A := k2, B := e.B, Length := e.Length, Risk := e.Risk } : Fiber)).set (i).toNat ({ A := e2.A, B := w64 (k2 + 1), Length := e2.Length, Risk := e2.Risk } : Fiber)).set (i).toNat ({ A := e3.A, B := e3.B, Length := w64 ((w64 (k2 + 1)) + 1), Risk := e3.Risk } : Fiber)).set (i).toNat ({ A := e4.A, B := e4.B, Length := e4.Length, Risk := w64 ((w64 ((w64 (k2 + 1)) + 1)) + 1) } : Fiber), w64 ((w64 ((w64 ((w64 (k2 + 1)) + 1)) + 1)) + 1), w64 (i + 1)), hR1, (by simp only [List.length_set, hlen]), hf, H⟩
  ·refine wp_exit (then_x (then_x (blk_e (?_))))
   have hf := hf.prune [0, 1, 5] rfl
   have hf : Fr a 41 [(0, (.slice A a'.length c)), (1, (.int .i64 k2)), (5, (.int .i64 i))] := by first | exact hf | (simp only [List.length_set, hlen] at hf; exact hf)
   have H := H.let [] [true] [] [] rfl rfl rfl rfl
   exact ⟨(a2, k2, i), (Option.some.inj hR1).symm, (by simp only [List.length_set, hlen]), hf, H⟩
 rintro a w ⟨⟨a3, k3, i2⟩, rfl, hlen, hf, H⟩
 try dsimp only at hlen
 have hf : Fr a 41 [(0, (.slice A a3.length c)), (1, (.int .i64 k3)), (5, (.int .i64 i2))] := by rw [hlen]; exact hf
 dsimp only at hF
 refine then_n (sq (reg (pr 2 hf rfl rfl fun a hf => ?_)))
 refine wl_end (then_n (wp_ret (?_)))
 have H := H.rowOwn 0 rfl rfl
 obtain ⟨F', H⟩ := H.freezeOwn 0 rfl
 rw [hlen] at H
 obtain rfl := Option.some.inj hF
 refine ret_1 (fn := Tryz.f146) (r := .tmp 4) hf rfl (rv_tmp hf rfl) ?_
 exact ⟨_, rfl, H.chg, mk_int, _, H.ownAt 0 rfl, H.back⟩

/- loop.example/g00897/laws.markNetwork -/
set_option maxHeartbeats 1000000 in
theorem laws_markNetwork_ok {fu : Nat} {w0 : World} {S : Nat → Prop} {F : List Nat} {cs : List Value} {v1_ : Value} {a' : Network} {k' : Int} {r : Int × Network} (hO : GoTy.own w0 F cs a') (hn : F.Nodup) (h1 : VR w0 S v1_ k') (hF : laws_markNetwork fu a' k' = some r) :
    Calls Tryz.prog 79 [(bif GoTy.agg (Network) then .agg cs.toArray else cs.headD undef), v1_].toArray w0 fun e w' => ∃ v, e = .returned v ∧ (Chg w0 w' F ∧ VR w' (fun _ => True) v r.1 ∧ ∃ F', GoTy.own w' F' cs r.2 ∧ Back w0 w' F F') := by
 obtain rfl := VR_int h1
 obtain ⟨A1, c1, F1, A2, c2, F2, rfl, hFe, l1, l2⟩ := Network_own hO
 have H := Mem.startG S hO hn
 have H := H.recast (X := [(⟨F, MP.own F [(.slice A1 a'.Nodes.length c1), (.slice A2 a'.Fibers.length c2)] (a' : Network)⟩ : DI)]) (Y := [(⟨F1, MP.own F1 [(.slice A1 a'.Nodes.length c1)] (a'.Nodes : List ByteArray)⟩ : DI), (⟨F2, MP.own F2 [(.slice A2 a'.Fibers.length c2)] (a'.Fibers : List Fiber)⟩ : DI)]) (D := []) (List.Perm.of_eq (by simp [hFe])) fun _ => (ps1 l1 (ps1 l2 ps0))
 have H := H.lend 0 rfl
 have H := H.lend 1 rfl
 refine enter Tryz.func79 rfl rfl (nle rfl) rfl fun a hf => ?_
 rw [laws_markNetwork] at hF
 refine sq (reg (wl0 rfl (op_box hf H rfl rfl (by decide) fun b' a w hf H => ?_)))
 refine pr 1 hf rfl rfl fun a hf => ?_
 refine wl_end (then_n (sq (reg (pr 1 hf rfl rfl fun a hf => ?_))))
 refine wl0 rfl (op_q hf (rq_loadB hf H TF.ls22 0 rfl rfl rfl) rfl (by decide) fun a hf => ?_)
 refine pr 1 hf rfl rfl fun a hf => ?_
 obtain ⟨y, hy, hF⟩ := bind_some hF
 refine wl0 rfl (op_call hf TF.cl145 rfl (by decide) (laws_markStringS_ok (S := fun _ => True) (F := F1) (cs := [(.slice A1 a'.Nodes.length c1)]) (H.ownAt 0 rfl) H.diNd.1 mk_int hy) fun v w a hp hf => ?_)
 obtain ⟨hch, hv, F4, ho, hbk⟩ := hp
 obtain rfl := VR_int hv
 have H := H.wrote rfl hch ho hbk
 have H := H.lend 0 rfl
 have H := H.lend 1 rfl
 refine pr 1 hf rfl rfl fun a hf => ?_
 refine wl_end (then_n (sq (reg (pr 1 hf rfl rfl fun a hf => ?_))))
 refine wl0 rfl (op_q hf (rq_loadB hf H TF.ls32 0 rfl rfl rfl) rfl (by decide) fun a hf => ?_)
 refine pr 1 hf rfl rfl fun a hf => ?_
 have H := H.frontD 1 rfl
 obtain ⟨y2, hy2, hF⟩ := bind_some hF
 refine wl0 rfl (op_call hf TF.cl146 rfl (by decide) (laws_markFiberS_ok (S := fun _ => True) (F := F2) (cs := [(.slice A2 a'.Fibers.length c2)]) (H.ownAt 0 rfl) H.diNd.1 mk_int hy2) fun v2 w a hp2 hf => ?_)
 obtain ⟨hch2, hv2, F5, ho2, hbk2⟩ := hp2
 obtain rfl := VR_int hv2
 have H := H.wrote rfl hch2 ho2 hbk2
 have H := H.lend 0 rfl
 have H := H.lend 1 rfl
 refine pr 1 hf rfl rfl fun a hf => ?_
 refine wl_end (then_n (sq (reg (pr 2 hf rfl rfl fun a hf => ?_))))
 refine wl_end (then_n (wp_ret (?_)))
 have H := H.frontD 1 rfl
 have H := H.recast (X := [(⟨F4, MP.own F4 [(.slice A1 a'.Nodes.length c1)] (y.2 : List ByteArray)⟩ : DI), (⟨F5, MP.own F5 [(.slice A2 a'.Fibers.length c2)] (y2.2 : List Fiber)⟩ : DI)]) (Y := [(⟨(F4 ++ F5), MP.own (F4 ++ F5) [(.slice A1 a'.Nodes.length c1), (.slice A2 a'.Fibers.length c2)] (({ Nodes := y.2, Fibers := y2.2 } : Network) : Network)⟩ : DI)]) (List.Perm.of_eq (by simp)) fun _ => ps1 (Network_ownmk (x := ({ Nodes := y.2, Fibers := y2.2 } : Network)) (H.ownAt 0 rfl) (H.ownAt 1 rfl)) ps0
 obtain rfl := Option.some.inj hF
 refine ret_1 (fn := Tryz.f79) (r := .tmp 4) hf rfl (rv_tmp hf rfl) ?_
 exact ⟨_, rfl, H.chg, mk_int, _, H.ownAt 0 rfl, H.back⟩

/- loop.example/g00897/laws.markIntS -/
set_option maxHeartbeats 1000000 in
theorem laws_markIntS_ok {fu : Nat} {w0 : World} {S : Nat → Prop} {F : List Nat} {cs : List Value} {v1_ : Value} {a' : List Int} {k' : Int} {r : Int × List Int} (hO : GoTy.own w0 F cs a') (hn : F.Nodup) (h1 : VR w0 S v1_ k') (hF : laws_markIntS fu a' k' = some r) :
    Calls Tryz.prog 26 [(bif GoTy.agg (List Int) then .agg cs.toArray else cs.headD undef), v1_].toArray w0 fun e w' => ∃ v, e = .returned v ∧ (Chg w0 w' F ∧ VR w' (fun _ => True) v r.1 ∧ ∃ F', GoTy.own w' F' cs r.2 ∧ Back w0 w' F F') := by
 obtain rfl := VR_int h1
 obtain ⟨A, c, rfl, hO⟩ := own_list hO
 have H := Mem.startG S hO hn
 obtain ⟨Fs, E, H, -⟩ := H.thaw rfl
 have H := H.rowSh 0 rfl
 refine enter Tryz.func26 rfl rfl (nle rfl) rfl fun a hf => ?_
 rw [laws_markIntS] at hF
 refine sq (reg (pr 1 hf rfl rfl fun a hf => ?_))
 refine wl_end (then_n (sq (sq (reg (pr 1 hf rfl rfl fun a hf => ?_)))))
 refine wl_end (then_n ?_)
 obtain ⟨out', hB1, hF⟩ := bind_some hF
 have hf := hf.prune [0, 1, 5] rfl
 have hf : Fr a 19 [(0, (.slice A a'.length c)), (1, (.int .i64 k')), (5, (.int .i64 0))] := by first | exact hf | (simp only [List.length_set] at hf; exact hf)
 have H := H.let [] [true] [] [] rfl rfl rfl rfl
 refine loopC (fun (s : List Int × Int × Int) (a : Act) (w : World) => match s with | (a2, k2, i) => a2.length = a'.length ∧ Fr a 19 [(0, (.slice A a'.length c)), (1, (.int .i64 k2)), (5, (.int .i64 i))] ∧ Mem ⟨w0, F⟩ S [] [⟨.sh true, E, A, c, (a2 : List Int)⟩] [] [] w) (fun k (s : List Int × Int × Int) => laws_markIntS_L1 fu k s.1 s.2.1 s.2.2 = some out') (fun s => out' = s) (a', k', 0) fu hB1 ⟨rfl, hf, H⟩ (fun s h => by cases h) ?_ ?_
 ·rintro fk ⟨a2, k2, i⟩ a w hR1 hI
  replace hR1 : laws_markIntS_L1 fu (fk + 1) a2 k2 i = some out' := hR1
  rw [laws_markIntS_L1] at hR1
  obtain ⟨hlen, hf, H⟩ := hI
  have hf : Fr a 19 [(0, (.slice A a2.length c)), (1, (.int .i64 k2)), (5, (.int .i64 i))] := by rw [hlen]; exact hf
  refine sq (sq (reg (pr 4 hf rfl rfl fun a hf => ?_)))
  refine wl_end (then_n (iteB hR1 (fun hc hR1 => cd_t hf rfl hc ?_) fun hc hR1 => cd_f hf rfl hc ?_))
  ·refine wp_skip (then_n (sq (wp_block (sq (reg (pr 3 hf rfl rfl fun a hf => ?_))))))
   obtain ⟨e, he, hR1⟩ := bind_some hR1
   refine wl0 rfl (op_iaddrR hf H Tryz.underlying44 TF.sz3 0 rfl rfl rfl he (by decide) fun p o cs a hf hA hr hk => ?_)
   obtain rfl := hr
   refine wl0 rfl (op_storeR (e' := k2) (o := o) (off := 0) hf H TF.sz3 0 rfl rfl rfl rfl rfl (nle rfl) rfl hA he (st_full rfl) fun w H => ?_)
   replace hf : Fr a 19 [(0, (.slice A a2.length c)), (1, (.int .i64 k2)), (5, (.int .i64 i)), (6, (.int .i64 i)), (7, (.slice A a2.length c)), (8, (.int .i64 (a2.length : Int))), (9, (.bool (decide (i < (a2.length : Int))))), (12, (.slice A a2.length c)), (13, (.int .i64 i)), (14, (.int .i64 k2)), (15, (.pointer (some ⟨p, o + 0, none⟩)))] := hf.prune [0, 1, 5, 6, 7, 8, 9, 12, 13, 14, 15] rfl
   replace hf : Fr a 19 [(0, (.slice A (a2.set (i).toNat k2).length c)), (1, (.int .i64 k2)), (5, (.int .i64 i)), (6, (.int .i64 i)), (7, (.slice A (a2.set (i).toNat k2).length c)), (8, (.int .i64 (a2.length : Int))), (9, (.bool (decide (i < (a2.length : Int))))), (12, (.slice A (a2.set (i).toNat k2).length c)), (13, (.int .i64 i)), (14, (.int .i64 k2)), (15, (.pointer (some ⟨p, o + 0, none⟩)))] := by simpa only [List.length_set, Nat.add_zero] using hf
   refine wl_end (then_n (reg (pr 3 hf rfl rfl fun a hf => ?_)))
   refine wl_end (blk_n (then_n (reg (pr 3 hf rfl rfl fun a hf => ?_))))
   refine wl_end ?_
   have hf := hf.prune [0, 1, 5] rfl
   have hf : Fr a 19 [(0, (.slice A a'.length c)), (1, (.int .i64 (w64 (k2 + 1)))), (5, (.int .i64 (w64 (i + 1))))] := by first | exact hf | (simp only [List.length_set, hlen] at hf; exact hf)
   have H := H.let [] [true] [] [] rfl rfl rfl rfl
   exact then_n ⟨(a2.set (i).toNat k2, w64 (k2 + 1), w64 (i + 1)), hR1, (by simp only [List.length_set, hlen]), hf, H⟩
  ·refine wp_exit (then_x (then_x (blk_e (?_))))
   have hf := hf.prune [0, 1, 5] rfl
   have hf : Fr a 19 [(0, (.slice A a'.length c)), (1, (.int .i64 k2)), (5, (.int .i64 i))] := by first | exact hf | (simp only [List.length_set, hlen] at hf; exact hf)
   have H := H.let [] [true] [] [] rfl rfl rfl rfl
   exact ⟨(a2, k2, i), (Option.some.inj hR1).symm, (by simp only [List.length_set, hlen]), hf, H⟩
 rintro a w ⟨⟨a3, k3, i2⟩, rfl, hlen, hf, H⟩
 try dsimp only at hlen
 have hf : Fr a 19 [(0, (.slice A a3.length c)), (1, (.int .i64 k3)), (5, (.int .i64 i2))] := by rw [hlen]; exact hf
 dsimp only at hF
 refine then_n (sq (reg (pr 2 hf rfl rfl fun a hf => ?_)))
 refine wl_end (then_n (wp_ret (?_)))
 have H := H.rowOwn 0 rfl rfl
 obtain ⟨F', H⟩ := H.freezeOwn 0 rfl
 rw [hlen] at H
 obtain rfl := Option.some.inj hF
 refine ret_1 (fn := Tryz.f26) (r := .tmp 4) hf rfl (rv_tmp hf rfl) ?_
 exact ⟨_, rfl, H.chg, mk_int, _, H.ownAt 0 rfl, H.back⟩

/- loop.example/g00897/laws.markLightS -/
set_option maxHeartbeats 1000000 in
theorem laws_markLightS_ok {fu : Nat} {w0 : World} {S : Nat → Prop} {F : List Nat} {cs : List Value} {v1_ : Value} {a' : List Light} {k' : Int} {r : Int × List Light} (hO : GoTy.own w0 F cs a') (hn : F.Nodup) (h1 : VR w0 S v1_ k') (hF : laws_markLightS fu a' k' = some r) :
    Calls Tryz.prog 80 [(bif GoTy.agg (List Light) then .agg cs.toArray else cs.headD undef), v1_].toArray w0 fun e w' => ∃ v, e = .returned v ∧ (Chg w0 w' F ∧ VR w' (fun _ => True) v r.1 ∧ ∃ F', GoTy.own w' F' cs r.2 ∧ Back w0 w' F F') := by
 obtain rfl := VR_int h1
 obtain ⟨A, c, rfl, hO⟩ := own_list hO
 have H := Mem.startG S hO hn
 obtain ⟨Fs, E, H, -⟩ := H.thaw rfl
 refine enter Tryz.func80 rfl rfl (nle rfl) rfl fun a hf => ?_
 rw [laws_markLightS] at hF
 refine sq (reg (pr 1 hf rfl rfl fun a hf => ?_))
 refine wl_end (then_n (sq (sq (reg (pr 1 hf rfl rfl fun a hf => ?_)))))
 refine wl_end (then_n ?_)
 obtain ⟨out', hB1, hF⟩ := bind_some hF
 have hf := hf.prune [0, 1, 5] rfl
 have hf : Fr a 52 [(0, (.slice A a'.length c)), (1, (.int .i64 k')), (5, (.int .i64 0))] := by first | exact hf | (simp only [List.length_set] at hf; exact hf)
 have H := H.let [] [true] [] [] rfl rfl rfl rfl
 refine loopC (fun (s : List Light × Int × Int) (a : Act) (w : World) => match s with | (a2, k2, i) => ∃ (Fs2 : List (List Nat)), a2.length = a'.length ∧ Fr a 52 [(0, (.slice A a'.length c)), (1, (.int .i64 k2)), (5, (.int .i64 i))] ∧ Mem ⟨w0, F⟩ S [] [⟨.ow Fs2, E, A, c, (a2 : List Light)⟩] [] [] w) (fun k (s : List Light × Int × Int) => laws_markLightS_L1 fu k s.1 s.2.1 s.2.2 = some out') (fun s => out' = s) (a', k', 0) fu hB1 ⟨Fs, rfl, hf, H⟩ (fun s h => by cases h) ?_ ?_
 ·rintro fk ⟨a2, k2, i⟩ a w hR1 hI
  replace hR1 : laws_markLightS_L1 fu (fk + 1) a2 k2 i = some out' := hR1
  rw [laws_markLightS_L1] at hR1
  obtain ⟨Fs2, hlen, hf, H⟩ := hI
  have hf : Fr a 52 [(0, (.slice A a2.length c)), (1, (.int .i64 k2)), (5, (.int .i64 i))] := by rw [hlen]; exact hf
  refine sq (sq (reg (pr 4 hf rfl rfl fun a hf => ?_)))
  refine wl_end (then_n (iteB hR1 (fun hc hR1 => cd_t hf rfl hc ?_) fun hc hR1 => cd_f hf rfl hc ?_))
  ·refine wp_skip (then_n (sq (wp_block (sq (reg (pr 3 hf rfl rfl fun a hf => ?_))))))
   obtain ⟨e, he, hR1⟩ := bind_some hR1
   refine wl0 rfl (op_iaddrR hf H Tryz.underlying35 TF.sz112 0 rfl rfl rfl he (by decide) fun p o cs a hf hA hr hk => ?_)
   have hrk := hr
   obtain ⟨A2, c2, rfl, hl⟩ := Light_cells hr
   have H := H.push (true, MP.val [(.slice A2 e.Route.Fibers.length c2)] e.Route.Fibers) hl
   refine pr 1 hf rfl rfl fun a hf => ?_
   refine wl0 rfl (op_storeR (e' := ({ Id := k2, Route := e.Route, Block := e.Block } : Light)) (o := o) (off := 0) hf H TF.sz3 0 rfl rfl rfl rfl rfl (nle rfl) rfl hA he (st_own fun F cs h => by obtain ⟨A0, c0, F0, rfl, rfl, l0⟩ := Light_own h; exact Light_ownmk (x := ({ Id := k2, Route := e.Route, Block := e.Block } : Light)) l0) fun w H => ?_)
   replace hf : Fr a 52 [(0, (.slice A a2.length c)), (1, (.int .i64 k2)), (5, (.int .i64 i)), (6, (.int .i64 i)), (7, (.slice A a2.length c)), (8, (.int .i64 (a2.length : Int))), (9, (.bool (decide (i < (a2.length : Int))))), (12, (.slice A a2.length c)), (13, (.int .i64 i)), (14, (.int .i64 k2)), (15, (.pointer (some ⟨p, o + 0, none⟩))), (16, (.pointer (some ⟨p, o + 0, none⟩)))] := hf.prune [0, 1, 5, 6, 7, 8, 9, 12, 13, 14, 15, 16] rfl
   replace hf : Fr a 52 [(0, (.slice A (a2.set (i).toNat ({ Id := k2, Route := e.Route, Block := e.Block } : Light)).length c)), (1, (.int .i64 k2)), (5, (.int .i64 i)), (6, (.int .i64 i)), (7, (.slice A (a2.set (i).toNat ({ Id := k2, Route := e.Route, Block := e.Block } : Light)).length c)), (8, (.int .i64 (a2.length : Int))), (9, (.bool (decide (i < (a2.length : Int))))), (12, (.slice A (a2.set (i).toNat ({ Id := k2, Route := e.Route, Block := e.Block } : Light)).length c)), (13, (.int .i64 i)), (14, (.int .i64 k2)), (15, (.pointer (some ⟨p, o + 0, none⟩))), (16, (.pointer (some ⟨p, o + 0, none⟩)))] := by simpa only [List.length_set, Nat.add_zero] using hf
   refine wl_end (then_n (sq (reg (pr 3 hf rfl rfl fun a hf => ?_))))
   refine wl_end (then_n (sq (reg (pr 3 hf rfl rfl fun a hf => ?_))))
   obtain ⟨e2, he2, hR1⟩ := bind_some hR1
   refine wl0 rfl (op_iaddrR hf H Tryz.underlying35 TF.sz112 0 rfl rfl rfl he2 (by decide) fun p2 o2 cs2 a hf hA2 hr2 hk2 => ?_)
   have hrk2 := hr2
   obtain ⟨A3, c3, rfl, hl2⟩ := Light_cells hr2
   have H := H.push (true, MP.val [(.slice A3 e2.Route.Fibers.length c3)] e2.Route.Fibers) hl2
   refine pr 2 hf rfl rfl fun a hf => ?_
   refine wl0 rfl (op_storeR (e' := ({ Id := e2.Id, Route := ({ Start := w64 (k2 + 1), Fibers := e2.Route.Fibers } : Route), Block := e2.Block } : Light)) (o := o2) (off := 1) hf H TF.sz3 0 rfl rfl rfl rfl rfl (nle rfl) rfl hA2 he2 (st_own fun F cs h => by obtain ⟨A0, c0, F0, rfl, rfl, l0⟩ := Light_own h; exact Light_ownmk (x := ({ Id := e2.Id, Route := ({ Start := w64 (k2 + 1), Fibers := e2.Route.Fibers } : Route), Block := e2.Block } : Light)) l0) fun w H => ?_)
   replace hf : Fr a 52 [(0, (.slice A (a2.set (i).toNat ({ Id := k2, Route := e.Route, Block := e.Block } : Light)).length c)), (1, (.int .i64 (w64 (k2 + 1)))), (5, (.int .i64 i)), (6, (.int .i64 i)), (7, (.slice A (a2.set (i).toNat ({ Id := k2, Route := e.Route, Block := e.Block } : Light)).length c)), (8, (.int .i64 (a2.length : Int))), (9, (.bool (decide (i < (a2.length : Int))))), (12, (.slice A (a2.set (i).toNat ({ Id := k2, Route := e.Route, Block := e.Block } : Light)).length c)), (13, (.int .i64 i)), (14, (.int .i64 k2)), (15, (.pointer (some ⟨p, o + 0, none⟩))), (16, (.pointer (some ⟨p, o + 0, none⟩))), (17, (.int .i64 k2)), (18, (.int .i64 (w64 (k2 + 1)))), (19, (.slice A (a2.set (i).toNat ({ Id := k2, Route := e.Route, Block := e.Block } : Light)).length c)), (20, (.int .i64 i)), (21, (.int .i64 (w64 (k2 + 1)))), (22, (.pointer (some ⟨p2, o2 + 0, none⟩))), (23, (.pointer (some ⟨p2, o2 + 1, none⟩))), (24, (.pointer (some ⟨p2, o2 + 1, none⟩)))] := hf.prune [0, 1, 5, 6, 7, 8, 9, 12, 13, 14, 15, 16, 17, 18, 19, 20, 21, 22, 23, 24] rfl
   replace hf : Fr a 52 [(0, (.slice A ((a2.set (i).toNat ({ Id := k2, Route := e.Route, Block := e.Block } : Light)).set (i).toNat ({ Id := e2.Id, Route := ({ Start := w64 (k2 + 1), Fibers := e2.Route.Fibers } : Route), Block := e2.Block } : Light)).length c)), (1, (.int .i64 (w64 (k2 + 1)))), (5, (.int .i64 i)), (6, (.int .i64 i)), (7, (.slice A ((a2.set (i).toNat ({ Id := k2, Route := e.Route, Block := e.Block } : Light)).set (i).toNat ({ Id := e2.Id, Route := ({ Start := w64 (k2 + 1), Fibers := e2.Route.Fibers } : Route), Block := e2.Block } : Light)).length c)), (8, (.int .i64 (a2.length : Int))), (9, (.bool (decide (i < (a2.length : Int))))), (12, (.slice A ((a2.set (i).toNat ({ Id := k2, Route := e.Route, Block := e.Block } : Light)).set (i).toNat ({ Id := e2.Id, Route := ({ Start := w64 (k2 + 1), Fibers := e2.Route.Fibers } : Route), Block := e2.Block } : Light)).length c)), (13, (.int .i64 i)), (14, (.int .i64 k2)), (15, (.pointer (some ⟨p, o + 0, none⟩))), (16, (.pointer (some ⟨p, o + 0, none⟩))), (17, (.int .i64 k2)), (18, (.int .i64 (w64 (k2 + 1)))), (19, (.slice A ((a2.set (i).toNat ({ Id := k2, Route := e.Route, Block := e.Block } : Light)).set (i).toNat ({ Id := e2.Id, Route := ({ Start := w64 (k2 + 1), Fibers := e2.Route.Fibers } : Route), Block := e2.Block } : Light)).length c)), (20, (.int .i64 i)), (21, (.int .i64 (w64 (k2 + 1)))), (22, (.pointer (some ⟨p2, o2 + 0, none⟩))), (23, (.pointer (some ⟨p2, o2 + 1, none⟩))), (24, (.pointer (some ⟨p2, o2 + 1, none⟩)))] := by simpa only [List.length_set, Nat.add_zero] using hf
   have hf := hf.prune [0, 1, 5] rfl
   refine wl_end (then_n (sq (reg (pr 3 hf rfl rfl fun a hf => ?_))))
   refine wl_end (then_n (sq (reg (pr 2 hf rfl rfl fun a hf => ?_))))
   obtain ⟨e3, he3, hR1⟩ := bind_some hR1
   refine wl0 rfl (op_iaddrR hf H Tryz.underlying35 TF.sz112 0 rfl rfl rfl he3 (by decide) fun p3 o3 cs3 a hf hA3 hr3 hk3 => ?_)
   have hrk3 := hr3
   obtain ⟨A4, c4, rfl, hl3⟩ := Light_cells hr3
   have H := H.push (true, MP.val [(.slice A4 e3.Route.Fibers.length c4)] e3.Route.Fibers) hl3
   refine pr 2 hf rfl rfl fun a hf => ?_
   refine wl0 rfl (op_q hf (rq_load1 hf TF.ls44 rfl (hk3 2 _ rfl)) rfl (by decide) fun a hf => ?_)
   refine pr 1 hf rfl rfl fun a hf => ?_
   obtain ⟨y, hy, hR1⟩ := bind_some hR1
   obtain ⟨F2, hO, hNd, hnx⟩ := H.mutEl rfl he3 hA3 hrk3 hk3 Light_lens_Route_Fibers rfl
   refine wl0 rfl (op_call hf TF.cl26 rfl (by decide) (laws_markIntS_ok (S := fun _ => True) (cs := [(.slice A4 e3.Route.Fibers.length c4)]) hO hNd mk_int hy) fun v w a hp hf => ?_)
   obtain ⟨hch, hv, F3, ho, hbk⟩ := hp
   obtain rfl := VR_int hv
   obtain ⟨Fs3, H⟩ := hnx _ _ _ hch ho hbk
   replace hf : Fr a 52 [(0, (.slice A ((a2.set (i).toNat ({ Id := k2, Route := e.Route, Block := e.Block } : Light)).set (i).toNat ({ Id := e2.Id, Route := ({ Start := w64 (k2 + 1), Fibers := e2.Route.Fibers } : Route), Block := e2.Block } : Light)).length c)), (1, (.int .i64 (w64 ((w64 (k2 + 1)) + 1)))), (5, (.int .i64 i)), (25, (.int .i64 (w64 (k2 + 1)))), (26, (.int .i64 (w64 ((w64 (k2 + 1)) + 1)))), (27, (.slice A ((a2.set (i).toNat ({ Id := k2, Route := e.Route, Block := e.Block } : Light)).set (i).toNat ({ Id := e2.Id, Route := ({ Start := w64 (k2 + 1), Fibers := e2.Route.Fibers } : Route), Block := e2.Block } : Light)).length c)), (28, (.int .i64 i)), (29, (.pointer (some ⟨p3, o3 + 0, none⟩))), (30, (.pointer (some ⟨p3, o3 + 1, none⟩))), (31, (.pointer (some ⟨p3, o3 + 2, none⟩))), (32, (.slice A4 e3.Route.Fibers.length c4)), (33, (.int .i64 (w64 ((w64 (k2 + 1)) + 1)))), (34, (.int .i64 y.1))] := hf.prune [0, 1, 5, 25, 26, 27, 28, 29, 30, 31, 32, 33, 34] rfl
   replace hf : Fr a 52 [(0, (.slice A (((a2.set (i).toNat ({ Id := k2, Route := e.Route, Block := e.Block } : Light)).set (i).toNat ({ Id := e2.Id, Route := ({ Start := w64 (k2 + 1), Fibers := e2.Route.Fibers } : Route), Block := e2.Block } : Light)).set (i).toNat ({ e3 with Route := { e3.Route with Fibers := y.2 } })).length c)), (1, (.int .i64 (w64 ((w64 (k2 + 1)) + 1)))), (5, (.int .i64 i)), (25, (.int .i64 (w64 (k2 + 1)))), (26, (.int .i64 (w64 ((w64 (k2 + 1)) + 1)))), (27, (.slice A (((a2.set (i).toNat ({ Id := k2, Route := e.Route, Block := e.Block } : Light)).set (i).toNat ({ Id := e2.Id, Route := ({ Start := w64 (k2 + 1), Fibers := e2.Route.Fibers } : Route), Block := e2.Block } : Light)).set (i).toNat ({ e3 with Route := { e3.Route with Fibers := y.2 } })).length c)), (28, (.int .i64 i)), (29, (.pointer (some ⟨p3, o3 + 0, none⟩))), (30, (.pointer (some ⟨p3, o3 + 1, none⟩))), (31, (.pointer (some ⟨p3, o3 + 2, none⟩))), (32, (.slice A4 e3.Route.Fibers.length c4)), (33, (.int .i64 (w64 ((w64 (k2 + 1)) + 1)))), (34, (.int .i64 y.1))] := by simpa only [List.length_set, Nat.add_zero] using hf
   refine pr 1 hf rfl rfl fun a hf => ?_
   refine wl_end (then_n (sq (reg (pr 3 hf rfl rfl fun a hf => ?_))))
   obtain ⟨e4, he4, hR1⟩ := bind_some hR1
   refine wl0 rfl (op_iaddrR hf H Tryz.underlying35 TF.sz112 0 rfl rfl rfl he4 (by decide) fun p4 o4 cs4 a hf hA4 hr4 hk4 => ?_)
   have hrk4 := hr4
   obtain ⟨A5, c5, rfl, hl4⟩ := Light_cells hr4
   have H := H.push (true, MP.val [(.slice A5 e4.Route.Fibers.length c5)] e4.Route.Fibers) hl4
   refine pr 2 hf rfl rfl fun a hf => ?_
   refine wl0 rfl (op_storeR (e' := ({ Id := e4.Id, Route := e4.Route, Block := ({ First := y.1, Count := e4.Block.Count } : Block) } : Light)) (o := o4) (off := 3) hf H TF.sz3 0 rfl rfl rfl rfl rfl (nle rfl) rfl hA4 he4 (st_own fun F cs h => by obtain ⟨A0, c0, F0, rfl, rfl, l0⟩ := Light_own h; exact Light_ownmk (x := ({ Id := e4.Id, Route := e4.Route, Block := ({ First := y.1, Count := e4.Block.Count } : Block) } : Light)) l0) fun w H => ?_)
   replace hf : Fr a 52 [(0, (.slice A (((a2.set (i).toNat ({ Id := k2, Route := e.Route, Block := e.Block } : Light)).set (i).toNat ({ Id := e2.Id, Route := ({ Start := w64 (k2 + 1), Fibers := e2.Route.Fibers } : Route), Block := e2.Block } : Light)).set (i).toNat ({ e3 with Route := { e3.Route with Fibers := y.2 } })).length c)), (1, (.int .i64 y.1)), (5, (.int .i64 i)), (25, (.int .i64 (w64 (k2 + 1)))), (26, (.int .i64 (w64 ((w64 (k2 + 1)) + 1)))), (27, (.slice A (((a2.set (i).toNat ({ Id := k2, Route := e.Route, Block := e.Block } : Light)).set (i).toNat ({ Id := e2.Id, Route := ({ Start := w64 (k2 + 1), Fibers := e2.Route.Fibers } : Route), Block := e2.Block } : Light)).set (i).toNat ({ e3 with Route := { e3.Route with Fibers := y.2 } })).length c)), (28, (.int .i64 i)), (29, (.pointer (some ⟨p3, o3 + 0, none⟩))), (30, (.pointer (some ⟨p3, o3 + 1, none⟩))), (31, (.pointer (some ⟨p3, o3 + 2, none⟩))), (32, (.slice A4 e3.Route.Fibers.length c4)), (33, (.int .i64 (w64 ((w64 (k2 + 1)) + 1)))), (34, (.int .i64 y.1)), (35, (.slice A (((a2.set (i).toNat ({ Id := k2, Route := e.Route, Block := e.Block } : Light)).set (i).toNat ({ Id := e2.Id, Route := ({ Start := w64 (k2 + 1), Fibers := e2.Route.Fibers } : Route), Block := e2.Block } : Light)).set (i).toNat ({ e3 with Route := { e3.Route with Fibers := y.2 } })).length c)), (36, (.int .i64 i)), (37, (.int .i64 y.1)), (38, (.pointer (some ⟨p4, o4 + 0, none⟩))), (39, (.pointer (some ⟨p4, o4 + 3, none⟩))), (40, (.pointer (some ⟨p4, o4 + 3, none⟩)))] := hf.prune [0, 1, 5, 25, 26, 27, 28, 29, 30, 31, 32, 33, 34, 35, 36, 37, 38, 39, 40] rfl
   replace hf : Fr a 52 [(0, (.slice A ((((a2.set (i).toNat ({ Id := k2, Route := e.Route, Block := e.Block } : Light)).set (i).toNat ({ Id := e2.Id, Route := ({ Start := w64 (k2 + 1), Fibers := e2.Route.Fibers } : Route), Block := e2.Block } : Light)).set (i).toNat ({ e3 with Route := { e3.Route with Fibers := y.2 } })).set (i).toNat ({ Id := e4.Id, Route := e4.Route, Block := ({ First := y.1, Count := e4.Block.Count } : Block) } : Light)).length c)), (1, (.int .i64 y.1)), (5, (.int .i64 i)), (25, (.int .i64 (w64 (k2 + 1)))), (26, (.int .i64 (w64 ((w64 (k2 + 1)) + 1)))), (27, (.slice A ((((a2.set (i).toNat ({ Id := k2, Route := e.Route, Block := e.Block } : Light)).set (i).toNat ({ Id := e2.Id, Route := ({ Start := w64 (k2 + 1), Fibers := e2.Route.Fibers } : Route), Block := e2.Block } : Light)).set (i).toNat ({ e3 with Route := { e3.Route with Fibers := y.2 } })).set (i).toNat ({ Id := e4.Id, Route := e4.Route, Block := ({ First := y.1, Count := e4.Block.Count } : Block) } : Light)).length c)), (28, (.int .i64 i)), (29, (.pointer (some ⟨p3, o3 + 0, none⟩))), (30, (.pointer (some ⟨p3, o3 + 1, none⟩))), (31, (.pointer (some ⟨p3, o3 + 2, none⟩))), (32, (.slice A4 e3.Route.Fibers.length c4)), (33, (.int .i64 (w64 ((w64 (k2 + 1)) + 1)))), (34, (.int .i64 y.1)), (35, (.slice A ((((a2.set (i).toNat ({ Id := k2, Route := e.Route, Block := e.Block } : Light)).set (i).toNat ({ Id := e2.Id, Route := ({ Start := w64 (k2 + 1), Fibers := e2.Route.Fibers } : Route), Block := e2.Block } : Light)).set (i).toNat ({ e3 with Route := { e3.Route with Fibers := y.2 } })).set (i).toNat ({ Id := e4.Id, Route := e4.Route, Block := ({ First := y.1, Count := e4.Block.Count } : Block) } : Light)).length c)), (36, (.int .i64 i)), (37, (.int .i64 y.1)), (38, (.pointer (some ⟨p4, o4 + 0, none⟩))), (39, (.pointer (some ⟨p4, o4 + 3, none⟩))), (40, (.pointer (some ⟨p4, o4 + 3, none⟩)))] := by simpa only [List.length_set, Nat.add_zero] using hf
   have hf := hf.prune [0, 1, 5] rfl
   refine wl_end (then_n (sq (reg (pr 3 hf rfl rfl fun a hf => ?_))))
   refine wl_end (then_n (sq (reg (pr 3 hf rfl rfl fun a hf => ?_))))
   obtain ⟨e5, he5, hR1⟩ := bind_some hR1
   refine wl0 rfl (op_iaddrR hf H Tryz.underlying35 TF.sz112 0 rfl rfl rfl he5 (by decide) fun p5 o5 cs5 a hf hA5 hr5 hk5 => ?_)
   have hrk5 := hr5
   obtain ⟨A6, c6, rfl, hl5⟩ := Light_cells hr5
   have H := H.push (true, MP.val [(.slice A6 e5.Route.Fibers.length c6)] e5.Route.Fibers) hl5
   refine pr 2 hf rfl rfl fun a hf => ?_
   refine wl0 rfl (op_storeR (e' := ({ Id := e5.Id, Route := e5.Route, Block := ({ First := e5.Block.First, Count := w64 (y.1 + 1) } : Block) } : Light)) (o := o5) (off := 4) hf H TF.sz3 0 rfl rfl rfl rfl rfl (nle rfl) rfl hA5 he5 (st_own fun F cs h => by obtain ⟨A0, c0, F0, rfl, rfl, l0⟩ := Light_own h; exact Light_ownmk (x := ({ Id := e5.Id, Route := e5.Route, Block := ({ First := e5.Block.First, Count := w64 (y.1 + 1) } : Block) } : Light)) l0) fun w H => ?_)
   replace hf : Fr a 52 [(0, (.slice A ((((a2.set (i).toNat ({ Id := k2, Route := e.Route, Block := e.Block } : Light)).set (i).toNat ({ Id := e2.Id, Route := ({ Start := w64 (k2 + 1), Fibers := e2.Route.Fibers } : Route), Block := e2.Block } : Light)).set (i).toNat ({ e3 with Route := { e3.Route with Fibers := y.2 } })).set (i).toNat ({ Id := e4.Id, Route := e4.Route, Block := ({ First := y.1, Count := e4.Block.Count } : Block) } : Light)).length c)), (1, (.int .i64 (w64 (y.1 + 1)))), (5, (.int .i64 i)), (41, (.int .i64 y.1)), (42, (.int .i64 (w64 (y.1 + 1)))), (43, (.slice A ((((a2.set (i).toNat ({ Id := k2, Route := e.Route, Block := e.Block } : Light)).set (i).toNat ({ Id := e2.Id, Route := ({ Start := w64 (k2 + 1), Fibers := e2.Route.Fibers } : Route), Block := e2.Block } : Light)).set (i).toNat ({ e3 with Route := { e3.Route with Fibers := y.2 } })).set (i).toNat ({ Id := e4.Id, Route := e4.Route, Block := ({ First := y.1, Count := e4.Block.Count } : Block) } : Light)).length c)), (44, (.int .i64 i)), (45, (.int .i64 (w64 (y.1 + 1)))), (46, (.pointer (some ⟨p5, o5 + 0, none⟩))), (47, (.pointer (some ⟨p5, o5 + 3, none⟩))), (48, (.pointer (some ⟨p5, o5 + 4, none⟩)))] := hf.prune [0, 1, 5, 41, 42, 43, 44, 45, 46, 47, 48] rfl
   replace hf : Fr a 52 [(0, (.slice A (((((a2.set (i).toNat ({ Id := k2, Route := e.Route, Block := e.Block } : Light)).set (i).toNat ({ Id := e2.Id, Route := ({ Start := w64 (k2 + 1), Fibers := e2.Route.Fibers } : Route), Block := e2.Block } : Light)).set (i).toNat ({ e3 with Route := { e3.Route with Fibers := y.2 } })).set (i).toNat ({ Id := e4.Id, Route := e4.Route, Block := ({ First := y.1, Count := e4.Block.Count } : Block) } : Light)).set (i).toNat ({ Id := e5.Id, Route := e5.Route, Block := ({ First := e5.Block.First, Count := w64 (y.1 + 1) } : Block) } : Light)).length c)), (1, (.int .i64 (w64 (y.1 + 1)))), (5, (.int .i64 i)), (41, (.int .i64 y.1)), (42, (.int .i64 (w64 (y.1 + 1)))), (43, (.slice A (((((a2.set (i).toNat ({ Id := k2, Route := e.Route, Block := e.Block } : Light)).set (i).toNat ({ Id := e2.Id, Route := ({ Start := w64 (k2 + 1), Fibers := e2.Route.Fibers } : Route), Block := e2.Block } : Light)).set (i).toNat ({ e3 with Route := { e3.Route with Fibers := y.2 } })).set (i).toNat ({ Id := e4.Id, Route := e4.Route, Block := ({ First := y.1, Count := e4.Block.Count } : Block) } : Light)).set (i).toNat ({ Id := e5.Id, Route := e5.Route, Block := ({ First := e5.Block.First, Count := w64 (y.1 + 1) } : Block) } : Light)).length c)), (44, (.int .i64 i)), (45, (.int .i64 (w64 (y.1 + 1)))), (46, (.pointer (some ⟨p5, o5 + 0, none⟩))), (47, (.pointer (some ⟨p5, o5 + 3, none⟩))), (48, (.pointer (some ⟨p5, o5 + 4, none⟩)))] := by simpa only [List.length_set, Nat.add_zero] using hf
   refine wl_end (then_n (reg (pr 3 hf rfl rfl fun a hf => ?_)))
   refine wl_end (blk_n (then_n (reg (pr 3 hf rfl rfl fun a hf => ?_))))
   refine wl_end ?_
   have hf := hf.prune [0, 1, 5] rfl
   have hf : Fr a 52 [(0, (.slice A a'.length c)), (1, (.int .i64 (w64 ((w64 (y.1 + 1)) + 1)))), (5, (.int .i64 (w64 (i + 1))))] := by first | exact hf | (simp only [List.length_set, hlen] at hf; exact hf)
   have H := H.let [] [true] [] [] rfl rfl rfl rfl
   exact then_n ⟨(((((a2.set (i).toNat ({ Id := k2, Route := e.Route, Block := e.Block } : Light)).set (i).toNat ({ Id := e2.Id, Route := ({ Start := w64 (k2 + 1), Fibers := e2.Route.Fibers } : Route), Block := e2.Block } : Light)).set (i).toNat ({ e3 with Route := { e3.Route with Fibers := y.2 } })).set (i).toNat ({ Id := e4.Id, Route := e4.Route, Block := ({ First := y.1, Count := e4.Block.Count } : Block) } : Light)).set (i).toNat ({ Id := e5.Id, Route := e5.Route, Block := ({ First := e5.Block.First, Count := w64 (y.1 + 1) } : Block) } : Light), w64 ((w64 (y.1 + 1)) + 1), w64 (i + 1)), hR1, Fs3, (by simp only [List.length_set, hlen]), hf, H⟩
  ·refine wp_exit (then_x (then_x (blk_e (?_))))
   have hf := hf.prune [0, 1, 5] rfl
   have hf : Fr a 52 [(0, (.slice A a'.length c)), (1, (.int .i64 k2)), (5, (.int .i64 i))] := by first | exact hf | (simp only [List.length_set, hlen] at hf; exact hf)
   have H := H.let [] [true] [] [] rfl rfl rfl rfl
   exact ⟨(a2, k2, i), (Option.some.inj hR1).symm, Fs2, (by simp only [List.length_set, hlen]), hf, H⟩
 rintro a w ⟨⟨a3, k3, i2⟩, rfl, Fs4, hlen, hf, H⟩
 try dsimp only at hlen
 have hf : Fr a 52 [(0, (.slice A a3.length c)), (1, (.int .i64 k3)), (5, (.int .i64 i2))] := by rw [hlen]; exact hf
 dsimp only at hF
 refine then_n (sq (reg (pr 2 hf rfl rfl fun a hf => ?_)))
 refine wl_end (then_n (wp_ret (?_)))
 obtain ⟨F', H⟩ := H.freezeOwn 0 rfl
 rw [hlen] at H
 obtain rfl := Option.some.inj hF
 refine ret_1 (fn := Tryz.f80) (r := .tmp 4) hf rfl (rv_tmp hf rfl) ?_
 exact ⟨_, rfl, H.chg, mk_int, _, H.ownAt 0 rfl, H.back⟩

/- loop.example/g00897/laws.markPlan -/
set_option maxHeartbeats 1000000 in
theorem laws_markPlan_ok {fu : Nat} {w0 : World} {S : Nat → Prop} {F : List Nat} {cs : List Value} {v1_ : Value} {a' : Plan} {k' : Int} {r : Int × Plan} (hO : GoTy.own w0 F cs a') (hn : F.Nodup) (h1 : VR w0 S v1_ k') (hF : laws_markPlan fu a' k' = some r) :
    Calls Tryz.prog 25 [(bif GoTy.agg (Plan) then .agg cs.toArray else cs.headD undef), v1_].toArray w0 fun e w' => ∃ v, e = .returned v ∧ (Chg w0 w' F ∧ VR w' (fun _ => True) v r.1 ∧ ∃ F', GoTy.own w' F' cs r.2 ∧ Back w0 w' F F') := by
 obtain rfl := VR_int h1
 obtain ⟨A1, c1, F1, A2, c2, F2, A3, c3, F3, rfl, hFe, l1, l2, l3⟩ := Plan_own hO
 have H := Mem.startG S hO hn
 have H := H.recast (X := [(⟨F, MP.own F [(.slice A1 a'.Network.Nodes.length c1), (.slice A2 a'.Network.Fibers.length c2), (.slice A3 a'.Lights.length c3)] (a' : Plan)⟩ : DI)]) (Y := [(⟨F1, MP.own F1 [(.slice A1 a'.Network.Nodes.length c1)] (a'.Network.Nodes : List ByteArray)⟩ : DI), (⟨F2, MP.own F2 [(.slice A2 a'.Network.Fibers.length c2)] (a'.Network.Fibers : List Fiber)⟩ : DI), (⟨F3, MP.own F3 [(.slice A3 a'.Lights.length c3)] (a'.Lights : List Light)⟩ : DI)]) (D := []) (List.Perm.of_eq (by simp [hFe])) fun _ => (ps1 l1 (ps1 l2 (ps1 l3 ps0)))
 have H := H.lend 0 rfl
 have H := H.lend 1 rfl
 have H := H.lend 2 rfl
 refine enter Tryz.func25 rfl rfl (nle rfl) rfl fun a hf => ?_
 rw [laws_markPlan] at hF
 refine sq (reg (wl0 rfl (op_box hf H rfl rfl (by decide) fun b' a w hf H => ?_)))
 refine pr 1 hf rfl rfl fun a hf => ?_
 refine wl_end (then_n (sq (reg (pr 1 hf rfl rfl fun a hf => ?_))))
 refine wl0 rfl (op_q hf (rq_loadBN hf H TF.la34 0 rfl rfl rfl rfl) rfl (by decide) fun a hf => ?_)
 refine pr 1 hf rfl rfl fun a hf => ?_
 have H := H.frontD 1 rfl
 have H := H.frontD 1 rfl
 have H := H.recast (X := [(⟨F1, MP.own F1 [(.slice A1 a'.Network.Nodes.length c1)] (a'.Network.Nodes : List ByteArray)⟩ : DI), (⟨F2, MP.own F2 [(.slice A2 a'.Network.Fibers.length c2)] (a'.Network.Fibers : List Fiber)⟩ : DI)]) (Y := [(⟨(F1 ++ F2), MP.own (F1 ++ F2) [(.slice A1 a'.Network.Nodes.length c1), (.slice A2 a'.Network.Fibers.length c2)] (a'.Network : Network)⟩ : DI)]) (List.Perm.of_eq (by simp)) fun _ => ps1 (Network_ownmk (x := a'.Network) (H.ownAt 0 rfl) (H.ownAt 1 rfl)) ps0
 obtain ⟨y, hy, hF⟩ := bind_some hF
 refine wl0 rfl (op_call hf TF.cl79 rfl (by decide) (laws_markNetwork_ok (S := fun _ => True) (F := (F1 ++ F2)) (cs := [(.slice A1 a'.Network.Nodes.length c1), (.slice A2 a'.Network.Fibers.length c2)]) (H.ownAt 0 rfl) H.diNd.1 mk_int hy) fun v w a hp hf => ?_)
 obtain ⟨hch, hv, F5, ho, hbk⟩ := hp
 obtain rfl := VR_int hv
 have H := H.wrote rfl hch ho hbk
 obtain ⟨F6, F7, hFe, hl, hl2⟩ := Network_ownc (H.ownAt 0 rfl)
 have H := H.recast (X := [(⟨F5, MP.own F5 [(.slice A1 a'.Network.Nodes.length c1), (.slice A2 a'.Network.Fibers.length c2)] (y.2 : Network)⟩ : DI)]) (Y := [(⟨F6, MP.own F6 [(.slice A1 a'.Network.Nodes.length c1)] (y.2.Nodes : List ByteArray)⟩ : DI), (⟨F7, MP.own F7 [(.slice A2 a'.Network.Fibers.length c2)] (y.2.Fibers : List Fiber)⟩ : DI)]) (List.Perm.of_eq (by simp [hFe])) fun _ => (ps1 hl (ps1 hl2 ps0))
 have H := H.lend 0 rfl
 have H := H.lend 1 rfl
 have H := H.lend 2 rfl
 refine pr 1 hf rfl rfl fun a hf => ?_
 refine wl_end (then_n (sq (reg (pr 1 hf rfl rfl fun a hf => ?_))))
 refine wl0 rfl (op_q hf (rq_loadB hf H TF.ls35 0 rfl rfl rfl) rfl (by decide) fun a hf => ?_)
 refine pr 1 hf rfl rfl fun a hf => ?_
 have H := H.frontD 2 rfl
 obtain ⟨y2, hy2, hF⟩ := bind_some hF
 refine wl0 rfl (op_call hf TF.cl80 rfl (by decide) (laws_markLightS_ok (S := fun _ => True) (F := F3) (cs := [(.slice A3 a'.Lights.length c3)]) (H.ownAt 0 rfl) H.diNd.1 mk_int hy2) fun v2 w a hp2 hf => ?_)
 obtain ⟨hch2, hv2, F8, ho2, hbk2⟩ := hp2
 obtain rfl := VR_int hv2
 have H := H.wrote rfl hch2 ho2 hbk2
 have H := H.lend 0 rfl
 have H := H.lend 1 rfl
 have H := H.lend 2 rfl
 refine pr 1 hf rfl rfl fun a hf => ?_
 refine wl_end (then_n (sq (reg (pr 2 hf rfl rfl fun a hf => ?_))))
 refine wl_end (then_n (wp_ret (?_)))
 have H := H.frontD 2 rfl
 have H := H.frontD 2 rfl
 have H := H.recast (X := [(⟨F6, MP.own F6 [(.slice A1 a'.Network.Nodes.length c1)] (y.2.Nodes : List ByteArray)⟩ : DI), (⟨F7, MP.own F7 [(.slice A2 a'.Network.Fibers.length c2)] (y.2.Fibers : List Fiber)⟩ : DI), (⟨F8, MP.own F8 [(.slice A3 a'.Lights.length c3)] (y2.2 : List Light)⟩ : DI)]) (Y := [(⟨(F6 ++ (F7 ++ F8)), MP.own (F6 ++ (F7 ++ F8)) [(.slice A1 a'.Network.Nodes.length c1), (.slice A2 a'.Network.Fibers.length c2), (.slice A3 a'.Lights.length c3)] (({ Network := y.2, Lights := y2.2 } : Plan) : Plan)⟩ : DI)]) (List.Perm.of_eq (by simp)) fun _ => ps1 (Plan_ownmk (x := ({ Network := y.2, Lights := y2.2 } : Plan)) (H.ownAt 0 rfl) (H.ownAt 1 rfl) (H.ownAt 2 rfl)) ps0
 obtain rfl := Option.some.inj hF
 refine ret_1 (fn := Tryz.f25) (r := .tmp 4) hf rfl (rv_tmp hf rfl) ?_
 exact ⟨_, rfl, H.chg, mk_int, _, H.ownAt 0 rfl, H.back⟩

/- loop.example/g00897/laws.heldStringS -/
set_option maxHeartbeats 1000000 in
theorem laws_heldStringS_ok {fu : Nat} {w0 : World} {S : Nat → Prop} {v0_ : Value} {v1_ : Value} {a' : List ByteArray} {k' : Int} {r : Int} (h0 : VR w0 S v0_ a') (h1 : VR w0 S v1_ k') (hF : laws_heldStringS fu a' k' = some r) :
    Calls Tryz.prog 147 [v0_, v1_].toArray w0 fun e w' => ∃ v, e = .returned v ∧ (Below w0.heap.size w0 w' ∧ VR w' (St ⟨w0, []⟩ S [] [] [] true) v r) := by
 obtain ⟨A, c, rfl, hl⟩ := VR_list h0
 obtain rfl := VR_int h1
 have H := Mem.start ⟨w0, []⟩ S
 have H := H.pushArg (MP.val [(.slice A a'.length c)] a') hl
 refine enter Tryz.func147 rfl rfl (nle rfl) rfl fun a hf => ?_
 rw [laws_heldStringS] at hF
 refine sq (reg (pr 1 hf rfl rfl fun a hf => ?_))
 refine wl_end (then_n (sq (sq (reg (pr 1 hf rfl rfl fun a hf => ?_)))))
 refine wl_end (then_n ?_)
 obtain ⟨out', hB1, hF⟩ := bind_some hF
 have hf := hf.prune [0, 1, 5] rfl
 have H := H.let [] [] [] [0] rfl rfl rfl rfl
 refine loopC (fun (s : Int × Int) (a : Act) (w : World) => match s with | (k2, i) => Fr a 22 [(0, (.slice A a'.length c)), (1, (.int .i64 k2)), (5, (.int .i64 i))] ∧ Mem ⟨w0, []⟩ S [] [] [] [(false, MP.val [(.slice A a'.length c)] (a' : List ByteArray))] w) (fun k (s : Int × Int) => laws_heldStringS_L1 fu a' k s.1 s.2 = some out') (fun s => out' = Out.next s) (k', 0) fu hB1 ⟨hf, H⟩ (fun s h => by cases h) ?_ ?_
 ·rintro fk ⟨k2, i⟩ a w hR1 hI
  replace hR1 : laws_heldStringS_L1 fu a' (fk + 1) k2 i = some out' := hR1
  rw [laws_heldStringS_L1] at hR1
  obtain ⟨hf, H⟩ := hI
  refine sq (sq (reg (pr 4 hf rfl rfl fun a hf => ?_)))
  refine wl_end (then_n (iteB hR1 (fun hc hR1 => cd_t hf rfl hc ?_) fun hc hR1 => cd_f hf rfl hc ?_))
  ·refine wp_skip (then_n (sq (wp_block (sq (sq (drawn [] (bs := [false, false, false, false, false, false, false]) (fuel := 7) (Checked.mixed Tryz.checked) rfl rfl fun w hb => ?_))))))
   have H := H.keep hb
   refine tp 0 rfl rfl hf (by kernel_rfl) (fun _ => trivial) rfl fun a hf => ?_
   refine tp 1 rfl rfl hf (by kernel_rfl) (fun _ => trivial) rfl fun a hf => ?_
   obtain ⟨e, he, hR1⟩ := bind_some hR1
   obtain ⟨p, o, cs, hx, hr, H⟩ := pre_iaddr H Tryz.underlying22 TF.sz9 0 rfl he
   refine tP 2 rfl rfl rfl rfl hf (by kernel_rfl) (fun _ => trivial) (fun w => rq_iaddrE hf rfl rfl rfl hx w) fun a hf => ?_
   obtain rfl := hr
   refine strT (H.let [] [] [] [0] rfl rfl rfl rfl) (fun w H => trivial) fun hS => ?_
   refine tS 3 [] rfl rfl rfl rfl hf (by kernel_rfl) (by kernel_rfl) hS (fun w H => rq_loadI hf H TF.ls9 0 0 rfl rfl rfl) fun a hf => ?_
   refine tp 4 rfl rfl hf (by kernel_rfl) (fun _ => hS) rfl fun a hf => ?_
   obtain ⟨y, hy, hR1⟩ := bind_some hR1
   refine n1 5 (by kernel_rfl) rfl rfl (op_call hf TF.cl199 rfl (by decide) (laws_markText_ok (S := fun _ => True) mk_int hy) fun v w a hp hf => ?_)
   obtain ⟨hb, hp⟩ := hp
   obtain rfl := VR_str hp
   have H := H.keep hb
   have hS := H.let [] [] [] [0] rfl rfl rfl rfl
   refine ⟨fun _ => hS, ?_⟩
   refine tp 6 rfl rfl hf (by kernel_rfl) (fun _ => hS) rfl fun a hf => ?_
   refine dn (by kernel_rfl) ?_
   refine then_n (iteB hR1 (fun hc2 hR1 => cd_t hf rfl hc2 ?_) fun hc2 hR1 => cd_f hf rfl hc2 ?_)
   ·refine sq (reg (pr 1 hf rfl rfl fun a hf => ?_))
    have hf := hf.prune [4] rfl
    refine wl_end (then_n (wp_ret (then_r (blk_r (then_r (then_r (blk_r (then_r (then_r (?_))))))))))
    obtain rfl := Option.some.inj hR1
    replace hF := on_ret hF
    obtain rfl := Option.some.inj hF
    refine ret_1 (fn := Tryz.f147) (r := .tmp 4) hf rfl (rv_tmp hf rfl) ?_
    exact ⟨_, rfl, H.bel, mk_int⟩
   ·refine wp_skip (then_n (reg (pr 3 hf rfl rfl fun a hf => ?_)))
    have hf := hf.prune [0, 1, 5] rfl
    refine wl_end (blk_n (then_n (reg (pr 3 hf rfl rfl fun a hf => ?_))))
    refine wl_end ?_
    have hf := hf.prune [0, 1, 5] rfl
    have H := H.let [] [] [] [1] rfl rfl rfl rfl
    exact then_n ⟨(w64 (k2 + 1), w64 (i + 1)), hR1, hf, H⟩
  ·refine wp_exit (then_x (then_x (blk_e (?_))))
   have hf := hf.prune [0, 1, 5] rfl
   have H := H.let [] [] [] [0] rfl rfl rfl rfl
   exact ⟨(k2, i), (Option.some.inj hR1).symm, hf, H⟩
 rintro a w ⟨⟨k3, i2⟩, rfl, hf, H⟩
 replace hF := on_next hF
 dsimp only at hF
 refine then_n (sq (reg (pr 2 hf rfl rfl fun a hf => ?_)))
 refine wl_end (then_n (wp_ret (?_)))
 obtain rfl := Option.some.inj hF
 refine ret_1 (fn := Tryz.f147) (r := .tmp 4) hf rfl (rv_tmp hf rfl) ?_
 exact ⟨_, rfl, H.bel, mk_int⟩

/- loop.example/g00897/laws.heldFiberS -/
set_option maxHeartbeats 1000000 in
theorem laws_heldFiberS_ok {fu : Nat} {w0 : World} {S : Nat → Prop} {v0_ : Value} {v1_ : Value} {a' : List Fiber} {k' : Int} {r : Int} (h0 : VR w0 S v0_ a') (h1 : VR w0 S v1_ k') (hF : laws_heldFiberS fu a' k' = some r) :
    Calls Tryz.prog 148 [v0_, v1_].toArray w0 fun e w' => ∃ v, e = .returned v ∧ (Below w0.heap.size w0 w' ∧ VR w' (St ⟨w0, []⟩ S [] [] [] true) v r) := by
 obtain ⟨A, c, rfl, hl⟩ := VR_list h0
 obtain rfl := VR_int h1
 have H := Mem.start ⟨w0, []⟩ S
 have H := H.pushArg (MP.val [(.slice A a'.length c)] a') hl
 refine enter Tryz.func148 rfl rfl (nle rfl) rfl fun a hf => ?_
 rw [laws_heldFiberS] at hF
 refine sq (reg (pr 1 hf rfl rfl fun a hf => ?_))
 refine wl_end (then_n (sq (sq (reg (pr 1 hf rfl rfl fun a hf => ?_)))))
 refine wl_end (then_n ?_)
 obtain ⟨out', hB1, hF⟩ := bind_some hF
 have hf := hf.prune [0, 1, 5] rfl
 have H := H.let [] [] [] [0] rfl rfl rfl rfl
 refine loopC (fun (s : Int × Int) (a : Act) (w : World) => match s with | (k2, i) => Fr a 49 [(0, (.slice A a'.length c)), (1, (.int .i64 k2)), (5, (.int .i64 i))] ∧ Mem ⟨w0, []⟩ S [] [] [] [(false, MP.val [(.slice A a'.length c)] (a' : List Fiber))] w) (fun k (s : Int × Int) => laws_heldFiberS_L1 fu a' k s.1 s.2 = some out') (fun s => out' = Out.next s) (k', 0) fu hB1 ⟨hf, H⟩ (fun s h => by cases h) ?_ ?_
 ·rintro fk ⟨k2, i⟩ a w hR1 hI
  replace hR1 : laws_heldFiberS_L1 fu a' (fk + 1) k2 i = some out' := hR1
  rw [laws_heldFiberS_L1] at hR1
  obtain ⟨hf, H⟩ := hI
  refine sq (sq (reg (pr 4 hf rfl rfl fun a hf => ?_)))
  refine wl_end (then_n (iteB hR1 (fun hc hR1 => cd_t hf rfl hc ?_) fun hc hR1 => cd_f hf rfl hc ?_))
  ·refine wp_skip (then_n (sq (wp_block (sq (sq (reg (pr 2 hf rfl rfl fun a hf => ?_)))))))
   obtain ⟨e, he, hR1⟩ := bind_some hR1
   refine wl0 rfl (op_iaddr hf H Tryz.underlying32 TF.sz120 0 rfl rfl rfl he (by decide) fun p o cs a hf hr H => ?_)
   obtain rfl := Fiber_cells hr
   refine pr 1 hf rfl rfl fun a hf => ?_
   refine wl0 rfl (op_q hf (rq_loadI hf H TF.ls3 0 0 rfl rfl rfl) rfl (by decide) fun a hf => ?_)
   refine pr 2 hf rfl rfl fun a hf => ?_
   refine wl_end (then_n (iteB hR1 (fun hc2 hR1 => cd_t hf rfl hc2 ?_) fun hc2 hR1 => cd_f hf rfl hc2 ?_))
   ·refine sq (reg (pr 1 hf rfl rfl fun a hf => ?_))
    have hf := hf.prune [4] rfl
    refine wl_end (then_n (wp_ret (then_r (blk_r (then_r (then_r (blk_r (then_r (then_r (?_))))))))))
    obtain rfl := Option.some.inj hR1
    replace hF := on_ret hF
    obtain rfl := Option.some.inj hF
    refine ret_1 (fn := Tryz.f148) (r := .tmp 4) hf rfl (rv_tmp hf rfl) ?_
    exact ⟨_, rfl, H.bel, mk_int⟩
   ·refine wp_skip (then_n (sq (reg (pr 3 hf rfl rfl fun a hf => ?_))))
    have hf := hf.prune [0, 1, 5] rfl
    refine wl_end (then_n (sq (sq (reg (pr 2 hf rfl rfl fun a hf => ?_)))))
    obtain ⟨e2, he2, hR1⟩ := bind_some hR1
    refine wl0 rfl (op_iaddr hf H Tryz.underlying32 TF.sz120 1 rfl rfl rfl he2 (by decide) fun p2 o2 cs2 a hf hr2 H => ?_)
    obtain rfl := Fiber_cells hr2
    refine pr 1 hf rfl rfl fun a hf => ?_
    refine wl0 rfl (op_q hf (rq_loadI hf H TF.ls3 0 1 rfl rfl rfl) rfl (by decide) fun a hf => ?_)
    refine pr 2 hf rfl rfl fun a hf => ?_
    refine wl_end (then_n (iteB hR1 (fun hc3 hR1 => cd_t hf rfl hc3 ?_) fun hc3 hR1 => cd_f hf rfl hc3 ?_))
    ·refine sq (reg (pr 1 hf rfl rfl fun a hf => ?_))
     refine wl_end (then_n (wp_ret (then_r (blk_r (then_r (then_r (blk_r (then_r (then_r (?_))))))))))
     obtain rfl := Option.some.inj hR1
     replace hF := on_ret hF
     obtain rfl := Option.some.inj hF
     refine ret_1 (fn := Tryz.f148) (r := .tmp 4) hf rfl (rv_tmp hf rfl) ?_
     exact ⟨_, rfl, H.bel, mk_int⟩
    ·refine wp_skip (then_n (sq (reg (pr 3 hf rfl rfl fun a hf => ?_))))
     refine wl_end (then_n (sq (sq (reg (pr 2 hf rfl rfl fun a hf => ?_)))))
     obtain ⟨e3, he3, hR1⟩ := bind_some hR1
     refine wl0 rfl (op_iaddr hf H Tryz.underlying32 TF.sz120 2 rfl rfl rfl he3 (by decide) fun p3 o3 cs3 a hf hr3 H => ?_)
     obtain rfl := Fiber_cells hr3
     refine pr 1 hf rfl rfl fun a hf => ?_
     refine wl0 rfl (op_q hf (rq_loadI hf H TF.ls3 0 2 rfl rfl rfl) rfl (by decide) fun a hf => ?_)
     refine pr 2 hf rfl rfl fun a hf => ?_
     have hf := hf.prune [0, 1, 5, 36] rfl
     refine wl_end (then_n (iteB hR1 (fun hc4 hR1 => cd_t hf rfl hc4 ?_) fun hc4 hR1 => cd_f hf rfl hc4 ?_))
     ·refine sq (reg (pr 1 hf rfl rfl fun a hf => ?_))
      refine wl_end (then_n (wp_ret (then_r (blk_r (then_r (then_r (blk_r (then_r (then_r (?_))))))))))
      obtain rfl := Option.some.inj hR1
      replace hF := on_ret hF
      obtain rfl := Option.some.inj hF
      refine ret_1 (fn := Tryz.f148) (r := .tmp 4) hf rfl (rv_tmp hf rfl) ?_
      exact ⟨_, rfl, H.bel, mk_int⟩
     ·refine wp_skip (then_n (sq (reg (pr 3 hf rfl rfl fun a hf => ?_))))
      refine wl_end (then_n (sq (sq (reg (pr 2 hf rfl rfl fun a hf => ?_)))))
      obtain ⟨e4, he4, hR1⟩ := bind_some hR1
      refine wl0 rfl (op_iaddr hf H Tryz.underlying32 TF.sz120 3 rfl rfl rfl he4 (by decide) fun p4 o4 cs4 a hf hr4 H => ?_)
      obtain rfl := Fiber_cells hr4
      refine pr 1 hf rfl rfl fun a hf => ?_
      refine wl0 rfl (op_q hf (rq_loadI hf H TF.ls3 0 3 rfl rfl rfl) rfl (by decide) fun a hf => ?_)
      refine pr 2 hf rfl rfl fun a hf => ?_
      refine wl_end (then_n (iteB hR1 (fun hc5 hR1 => cd_t hf rfl hc5 ?_) fun hc5 hR1 => cd_f hf rfl hc5 ?_))
      ·refine sq (reg (pr 1 hf rfl rfl fun a hf => ?_))
       have hf := hf.prune [4] rfl
       refine wl_end (then_n (wp_ret (then_r (blk_r (then_r (then_r (blk_r (then_r (then_r (?_))))))))))
       obtain rfl := Option.some.inj hR1
       replace hF := on_ret hF
       obtain rfl := Option.some.inj hF
       refine ret_1 (fn := Tryz.f148) (r := .tmp 4) hf rfl (rv_tmp hf rfl) ?_
       exact ⟨_, rfl, H.bel, mk_int⟩
      ·refine wp_skip (then_n (reg (pr 3 hf rfl rfl fun a hf => ?_)))
       refine wl_end (blk_n (then_n (reg (pr 3 hf rfl rfl fun a hf => ?_))))
       have hf := hf.prune [0, 1, 5] rfl
       refine wl_end ?_
       have hf := hf.prune [0, 1, 5] rfl
       have H := H.let [] [] [] [4] rfl rfl rfl rfl
       exact then_n ⟨(w64 ((w64 ((w64 ((w64 (k2 + 1)) + 1)) + 1)) + 1), w64 (i + 1)), hR1, hf, H⟩
  ·refine wp_exit (then_x (then_x (blk_e (?_))))
   have hf := hf.prune [0, 1, 5] rfl
   have H := H.let [] [] [] [0] rfl rfl rfl rfl
   exact ⟨(k2, i), (Option.some.inj hR1).symm, hf, H⟩
 rintro a w ⟨⟨k3, i2⟩, rfl, hf, H⟩
 replace hF := on_next hF
 dsimp only at hF
 refine then_n (sq (reg (pr 2 hf rfl rfl fun a hf => ?_)))
 refine wl_end (then_n (wp_ret (?_)))
 obtain rfl := Option.some.inj hF
 refine ret_1 (fn := Tryz.f148) (r := .tmp 4) hf rfl (rv_tmp hf rfl) ?_
 exact ⟨_, rfl, H.bel, mk_int⟩

/- loop.example/g00897/laws.heldNetwork -/
set_option maxHeartbeats 1000000 in
theorem laws_heldNetwork_ok {fu : Nat} {w0 : World} {S : Nat → Prop} {v0_ : Value} {v1_ : Value} {a' : Network} {k' : Int} {r : Int} (h0 : VR w0 S v0_ a') (h1 : VR w0 S v1_ k') (hF : laws_heldNetwork fu a' k' = some r) :
    Calls Tryz.prog 81 [v0_, v1_].toArray w0 fun e w' => ∃ v, e = .returned v ∧ (Below w0.heap.size w0 w' ∧ VR w' (St ⟨w0, []⟩ S [] [] [] true) v r) := by
 obtain ⟨A, c, A2, c2, rfl, hl, hl2⟩ := Network_open h0
 obtain rfl := VR_int h1
 have H := Mem.start ⟨w0, []⟩ S
 have H := H.pushArg (MP.val [(.slice A a'.Nodes.length c)] a'.Nodes) hl
 have H := H.pushArg (MP.val [(.slice A2 a'.Fibers.length c2)] a'.Fibers) hl2
 refine enter Tryz.func81 rfl rfl (nle rfl) rfl fun a hf => ?_
 rw [laws_heldNetwork] at hF
 refine sq (reg (wl0 rfl (op_box hf H rfl rfl (by decide) fun b' a w hf H => ?_)))
 refine pr 1 hf rfl rfl fun a hf => ?_
 refine wl_end (then_n (sq (reg (pr 1 hf rfl rfl fun a hf => ?_))))
 refine wl0 rfl (op_q hf (rq_loadB hf H TF.ls22 0 rfl rfl rfl) rfl (by decide) fun a hf => ?_)
 refine pr 1 hf rfl rfl fun a hf => ?_
 obtain ⟨y, hy, hF⟩ := bind_some hF
 refine wl0 rfl (op_call hf TF.cl147 rfl (by decide) (laws_heldStringS_ok (S := fun _ => True) (mk_list (rep_true (α := List ByteArray) (H.get 1 rfl))) mk_int hy) fun v w a hp hf => ?_)
 obtain ⟨hb, hp⟩ := hp
 obtain rfl := VR_int hp
 have H := H.keep hb
 refine pr 1 hf rfl rfl fun a hf => ?_
 refine wl_end (then_n (sq (sq (reg (pr 2 hf rfl rfl fun a hf => ?_)))))
 refine wl_end (then_n (iteB hF (fun hc hF => cd_t hf rfl hc ?_) fun hc hF => cd_f hf rfl hc ?_))
 ·refine sq (reg (pr 1 hf rfl rfl fun a hf => ?_))
  refine wl_end (then_n (wp_ret (then_r (?_))))
  obtain rfl := Option.some.inj hF
  refine ret_1 (fn := Tryz.f81) (r := .tmp 4) hf rfl (rv_tmp hf rfl) ?_
  exact ⟨_, rfl, H.bel, mk_int⟩
 ·refine wp_skip (then_n (sq (reg (pr 1 hf rfl rfl fun a hf => ?_))))
  refine wl0 rfl (op_q hf (rq_loadB hf H TF.ls32 0 rfl rfl rfl) rfl (by decide) fun a hf => ?_)
  refine pr 1 hf rfl rfl fun a hf => ?_
  obtain ⟨y2, hy2, hF⟩ := bind_some hF
  refine wl0 rfl (op_call hf TF.cl148 rfl (by decide) (laws_heldFiberS_ok (S := fun _ => True) (mk_list (rep_true (α := List Fiber) (H.get 0 rfl))) mk_int hy2) fun v2 w a hp2 hf => ?_)
  obtain ⟨hb2, hp2⟩ := hp2
  obtain rfl := VR_int hp2
  have H := H.keep hb2
  refine pr 1 hf rfl rfl fun a hf => ?_
  have hf := hf.prune [1] rfl
  refine wl_end (then_n (sq (sq (reg (pr 2 hf rfl rfl fun a hf => ?_)))))
  refine wl_end (then_n (iteB hF (fun hc2 hF => cd_t hf rfl hc2 ?_) fun hc2 hF => cd_f hf rfl hc2 ?_))
  ·refine sq (reg (pr 1 hf rfl rfl fun a hf => ?_))
   refine wl_end (then_n (wp_ret (then_r (?_))))
   obtain rfl := Option.some.inj hF
   refine ret_1 (fn := Tryz.f81) (r := .tmp 4) hf rfl (rv_tmp hf rfl) ?_
   exact ⟨_, rfl, H.bel, mk_int⟩
  ·refine wp_skip (then_n (sq (reg (pr 2 hf rfl rfl fun a hf => ?_))))
   refine wl_end (then_n (wp_ret (?_)))
   obtain rfl := Option.some.inj hF
   refine ret_1 (fn := Tryz.f81) (r := .tmp 4) hf rfl (rv_tmp hf rfl) ?_
   exact ⟨_, rfl, H.bel, mk_int⟩

/- loop.example/g00897/laws.heldIntS -/
set_option maxHeartbeats 1000000 in
theorem laws_heldIntS_ok {fu : Nat} {w0 : World} {S : Nat → Prop} {v0_ : Value} {v1_ : Value} {a' : List Int} {k' : Int} {r : Int} (h0 : VR w0 S v0_ a') (h1 : VR w0 S v1_ k') (hF : laws_heldIntS fu a' k' = some r) :
    Calls Tryz.prog 27 [v0_, v1_].toArray w0 fun e w' => ∃ v, e = .returned v ∧ (Below w0.heap.size w0 w' ∧ VR w' (St ⟨w0, []⟩ S [] [] [] true) v r) := by
 obtain ⟨A, c, rfl, hl⟩ := VR_list h0
 obtain rfl := VR_int h1
 have H := Mem.start ⟨w0, []⟩ S
 have H := H.pushArg (MP.val [(.slice A a'.length c)] a') hl
 refine enter Tryz.func27 rfl rfl (nle rfl) rfl fun a hf => ?_
 rw [laws_heldIntS] at hF
 refine sq (reg (pr 1 hf rfl rfl fun a hf => ?_))
 refine wl_end (then_n (sq (sq (reg (pr 1 hf rfl rfl fun a hf => ?_)))))
 refine wl_end (then_n ?_)
 obtain ⟨out', hB1, hF⟩ := bind_some hF
 have hf := hf.prune [0, 1, 5] rfl
 have H := H.let [] [] [] [0] rfl rfl rfl rfl
 refine loopC (fun (s : Int × Int) (a : Act) (w : World) => match s with | (k2, i) => Fr a 21 [(0, (.slice A a'.length c)), (1, (.int .i64 k2)), (5, (.int .i64 i))] ∧ Mem ⟨w0, []⟩ S [] [] [] [(false, MP.val [(.slice A a'.length c)] (a' : List Int))] w) (fun k (s : Int × Int) => laws_heldIntS_L1 fu a' k s.1 s.2 = some out') (fun s => out' = Out.next s) (k', 0) fu hB1 ⟨hf, H⟩ (fun s h => by cases h) ?_ ?_
 ·rintro fk ⟨k2, i⟩ a w hR1 hI
  replace hR1 : laws_heldIntS_L1 fu a' (fk + 1) k2 i = some out' := hR1
  rw [laws_heldIntS_L1] at hR1
  obtain ⟨hf, H⟩ := hI
  refine sq (sq (reg (pr 4 hf rfl rfl fun a hf => ?_)))
  refine wl_end (then_n (iteB hR1 (fun hc hR1 => cd_t hf rfl hc ?_) fun hc hR1 => cd_f hf rfl hc ?_))
  ·refine wp_skip (then_n (sq (wp_block (sq (sq (reg (pr 2 hf rfl rfl fun a hf => ?_)))))))
   obtain ⟨e, he, hR1⟩ := bind_some hR1
   refine wl0 rfl (op_iaddr hf H Tryz.underlying44 TF.sz3 0 rfl rfl rfl he (by decide) fun p o cs a hf hr H => ?_)
   obtain rfl := hr
   refine wl0 rfl (op_q hf (rq_loadI hf H TF.ls3 0 0 rfl rfl rfl) rfl (by decide) fun a hf => ?_)
   refine pr 2 hf rfl rfl fun a hf => ?_
   refine wl_end (then_n (iteB hR1 (fun hc2 hR1 => cd_t hf rfl hc2 ?_) fun hc2 hR1 => cd_f hf rfl hc2 ?_))
   ·refine sq (reg (pr 1 hf rfl rfl fun a hf => ?_))
    have hf := hf.prune [4] rfl
    refine wl_end (then_n (wp_ret (then_r (blk_r (then_r (then_r (blk_r (then_r (then_r (?_))))))))))
    obtain rfl := Option.some.inj hR1
    replace hF := on_ret hF
    obtain rfl := Option.some.inj hF
    refine ret_1 (fn := Tryz.f27) (r := .tmp 4) hf rfl (rv_tmp hf rfl) ?_
    exact ⟨_, rfl, H.bel, mk_int⟩
   ·refine wp_skip (then_n (reg (pr 3 hf rfl rfl fun a hf => ?_)))
    refine wl_end (blk_n (then_n (reg (pr 3 hf rfl rfl fun a hf => ?_))))
    have hf := hf.prune [0, 1, 5] rfl
    refine wl_end ?_
    have hf := hf.prune [0, 1, 5] rfl
    have H := H.let [] [] [] [1] rfl rfl rfl rfl
    exact then_n ⟨(w64 (k2 + 1), w64 (i + 1)), hR1, hf, H⟩
  ·refine wp_exit (then_x (then_x (blk_e (?_))))
   have hf := hf.prune [0, 1, 5] rfl
   have H := H.let [] [] [] [0] rfl rfl rfl rfl
   exact ⟨(k2, i), (Option.some.inj hR1).symm, hf, H⟩
 rintro a w ⟨⟨k3, i2⟩, rfl, hf, H⟩
 replace hF := on_next hF
 dsimp only at hF
 refine then_n (sq (reg (pr 2 hf rfl rfl fun a hf => ?_)))
 refine wl_end (then_n (wp_ret (?_)))
 obtain rfl := Option.some.inj hF
 refine ret_1 (fn := Tryz.f27) (r := .tmp 4) hf rfl (rv_tmp hf rfl) ?_
 exact ⟨_, rfl, H.bel, mk_int⟩

/- loop.example/g00897/laws.heldLightS -/
set_option maxHeartbeats 1000000 in
theorem laws_heldLightS_ok {fu : Nat} {w0 : World} {S : Nat → Prop} {v0_ : Value} {v1_ : Value} {a' : List Light} {k' : Int} {r : Int} (h0 : VR w0 S v0_ a') (h1 : VR w0 S v1_ k') (hF : laws_heldLightS fu a' k' = some r) :
    Calls Tryz.prog 82 [v0_, v1_].toArray w0 fun e w' => ∃ v, e = .returned v ∧ (Below w0.heap.size w0 w' ∧ VR w' (St ⟨w0, []⟩ S [] [] [] true) v r) := by
 obtain ⟨A, c, rfl, hl⟩ := VR_list h0
 obtain rfl := VR_int h1
 have H := Mem.start ⟨w0, []⟩ S
 have H := H.pushArg (MP.val [(.slice A a'.length c)] a') hl
 refine enter Tryz.func82 rfl rfl (nle rfl) rfl fun a hf => ?_
 rw [laws_heldLightS] at hF
 refine sq (reg (pr 1 hf rfl rfl fun a hf => ?_))
 refine wl_end (then_n (sq (sq (reg (pr 1 hf rfl rfl fun a hf => ?_)))))
 refine wl_end (then_n ?_)
 obtain ⟨out', hB1, hF⟩ := bind_some hF
 have hf := hf.prune [0, 1, 5] rfl
 have H := H.let [] [] [] [0] rfl rfl rfl rfl
 refine loopC (fun (s : Int × Int) (a : Act) (w : World) => match s with | (k2, i) => Fr a 62 [(0, (.slice A a'.length c)), (1, (.int .i64 k2)), (5, (.int .i64 i))] ∧ Mem ⟨w0, []⟩ S [] [] [] [(false, MP.val [(.slice A a'.length c)] (a' : List Light))] w) (fun k (s : Int × Int) => laws_heldLightS_L1 fu a' k s.1 s.2 = some out') (fun s => out' = Out.next s) (k', 0) fu hB1 ⟨hf, H⟩ (fun s h => by cases h) ?_ ?_
 ·rintro fk ⟨k2, i⟩ a w hR1 hI
  replace hR1 : laws_heldLightS_L1 fu a' (fk + 1) k2 i = some out' := hR1
  rw [laws_heldLightS_L1] at hR1
  obtain ⟨hf, H⟩ := hI
  refine sq (sq (reg (pr 4 hf rfl rfl fun a hf => ?_)))
  refine wl_end (then_n (iteB hR1 (fun hc hR1 => cd_t hf rfl hc ?_) fun hc hR1 => cd_f hf rfl hc ?_))
  ·refine wp_skip (then_n (sq (wp_block (sq (sq (reg (pr 2 hf rfl rfl fun a hf => ?_)))))))
   obtain ⟨e, he, hR1⟩ := bind_some hR1
   refine wl0 rfl (op_iaddr hf H Tryz.underlying35 TF.sz112 0 rfl rfl rfl he (by decide) fun p o cs a hf hr H => ?_)
   obtain ⟨A2, c2, rfl, hl2⟩ := Light_cells hr
   have H := H.push (false, MP.val [(.slice A2 e.Route.Fibers.length c2)] e.Route.Fibers) hl2
   refine pr 1 hf rfl rfl fun a hf => ?_
   refine wl0 rfl (op_q hf (rq_loadI hf H TF.ls3 1 0 rfl rfl rfl) rfl (by decide) fun a hf => ?_)
   refine pr 2 hf rfl rfl fun a hf => ?_
   refine wl_end (then_n (iteB hR1 (fun hc2 hR1 => cd_t hf rfl hc2 ?_) fun hc2 hR1 => cd_f hf rfl hc2 ?_))
   ·refine sq (reg (pr 1 hf rfl rfl fun a hf => ?_))
    have hf := hf.prune [4] rfl
    refine wl_end (then_n (wp_ret (then_r (blk_r (then_r (then_r (blk_r (then_r (then_r (?_))))))))))
    obtain rfl := Option.some.inj hR1
    replace hF := on_ret hF
    obtain rfl := Option.some.inj hF
    refine ret_1 (fn := Tryz.f82) (r := .tmp 4) hf rfl (rv_tmp hf rfl) ?_
    exact ⟨_, rfl, H.bel, mk_int⟩
   ·refine wp_skip (then_n (sq (reg (pr 3 hf rfl rfl fun a hf => ?_))))
    have hf := hf.prune [0, 1, 5] rfl
    refine wl_end (then_n (sq (sq (reg (pr 2 hf rfl rfl fun a hf => ?_)))))
    obtain ⟨e2, he2, hR1⟩ := bind_some hR1
    refine wl0 rfl (op_iaddr hf H Tryz.underlying35 TF.sz112 2 rfl rfl rfl he2 (by decide) fun p2 o2 cs2 a hf hr2 H => ?_)
    obtain ⟨A3, c3, rfl, hl3⟩ := Light_cells hr2
    have H := H.push (false, MP.val [(.slice A3 e2.Route.Fibers.length c3)] e2.Route.Fibers) hl3
    refine pr 2 hf rfl rfl fun a hf => ?_
    refine wl0 rfl (op_q hf (rq_loadI hf H TF.ls3 1 1 rfl rfl rfl) rfl (by decide) fun a hf => ?_)
    refine pr 2 hf rfl rfl fun a hf => ?_
    refine wl_end (then_n (iteB hR1 (fun hc3 hR1 => cd_t hf rfl hc3 ?_) fun hc3 hR1 => cd_f hf rfl hc3 ?_))
    ·refine sq (reg (pr 1 hf rfl rfl fun a hf => ?_))
     refine wl_end (then_n (wp_ret (then_r (blk_r (then_r (then_r (blk_r (then_r (then_r (?_))))))))))
     obtain rfl := Option.some.inj hR1
     replace hF := on_ret hF
     obtain rfl := Option.some.inj hF
     refine ret_1 (fn := Tryz.f82) (r := .tmp 4) hf rfl (rv_tmp hf rfl) ?_
     exact ⟨_, rfl, H.bel, mk_int⟩
    ·refine wp_skip (then_n (sq (reg (pr 3 hf rfl rfl fun a hf => ?_))))
     refine wl_end (then_n (sq (reg (pr 2 hf rfl rfl fun a hf => ?_))))
     obtain ⟨e3, he3, hR1⟩ := bind_some hR1
     refine wl0 rfl (op_iaddr hf H Tryz.underlying35 TF.sz112 4 rfl rfl rfl he3 (by decide) fun p3 o3 cs3 a hf hr3 H => ?_)
     obtain ⟨A4, c4, rfl, hl4⟩ := Light_cells hr3
     have H := H.push (false, MP.val [(.slice A4 e3.Route.Fibers.length c4)] e3.Route.Fibers) hl4
     refine pr 2 hf rfl rfl fun a hf => ?_
     refine wl0 rfl (op_q hf (rq_loadI hf H TF.ls44 1 2 rfl rfl rfl) rfl (by decide) fun a hf => ?_)
     refine pr 1 hf rfl rfl fun a hf => ?_
     obtain ⟨y, hy, hR1⟩ := bind_some hR1
     refine wl0 rfl (op_call hf TF.cl27 rfl (by decide) (laws_heldIntS_ok (S := fun _ => True) (mk_list (rep_true (α := List Int) (H.get 0 rfl))) mk_int hy) fun v w a hp hf => ?_)
     obtain ⟨hb, hp⟩ := hp
     obtain rfl := VR_int hp
     have H := H.keep hb
     refine pr 1 hf rfl rfl fun a hf => ?_
     have hf := hf.prune [0, 1, 5] rfl
     refine wl_end (then_n (sq (sq (reg (pr 2 hf rfl rfl fun a hf => ?_)))))
     refine wl_end (then_n (iteB hR1 (fun hc4 hR1 => cd_t hf rfl hc4 ?_) fun hc4 hR1 => cd_f hf rfl hc4 ?_))
     ·refine sq (reg (pr 1 hf rfl rfl fun a hf => ?_))
      refine wl_end (then_n (wp_ret (then_r (blk_r (then_r (then_r (blk_r (then_r (then_r (?_))))))))))
      obtain rfl := Option.some.inj hR1
      replace hF := on_ret hF
      obtain rfl := Option.some.inj hF
      refine ret_1 (fn := Tryz.f82) (r := .tmp 4) hf rfl (rv_tmp hf rfl) ?_
      exact ⟨_, rfl, H.bel, mk_int⟩
     ·refine wp_skip (then_n (sq (sq (reg (pr 2 hf rfl rfl fun a hf => ?_)))))
      obtain ⟨e4, he4, hR1⟩ := bind_some hR1
      refine wl0 rfl (op_iaddr hf H Tryz.underlying35 TF.sz112 6 rfl rfl rfl he4 (by decide) fun p4 o4 cs4 a hf hr4 H => ?_)
      obtain ⟨A5, c5, rfl, hl5⟩ := Light_cells hr4
      have H := H.push (false, MP.val [(.slice A5 e4.Route.Fibers.length c5)] e4.Route.Fibers) hl5
      refine pr 2 hf rfl rfl fun a hf => ?_
      refine wl0 rfl (op_q hf (rq_loadI hf H TF.ls3 1 3 rfl rfl rfl) rfl (by decide) fun a hf => ?_)
      refine pr 2 hf rfl rfl fun a hf => ?_
      refine wl_end (then_n (iteB hR1 (fun hc5 hR1 => cd_t hf rfl hc5 ?_) fun hc5 hR1 => cd_f hf rfl hc5 ?_))
      ·refine sq (reg (pr 1 hf rfl rfl fun a hf => ?_))
       have hf := hf.prune [4] rfl
       refine wl_end (then_n (wp_ret (then_r (blk_r (then_r (then_r (blk_r (then_r (then_r (?_))))))))))
       obtain rfl := Option.some.inj hR1
       replace hF := on_ret hF
       obtain rfl := Option.some.inj hF
       refine ret_1 (fn := Tryz.f82) (r := .tmp 4) hf rfl (rv_tmp hf rfl) ?_
       exact ⟨_, rfl, H.bel, mk_int⟩
      ·refine wp_skip (then_n (sq (reg (pr 3 hf rfl rfl fun a hf => ?_))))
       refine wl_end (then_n (sq (sq (reg (pr 2 hf rfl rfl fun a hf => ?_)))))
       obtain ⟨e5, he5, hR1⟩ := bind_some hR1
       refine wl0 rfl (op_iaddr hf H Tryz.underlying35 TF.sz112 8 rfl rfl rfl he5 (by decide) fun p5 o5 cs5 a hf hr5 H => ?_)
       obtain ⟨A6, c6, rfl, hl6⟩ := Light_cells hr5
       have H := H.push (false, MP.val [(.slice A6 e5.Route.Fibers.length c6)] e5.Route.Fibers) hl6
       refine pr 2 hf rfl rfl fun a hf => ?_
       refine wl0 rfl (op_q hf (rq_loadI hf H TF.ls3 1 4 rfl rfl rfl) rfl (by decide) fun a hf => ?_)
       refine pr 2 hf rfl rfl fun a hf => ?_
       have hf := hf.prune [0, 1, 5, 58] rfl
       refine wl_end (then_n (iteB hR1 (fun hc6 hR1 => cd_t hf rfl hc6 ?_) fun hc6 hR1 => cd_f hf rfl hc6 ?_))
       ·refine sq (reg (pr 1 hf rfl rfl fun a hf => ?_))
        refine wl_end (then_n (wp_ret (then_r (blk_r (then_r (then_r (blk_r (then_r (then_r (?_))))))))))
        obtain rfl := Option.some.inj hR1
        replace hF := on_ret hF
        obtain rfl := Option.some.inj hF
        refine ret_1 (fn := Tryz.f82) (r := .tmp 4) hf rfl (rv_tmp hf rfl) ?_
        exact ⟨_, rfl, H.bel, mk_int⟩
       ·refine wp_skip (then_n (reg (pr 3 hf rfl rfl fun a hf => ?_)))
        refine wl_end (blk_n (then_n (reg (pr 3 hf rfl rfl fun a hf => ?_))))
        refine wl_end ?_
        have hf := hf.prune [0, 1, 5] rfl
        have H := H.let [] [] [] [10] rfl rfl rfl rfl
        exact then_n ⟨(w64 ((w64 (y + 1)) + 1), w64 (i + 1)), hR1, hf, H⟩
  ·refine wp_exit (then_x (then_x (blk_e (?_))))
   have hf := hf.prune [0, 1, 5] rfl
   have H := H.let [] [] [] [0] rfl rfl rfl rfl
   exact ⟨(k2, i), (Option.some.inj hR1).symm, hf, H⟩
 rintro a w ⟨⟨k3, i2⟩, rfl, hf, H⟩
 replace hF := on_next hF
 dsimp only at hF
 refine then_n (sq (reg (pr 2 hf rfl rfl fun a hf => ?_)))
 refine wl_end (then_n (wp_ret (?_)))
 obtain rfl := Option.some.inj hF
 refine ret_1 (fn := Tryz.f82) (r := .tmp 4) hf rfl (rv_tmp hf rfl) ?_
 exact ⟨_, rfl, H.bel, mk_int⟩

/- loop.example/g00897/laws.heldPlan -/
set_option maxHeartbeats 1000000 in
theorem laws_heldPlan_ok {fu : Nat} {w0 : World} {S : Nat → Prop} {v0_ : Value} {v1_ : Value} {a' : Plan} {k' : Int} {r : Int} (h0 : VR w0 S v0_ a') (h1 : VR w0 S v1_ k') (hF : laws_heldPlan fu a' k' = some r) :
    Calls Tryz.prog 30 [v0_, v1_].toArray w0 fun e w' => ∃ v, e = .returned v ∧ (Below w0.heap.size w0 w' ∧ VR w' (St ⟨w0, []⟩ S [] [] [] true) v r) := by
 obtain ⟨A, c, A2, c2, A3, c3, rfl, hl, hl2, hl3⟩ := Plan_open h0
 obtain rfl := VR_int h1
 have H := Mem.start ⟨w0, []⟩ S
 have H := H.pushArg (MP.val [(.slice A a'.Network.Nodes.length c)] a'.Network.Nodes) hl
 have H := H.pushArg (MP.val [(.slice A2 a'.Network.Fibers.length c2)] a'.Network.Fibers) hl2
 have H := H.pushArg (MP.val [(.slice A3 a'.Lights.length c3)] a'.Lights) hl3
 refine enter Tryz.func30 rfl rfl (nle rfl) rfl fun a hf => ?_
 rw [laws_heldPlan] at hF
 refine sq (reg (wl0 rfl (op_box hf H rfl rfl (by decide) fun b' a w hf H => ?_)))
 refine pr 1 hf rfl rfl fun a hf => ?_
 refine wl_end (then_n (sq (reg (pr 1 hf rfl rfl fun a hf => ?_))))
 refine wl0 rfl (op_q hf (rq_loadBN hf H TF.la34 0 rfl rfl rfl rfl) rfl (by decide) fun a hf => ?_)
 refine pr 1 hf rfl rfl fun a hf => ?_
 obtain ⟨y, hy, hF⟩ := bind_some hF
 refine wl0 rfl (op_call hf TF.cl81 rfl (by decide) (laws_heldNetwork_ok (S := fun _ => True) (Network_mkv (x := a'.Network) (rep_true (α := List ByteArray) (H.get 2 rfl)) (rep_true (α := List Fiber) (H.get 1 rfl))) mk_int hy) fun v w a hp hf => ?_)
 obtain ⟨hb, hp⟩ := hp
 obtain rfl := VR_int hp
 have H := H.keep hb
 refine pr 1 hf rfl rfl fun a hf => ?_
 refine wl_end (then_n (sq (sq (reg (pr 2 hf rfl rfl fun a hf => ?_)))))
 refine wl_end (then_n (iteB hF (fun hc hF => cd_t hf rfl hc ?_) fun hc hF => cd_f hf rfl hc ?_))
 ·refine sq (reg (pr 1 hf rfl rfl fun a hf => ?_))
  refine wl_end (then_n (wp_ret (then_r (?_))))
  obtain rfl := Option.some.inj hF
  refine ret_1 (fn := Tryz.f30) (r := .tmp 4) hf rfl (rv_tmp hf rfl) ?_
  exact ⟨_, rfl, H.bel, mk_int⟩
 ·refine wp_skip (then_n (sq (reg (pr 1 hf rfl rfl fun a hf => ?_))))
  refine wl0 rfl (op_q hf (rq_loadB hf H TF.ls35 0 rfl rfl rfl) rfl (by decide) fun a hf => ?_)
  refine pr 1 hf rfl rfl fun a hf => ?_
  obtain ⟨y2, hy2, hF⟩ := bind_some hF
  refine wl0 rfl (op_call hf TF.cl82 rfl (by decide) (laws_heldLightS_ok (S := fun _ => True) (mk_list (rep_true (α := List Light) (H.get 0 rfl))) mk_int hy2) fun v2 w a hp2 hf => ?_)
  obtain ⟨hb2, hp2⟩ := hp2
  obtain rfl := VR_int hp2
  have H := H.keep hb2
  refine pr 1 hf rfl rfl fun a hf => ?_
  have hf := hf.prune [1] rfl
  refine wl_end (then_n (sq (sq (reg (pr 2 hf rfl rfl fun a hf => ?_)))))
  refine wl_end (then_n (iteB hF (fun hc2 hF => cd_t hf rfl hc2 ?_) fun hc2 hF => cd_f hf rfl hc2 ?_))
  ·refine sq (reg (pr 1 hf rfl rfl fun a hf => ?_))
   refine wl_end (then_n (wp_ret (then_r (?_))))
   obtain rfl := Option.some.inj hF
   refine ret_1 (fn := Tryz.f30) (r := .tmp 4) hf rfl (rv_tmp hf rfl) ?_
   exact ⟨_, rfl, H.bel, mk_int⟩
  ·refine wp_skip (then_n (sq (reg (pr 2 hf rfl rfl fun a hf => ?_))))
   refine wl_end (then_n (wp_ret (?_)))
   obtain rfl := Option.some.inj hF
   refine ret_1 (fn := Tryz.f30) (r := .tmp 4) hf rfl (rv_tmp hf rfl) ?_
   exact ⟨_, rfl, H.bel, mk_int⟩

/- loop.example/g00897/laws.FnExactDefragment -/
set_option maxHeartbeats 1000000 in
theorem laws_FnExactDefragment_ok {fu : Nat} {w0 : World} {S : Nat → Prop} {v0_ : Value} {v1_ : Value} {v2_ : Value} {aP : Plan} {aHitless : Bool} {aLimit : Int} {r : Bool} (h0 : VR w0 S v0_ aP) (h1 : VR w0 S v1_ aHitless) (h2 : VR w0 S v2_ aLimit) (hF : laws_FnExactDefragment fu aP aHitless aLimit = some r) :
    Calls Tryz.prog 7 [v0_, v1_, v2_].toArray w0 fun e w' => ∃ v, e = .returned v ∧ (Below w0.heap.size w0 w' ∧ VR w' (St ⟨w0, []⟩ S [] [] [] true) v r) := by
 obtain ⟨A, c, A2, c2, A3, c3, rfl, hl, hl2, hl3⟩ := Plan_open h0
 obtain rfl := VR_bool h1
 obtain rfl := VR_int h2
 have H := Mem.start ⟨w0, []⟩ S
 have H := H.pushArg (MP.val [(.slice A aP.Network.Nodes.length c)] aP.Network.Nodes) hl
 have H := H.pushArg (MP.val [(.slice A2 aP.Network.Fibers.length c2)] aP.Network.Fibers) hl2
 have H := H.pushArg (MP.val [(.slice A3 aP.Lights.length c3)] aP.Lights) hl3
 refine enter Tryz.func7 rfl rfl (nle rfl) rfl fun a hf => ?_
 rw [laws_FnExactDefragment] at hF
 refine sq (reg (wl0 rfl (op_box hf H rfl rfl (by decide) fun b' a w hf H => ?_)))
 refine pr 1 hf rfl rfl fun a hf => ?_
 refine wl_end (then_n (sq (reg (pr 1 hf rfl rfl fun a hf => ?_))))
 refine wl_end (then_n (sq (reg (wl0 rfl (op_q hf (rq_loadBN hf H TF.la28 0 rfl rfl rfl rfl) rfl (by decide) fun a hf => ?_)))))
 refine pr 1 hf rfl rfl fun a hf => ?_
 obtain ⟨y, hy, hF⟩ := bind_some hF
 refine wl0 rfl (op_call hf TF.cl15 rfl (by decide) (laws_szPlan_ok (S := fun _ => True) (Plan_mkv (x := aP) (rep_true (α := List ByteArray) (H.get 2 rfl)) (rep_true (α := List Fiber) (H.get 1 rfl)) (rep_true (α := List Light) (H.get 0 rfl))) mk_int hy) fun v w a hp hf => ?_)
 obtain ⟨hb, hp⟩ := hp
 obtain rfl := VR_int hp
 have H := H.keep hb
 refine pr 1 hf rfl rfl fun a hf => ?_
 refine wl_end (then_n (sq (sq (reg (pr 2 hf rfl rfl fun a hf => ?_)))))
 refine wl_end (then_n (iteB hF (fun hc hF => cd_t hf rfl hc ?_) fun hc hF => cd_f hf rfl hc ?_))
 ·refine sq (reg (pr 1 hf rfl rfl fun a hf => ?_))
  refine wl_end (then_n (wp_ret (then_r (?_))))
  obtain rfl := Option.some.inj hF
  refine ret_1 (fn := Tryz.f7) (r := .tmp 6) hf rfl (rv_tmp hf rfl) ?_
  exact ⟨_, rfl, H.bel, mk_bool⟩
 ·refine wp_skip (then_n (sq (reg (wl0 rfl (op_q hf (rq_loadBN hf H TF.la28 0 rfl rfl rfl rfl) rfl (by decide) fun a hf => ?_)))))
  obtain ⟨y2, hy2, hF⟩ := bind_some hF
  refine wl0 rfl (op_call hf TF.cl17 rfl (by decide) (laws_toPlan_ok (S := fun _ => True) (Plan_mkv (x := aP) (rep_true (α := List ByteArray) (H.get 2 rfl)) (rep_true (α := List Fiber) (H.get 1 rfl)) (rep_true (α := List Light) (H.get 0 rfl))) hy2) fun v2 w a hp2 hf => ?_)
  obtain ⟨hb2, F, hp3, hN⟩ := hp2
  obtain ⟨A4, c4, F2, A5, c5, F3, A6, c6, F4, rfl, rfl, hl4, hl5, hl6⟩ := Plan_vo hp3
  have H := H.addOwn hb2 (X := [(⟨F2, MP.own F2 [(.slice A4 y2.Network.Nodes.length c4)] (y2.Network.Nodes : List ByteArray)⟩ : DI), (⟨F3, MP.own F3 [(.slice A5 y2.Network.Fibers.length c5)] (y2.Network.Fibers : List Fiber)⟩ : DI), (⟨F4, MP.own F4 [(.slice A6 y2.Lights.length c6)] (y2.Lights : List Light)⟩ : DI)]) (by simpa using hN.1) (ps1 hl4 (ps1 hl5 (ps1 hl6 ps0))) (by simpa using hN.2)
  have H := H.lend 0 rfl
  have H := H.lend 1 rfl
  have H := H.lend 2 rfl
  refine pr 2 hf rfl rfl fun a hf => ?_
  obtain ⟨y3, hy3, hF⟩ := bind_some hF
  refine wl0 rfl (op_call hf TF.cl31 rfl (by decide) (spec_Defragment_ok (S := fun _ => True) (Plan_mkv (x := y2) (rep_true (α := List ByteArray) (H.get 2 rfl)) (rep_true (α := List Fiber) (H.get 1 rfl)) (rep_true (α := List Light) (H.get 0 rfl))) mk_bool mk_int hy3) fun v3 w a hp4 hf => ?_)
  obtain ⟨hb3, v4, v5, v6, rfl, hp5, hp6, hp7⟩ := hp4
  obtain ⟨A7, c7, A8, c8, A9, c9, rfl, hl7, hl8, hl9⟩ := Plan_open hp5
  obtain ⟨A10, c10, rfl, hl10⟩ := VR_list hp6
  obtain rfl := VR_bool hp7
  obtain ⟨F5, H⟩ := H.addRo hb3 (p := MP.and (MP.val [(.slice A7 y3.1.Network.Nodes.length c7)] (y3.1.Network.Nodes : List ByteArray)) (MP.and (MP.val [(.slice A8 y3.1.Network.Fibers.length c8)] (y3.1.Network.Fibers : List Fiber)) (MP.and (MP.val [(.slice A9 y3.1.Lights.length c9)] (y3.1.Lights : List Light)) (MP.val [(.slice A10 y3.2.1.length c10)] (y3.2.1 : List Int))))) ⟨hl7, ⟨hl8, ⟨hl9, hl10⟩⟩⟩
  have H := H.lendQ 0 (q := MP.val [(.slice A7 y3.1.Network.Nodes.length c7)] (y3.1.Network.Nodes : List ByteArray)) rfl fun _ _ h => h.1
  have H := H.lendQ 0 (q := MP.val [(.slice A8 y3.1.Network.Fibers.length c8)] (y3.1.Network.Fibers : List Fiber)) rfl fun _ _ h => h.2.1
  have H := H.lendQ 0 (q := MP.val [(.slice A9 y3.1.Lights.length c9)] (y3.1.Lights : List Light)) rfl fun _ _ h => h.2.2.1
  have H := H.lendQ 0 (q := MP.val [(.slice A10 y3.2.1.length c10)] (y3.2.1 : List Int)) rfl fun _ _ h => h.2.2.2
  refine pr 4 hf rfl rfl fun a hf => ?_
  refine wl0 rfl (op_alloc hf H TF.zv37 rfl (by decide) fun b2 a w hf H => ?_)
  refine wl0 rfl (op_storeB hf H 0 TF.sz37 rfl rfl rfl rfl rfl rfl (nle rfl) fun w H => ?_)
  refine pr 2 hf rfl rfl fun a hf => ?_
  have hf := hf.prune [1, 2, 3, 8, 9, 10] rfl
  refine wl_end (then_n (sq (reg (wl0 rfl (op_q hf (rq_loadBN hf H TF.la28 1 rfl rfl rfl rfl) rfl (by decide) fun a hf => ?_)))))
  obtain ⟨y4, hy4, hF⟩ := bind_some hF
  refine wl0 rfl (op_call hf TF.cl17 rfl (by decide) (laws_toPlan_ok (S := fun _ => True) (Plan_mkv (x := aP) (rep_true (α := List ByteArray) (H.get 9 rfl)) (rep_true (α := List Fiber) (H.get 8 rfl)) (rep_true (α := List Light) (H.get 7 rfl))) hy4) fun v7 w a hp8 hf => ?_)
  obtain ⟨hb4, F6, hp9, hN2⟩ := hp8
  obtain ⟨A11, c11, F7, A12, c12, F8, A13, c13, F9, rfl, rfl, hl11, hl12, hl13⟩ := Plan_vo hp9
  have H := H.addOwn hb4 (X := [(⟨F7, MP.own F7 [(.slice A11 y4.Network.Nodes.length c11)] (y4.Network.Nodes : List ByteArray)⟩ : DI), (⟨F8, MP.own F8 [(.slice A12 y4.Network.Fibers.length c12)] (y4.Network.Fibers : List Fiber)⟩ : DI), (⟨F9, MP.own F9 [(.slice A13 y4.Lights.length c13)] (y4.Lights : List Light)⟩ : DI)]) (by simpa using hN2.1) (ps1 hl11 (ps1 hl12 (ps1 hl13 ps0))) (by simpa using hN2.2)
  have H := H.lend 0 rfl
  have H := H.lend 1 rfl
  have H := H.lend 2 rfl
  refine wl0 rfl (op_alloc hf H TF.zv37 rfl (by decide) fun b3 a w hf H => ?_)
  refine wl0 rfl (op_storeB hf H 0 TF.sz37 rfl rfl rfl rfl rfl rfl (nle rfl) fun w H => ?_)
  refine wl_end (then_n (sq (reg (wl0 rfl (op_q hf (rq_loadBN hf H TF.la37 0 rfl rfl rfl rfl) rfl (by decide) fun a hf => ?_)))))
  refine pr 2 hf rfl rfl fun a hf => ?_
  obtain ⟨y5, hy5, hF⟩ := bind_some hF
  refine wl0 rfl (op_call hf TF.cl32 rfl (by decide) (impl_Defragment_ok (S := fun _ => True) (Plan_mkv (x := y4) (rep_true (α := List ByteArray) (H.get 2 rfl)) (rep_true (α := List Fiber) (H.get 1 rfl)) (rep_true (α := List Light) (H.get 0 rfl))) mk_bool mk_int hy5) fun v8 w a hp10 hf => ?_)
  obtain ⟨hb5, F10, F11, v9, v10, v11, rfl, hp11, hp12, hp13, hN3⟩ := hp10
  obtain ⟨A14, c14, F12, A15, c15, F13, A16, c16, F14, rfl, rfl, hl14, hl15, hl16⟩ := Plan_vo hp11
  obtain ⟨A17, c17, rfl, hl17⟩ := VO_list hp12
  obtain rfl := VR_bool hp13
  have H := H.addOwn hb5 (X := [(⟨F12, MP.own F12 [(.slice A14 y5.1.Network.Nodes.length c14)] (y5.1.Network.Nodes : List ByteArray)⟩ : DI), (⟨F13, MP.own F13 [(.slice A15 y5.1.Network.Fibers.length c15)] (y5.1.Network.Fibers : List Fiber)⟩ : DI), (⟨F14, MP.own F14 [(.slice A16 y5.1.Lights.length c16)] (y5.1.Lights : List Light)⟩ : DI), (⟨F11, MP.own F11 [(.slice A17 y5.2.1.length c17)] (y5.2.1 : List Int)⟩ : DI)]) (by simpa using hN3.1) (ps1 hl14 (ps1 hl15 (ps1 hl16 (ps1 hl17 ps0)))) (by simpa using hN3.2)
  have H := H.lend 0 rfl
  have H := H.lend 1 rfl
  have H := H.lend 2 rfl
  have H := H.lend 3 rfl
  refine pr 4 hf rfl rfl fun a hf => ?_
  refine wl0 rfl (op_alloc hf H TF.zv37 rfl (by decide) fun b4 a w hf H => ?_)
  refine wl0 rfl (op_storeB hf H 0 TF.sz37 rfl rfl rfl rfl rfl rfl (nle rfl) fun w H => ?_)
  refine pr 2 hf rfl rfl fun a hf => ?_
  refine wl_end (then_n (sq (sq ?_)))
  obtain ⟨c18, hGc18, hF⟩ := bind_some hF
  have fh := hf.prune [1, 2, 3, 8, 9, 10, 11, 12, 13, 14] rfl
  have Hm := H.let [true, true, true, true] [] [true, true, true, true, true, true, true, true, false, false, false] [0, 1, 2, 3, 4, 5, 6, 7, 8, 9, 10, 14, 15, 16] rfl rfl rfl rfl
  refine midF 59 (.bool c18) fh Hm ?_ fun a w hf H => ?_
  ·refine reg (wl0 rfl (op_q hf (rq_loadBN hf H TF.la37 0 rfl rfl rfl rfl) rfl (by decide) fun a hf => ?_))
   refine wl0 rfl (op_q hf (rq_loadBN hf H TF.la37 2 rfl rfl rfl rfl) rfl (by decide) fun a hf => ?_)
   obtain ⟨y6, hy6, hGc18⟩ := bind_some hGc18
   refine wl0 rfl (op_call hf TF.cl19 rfl (by decide) (laws_eqPlan_ok (S := fun _ => True) (Plan_mkv (x := y5.1) (rep_true (α := List ByteArray) (H.get 3 rfl)) (rep_true (α := List Fiber) (H.get 2 rfl)) (rep_true (α := List Light) (H.get 1 rfl))) (Plan_mkv (x := y3.1) (rep_true (α := List ByteArray) (H.get 10 rfl)) (rep_true (α := List Fiber) (H.get 9 rfl)) (rep_true (α := List Light) (H.get 8 rfl))) hy6) fun v12 w a hp14 hf => ?_)
   obtain ⟨hb6, hp14⟩ := hp14
   obtain rfl := VR_bool hp14
   have H := H.keep hb6
   refine pr 2 hf rfl rfl fun a hf => ?_
   refine iteB hGc18 (fun hc2 hGc18 => ?_) fun hc2 hGc18 => ?_
   ·have hf := hf.lit 49 rfl hc2
    refine pr 10 hf rfl rfl fun a hf => ?_
    obtain rfl := Option.some.inj hGc18
    have hf := hf.prune [59, 1, 2, 3, 8, 9, 10, 11, 12, 13, 14] rfl
    have H := H.let [true, true, true, true] [] [true, true, true, true, true, true, true, true, false, false, false] [0, 1, 2, 3, 4, 5, 6, 7, 8, 9, 10, 14, 15, 16] rfl rfl rfl rfl
    exact wl_end ⟨hf, H⟩
   ·have hf := hf.lit 49 rfl hc2
    refine pr 2 hf rfl rfl fun a hf => ?_
    obtain ⟨y7, hy7, hGc18⟩ := bind_some hGc18
    refine wlg hf rfl rfl rfl (op_call hf TF.cl24 rfl (by decide) (laws_eqIntS_ok (S := fun _ => True) (mk_list (rep_true (α := List Int) (H.get 0 rfl))) (mk_list (rep_true (α := List Int) (H.get 7 rfl))) hy7) fun v13 w a hp15 hf => ?_)
    obtain ⟨hb7, hp15⟩ := hp15
    obtain rfl := VR_bool hp15
    have H := H.keep hb7
    refine pr 3 hf rfl rfl fun a hf => ?_
    refine iteB hGc18 (fun hc3 hGc18 => ?_) fun hc3 hGc18 => ?_
    ·have hf := hf.lit 55 rfl hc3
     refine pr 4 hf rfl rfl fun a hf => ?_
     obtain rfl := Option.some.inj hGc18
     have hf := hf.prune [59, 1, 2, 3, 8, 9, 10, 11, 12, 13, 14] rfl
     have H := H.let [true, true, true, true] [] [true, true, true, true, true, true, true, true, false, false, false] [0, 1, 2, 3, 4, 5, 6, 7, 8, 9, 10, 14, 15, 16] rfl rfl rfl rfl
     exact wl_end ⟨hf, H⟩
    ·have hf := hf.lit 55 rfl hc3
     refine pr 4 hf rfl rfl fun a hf => ?_
     obtain rfl := Option.some.inj hGc18
     have hf := hf.prune [59, 1, 2, 3, 8, 9, 10, 11, 12, 13, 14] rfl
     have H := H.let [true, true, true, true] [] [true, true, true, true, true, true, true, true, false, false, false] [0, 1, 2, 3, 4, 5, 6, 7, 8, 9, 10, 14, 15, 16] rfl rfl rfl rfl
     exact wl_end ⟨hf, H⟩
  refine then_n (iteB hF (fun hc4 hF => cd_t hf rfl hc4 ?_) fun hc4 hF => cd_f hf rfl hc4 ?_)
  ·refine sq (reg (pr 1 hf rfl rfl fun a hf => ?_))
   refine wl_end (then_n (wp_ret (then_r (?_))))
   obtain rfl := Option.some.inj hF
   refine ret_1 (fn := Tryz.f7) (r := .tmp 6) hf rfl (rv_tmp hf rfl) ?_
   exact ⟨_, rfl, H.bel, mk_bool⟩
  ·refine wp_skip (then_n (sq (sq (drawn [] (bs := [false, false, false, false, false]) (fuel := 5) (Checked.mixed Tryz.checked) rfl rfl fun w hb => ?_))))
   have H := H.keep hb
   refine strT (H.let [false, true, false, false] [] [false, false, false, false, false, false, false, false] [] rfl rfl rfl rfl) (fun w H => trivial) fun hS => ?_
   refine tS 0 [] rfl rfl rfl rfl hf (by kernel_rfl) (by kernel_rfl) hS (fun w H => rq_loadBN hf H TF.la37 0 rfl rfl rfl rfl) fun a hf => ?_
   refine strT (H.let [false, true, false, true] [] [false, false, false, false, false, false, false, false] [] rfl rfl rfl rfl) (fun w H => H.let [true, false] [] [] [] rfl rfl rfl rfl) fun hS => ?_
   refine tS 1 [] rfl rfl rfl rfl hf (by kernel_rfl) (by kernel_rfl) hS (fun w H => rq_loadBN hf H TF.la28 1 rfl rfl rfl rfl) fun a hf => ?_
   obtain ⟨y8, hy8, hF⟩ := bind_some hF
   refine n1 2 (by kernel_rfl) rfl rfl (op_call hf TF.cl17 rfl (by decide) (laws_toPlan_ok (S := fun _ => True) (Plan_mkv (x := aP) (rep_true (α := List ByteArray) (H.get 13 rfl)) (rep_true (α := List Fiber) (H.get 12 rfl)) (rep_true (α := List Light) (H.get 11 rfl))) hy8) fun v14 w a hp16 hf => ?_)
   obtain ⟨hb8, F16, hp17, hN4⟩ := hp16
   obtain ⟨A18, c19, F17, A19, c20, F18, A20, c21, F19, rfl, rfl, hl18, hl19, hl20⟩ := Plan_vo hp17
   have H := H.addOwn hb8 (X := [(⟨F17, MP.own F17 [(.slice A18 y8.Network.Nodes.length c19)] (y8.Network.Nodes : List ByteArray)⟩ : DI), (⟨F18, MP.own F18 [(.slice A19 y8.Network.Fibers.length c20)] (y8.Network.Fibers : List Fiber)⟩ : DI), (⟨F19, MP.own F19 [(.slice A20 y8.Lights.length c21)] (y8.Lights : List Light)⟩ : DI)]) (by simpa using hN4.1) (ps1 hl18 (ps1 hl19 (ps1 hl20 ps0))) (by simpa using hN4.2)
   have H := H.lend 0 rfl
   have H := H.lend 1 rfl
   have H := H.lend 2 rfl
   have hS := H.let [false, true, false, true] [] [false, false, false, false, false, false, false, false, false, false, false] [] rfl rfl rfl rfl
   refine ⟨fun _ => hS, ?_⟩
   obtain ⟨y9, hy9, hF⟩ := bind_some hF
   refine n1 3 (by kernel_rfl) rfl rfl (op_call hf TF.cl19 rfl (by decide) (laws_eqPlan_ok (S := fun _ => True) (Plan_mkv (x := y4) (rep_true (α := List ByteArray) (H.get 9 rfl)) (rep_true (α := List Fiber) (H.get 8 rfl)) (rep_true (α := List Light) (H.get 7 rfl))) (Plan_mkv (x := y8) (rep_true (α := List ByteArray) (H.get 2 rfl)) (rep_true (α := List Fiber) (H.get 1 rfl)) (rep_true (α := List Light) (H.get 0 rfl))) hy9) fun v15 w a hp18 hf => ?_)
   obtain ⟨hb9, hp18⟩ := hp18
   obtain rfl := VR_bool hp18
   have H := H.keep hb9
   have hS := H.let [false, true, false, true] [] [false, false, false, false, false, false, false, false, false, false, false] [] rfl rfl rfl rfl
   refine ⟨fun _ => hS, ?_⟩
   refine tp 4 rfl rfl hf (by kernel_rfl) (fun _ => hS) rfl fun a hf => ?_
   refine dn (by kernel_rfl) ?_
   refine then_n (iteB hF (fun hc5 hF => cd_t hf rfl hc5 ?_) fun hc5 hF => cd_f hf rfl hc5 ?_)
   ·refine sq (reg (pr 1 hf rfl rfl fun a hf => ?_))
    have hf := hf.prune [6] rfl
    refine wl_end (then_n (wp_ret (then_r (?_))))
    obtain rfl := Option.some.inj hF
    refine ret_1 (fn := Tryz.f7) (r := .tmp 6) hf rfl (rv_tmp hf rfl) ?_
    exact ⟨_, rfl, H.bel, mk_bool⟩
   ·refine wp_skip (then_n (sq (reg (pr 1 hf rfl rfl fun a hf => ?_))))
    refine wl_end (then_n (sq (reg (wl0 rfl (op_q hf (rq_loadBN hf H TF.la37 1 rfl rfl rfl rfl) rfl (by decide) fun a hf => ?_)))))
    refine pr 1 hf rfl rfl fun a hf => ?_
    have H := H.frontD 9 rfl
    have H := H.frontD 9 rfl
    have H := H.frontD 9 rfl
    have H := H.recast (X := [(⟨F7, MP.own F7 [(.slice A11 y4.Network.Nodes.length c11)] (y4.Network.Nodes : List ByteArray)⟩ : DI), (⟨F8, MP.own F8 [(.slice A12 y4.Network.Fibers.length c12)] (y4.Network.Fibers : List Fiber)⟩ : DI), (⟨F9, MP.own F9 [(.slice A13 y4.Lights.length c13)] (y4.Lights : List Light)⟩ : DI)]) (Y := [(⟨(F7 ++ (F8 ++ F9)), MP.own (F7 ++ (F8 ++ F9)) [(.slice A11 y4.Network.Nodes.length c11), (.slice A12 y4.Network.Fibers.length c12), (.slice A13 y4.Lights.length c13)] (y4 : Plan)⟩ : DI)]) (List.Perm.of_eq (by simp)) fun _ => ps1 (Plan_ownmk (x := y4) (H.ownAt 0 rfl) (H.ownAt 1 rfl) (H.ownAt 2 rfl)) ps0
    obtain ⟨y10, hy10, hF⟩ := bind_some hF
    refine wl0 rfl (op_call hf TF.cl25 rfl (by decide) (laws_markPlan_ok (S := fun _ => True) (F := (F7 ++ (F8 ++ F9))) (cs := [(.slice A11 y4.Network.Nodes.length c11), (.slice A12 y4.Network.Fibers.length c12), (.slice A13 y4.Lights.length c13)]) (H.ownAt 0 rfl) H.diNd.1 mk_int hy10) fun v16 w a hp19 hf => ?_)
    obtain ⟨hch, hv, F20, ho, hbk⟩ := hp19
    obtain rfl := VR_int hv
    have H := H.wrote rfl hch ho hbk
    obtain ⟨F21, F22, F23, hFe, hl21, hl22, hl23⟩ := Plan_ownc (H.ownAt 0 rfl)
    have H := H.recast (X := [(⟨F20, MP.own F20 [(.slice A11 y4.Network.Nodes.length c11), (.slice A12 y4.Network.Fibers.length c12), (.slice A13 y4.Lights.length c13)] (y10.2 : Plan)⟩ : DI)]) (Y := [(⟨F21, MP.own F21 [(.slice A11 y4.Network.Nodes.length c11)] (y10.2.Network.Nodes : List ByteArray)⟩ : DI), (⟨F22, MP.own F22 [(.slice A12 y4.Network.Fibers.length c12)] (y10.2.Network.Fibers : List Fiber)⟩ : DI), (⟨F23, MP.own F23 [(.slice A13 y4.Lights.length c13)] (y10.2.Lights : List Light)⟩ : DI)]) (List.Perm.of_eq (by simp [hFe])) fun _ => (ps1 hl21 (ps1 hl22 (ps1 hl23 ps0)))
    have H := H.arg (p := MP.val [(.slice A aP.Network.Nodes.length c)] aP.Network.Nodes) hl
    have H := H.arg (p := MP.val [(.slice A2 aP.Network.Fibers.length c2)] aP.Network.Fibers) hl2
    have H := H.arg (p := MP.val [(.slice A3 aP.Lights.length c3)] aP.Lights) hl3
    have H := H.lend 0 rfl
    have H := H.lend 1 rfl
    have H := H.lend 2 rfl
    have H := H.lend 3 rfl
    have H := H.lend 4 rfl
    have H := H.lend 5 rfl
    have H := H.lend 6 rfl
    have H := H.lend 7 rfl
    have H := H.lend 8 rfl
    have H := H.lend 9 rfl
    have H := H.lendQ 10 (q := MP.val [(.slice A7 y3.1.Network.Nodes.length c7)] (y3.1.Network.Nodes : List ByteArray)) rfl fun _ _ h => h.1
    have H := H.lendQ 10 (q := MP.val [(.slice A8 y3.1.Network.Fibers.length c8)] (y3.1.Network.Fibers : List Fiber)) rfl fun _ _ h => h.2.1
    have H := H.lendQ 10 (q := MP.val [(.slice A9 y3.1.Lights.length c9)] (y3.1.Lights : List Light)) rfl fun _ _ h => h.2.2.1
    have H := H.lendQ 10 (q := MP.val [(.slice A10 y3.2.1.length c10)] (y3.2.1 : List Int)) rfl fun _ _ h => h.2.2.2
    refine pr 1 hf rfl rfl fun a hf => ?_
    refine wl_end (then_n (sq (sq ?_)))
    obtain ⟨c22, hGc22, hF⟩ := bind_some hF
    have fh2 := hf.prune [1, 2, 3, 8, 9, 10, 12, 13] rfl
    have Hm2 := H.let [true, false, true, true] [] [false, false, false, false, false, false, true, true, true, true, true] [0, 1, 2, 3, 4, 5, 6, 7, 14, 15, 16] rfl rfl rfl rfl
    refine midF 86 (.bool c22) fh2 Hm2 ?_ fun a w hf H => ?_
    ·refine reg (pr 3 hf rfl rfl fun a hf => ?_)
     refine iteB hGc22 (fun hc6 hGc22 => ?_) fun hc6 hGc22 => ?_
     ·have hf := hf.lit 70 rfl hc6
      refine pr 16 hf rfl rfl fun a hf => ?_
      obtain rfl := Option.some.inj hGc22
      have hf := hf.prune [86, 1, 2, 3, 8, 9, 10, 12, 13] rfl
      have H := H.let [true, false, true, true] [] [false, false, false, false, false, false, true, true, true, true, true] [0, 1, 2, 3, 4, 5, 6, 7, 14, 15, 16] rfl rfl rfl rfl
      exact wl_end ⟨hf, H⟩
     ·have hf := hf.lit 70 rfl hc6
      refine wlg hf rfl rfl rfl (op_q hf (rq_loadBN hf H TF.la37 0 rfl rfl rfl rfl) rfl (by decide) fun a hf => ?_)
      refine wlg hf rfl rfl rfl (op_q hf (rq_loadBN hf H TF.la37 2 rfl rfl rfl rfl) rfl (by decide) fun a hf => ?_)
      obtain ⟨y11, hy11, hGc22⟩ := bind_some hGc22
      refine wlg hf rfl rfl rfl (op_call hf TF.cl19 rfl (by decide) (laws_eqPlan_ok (S := fun _ => True) (Plan_mkv (x := y5.1) (rep_true (α := List ByteArray) (H.get 7 rfl)) (rep_true (α := List Fiber) (H.get 6 rfl)) (rep_true (α := List Light) (H.get 5 rfl))) (Plan_mkv (x := y3.1) (rep_true (α := List ByteArray) (H.get 3 rfl)) (rep_true (α := List Fiber) (H.get 2 rfl)) (rep_true (α := List Light) (H.get 1 rfl))) hy11) fun v17 w a hp20 hf => ?_)
      obtain ⟨hb10, hp20⟩ := hp20
      obtain rfl := VR_bool hp20
      have H := H.keep hb10
      refine pr 3 hf rfl rfl fun a hf => ?_
      refine iteB hGc22 (fun hc7 hGc22 => ?_) fun hc7 hGc22 => ?_
      ·have hf := hf.lit 76 rfl hc7
       refine pr 10 hf rfl rfl fun a hf => ?_
       obtain rfl := Option.some.inj hGc22
       have hf := hf.prune [86, 1, 2, 3, 8, 9, 10, 12, 13] rfl
       have H := H.let [true, false, true, true] [] [false, false, false, false, false, false, true, true, true, true, true] [0, 1, 2, 3, 4, 5, 6, 7, 14, 15, 16] rfl rfl rfl rfl
       exact wl_end ⟨hf, H⟩
      ·have hf := hf.lit 76 rfl hc7
       refine pr 2 hf rfl rfl fun a hf => ?_
       obtain ⟨y12, hy12, hGc22⟩ := bind_some hGc22
       refine wlg hf rfl rfl rfl (op_call hf TF.cl24 rfl (by decide) (laws_eqIntS_ok (S := fun _ => True) (mk_list (rep_true (α := List Int) (H.get 4 rfl))) (mk_list (rep_true (α := List Int) (H.get 0 rfl))) hy12) fun v18 w a hp21 hf => ?_)
       obtain ⟨hb11, hp21⟩ := hp21
       obtain rfl := VR_bool hp21
       have H := H.keep hb11
       refine pr 3 hf rfl rfl fun a hf => ?_
       refine iteB hGc22 (fun hc8 hGc22 => ?_) fun hc8 hGc22 => ?_
       ·have hf := hf.lit 82 rfl hc8
        refine pr 4 hf rfl rfl fun a hf => ?_
        obtain rfl := Option.some.inj hGc22
        have hf := hf.prune [86, 1, 2, 3, 8, 9, 10, 12, 13] rfl
        have H := H.let [true, false, true, true] [] [false, false, false, false, false, false, true, true, true, true, true] [0, 1, 2, 3, 4, 5, 6, 7, 14, 15, 16] rfl rfl rfl rfl
        exact wl_end ⟨hf, H⟩
       ·have hf := hf.lit 82 rfl hc8
        refine pr 4 hf rfl rfl fun a hf => ?_
        obtain rfl := Option.some.inj hGc22
        have hf := hf.prune [86, 1, 2, 3, 8, 9, 10, 12, 13] rfl
        have H := H.let [true, false, true, true] [] [false, false, false, false, false, false, true, true, true, true, true] [0, 1, 2, 3, 4, 5, 6, 7, 14, 15, 16] rfl rfl rfl rfl
        exact wl_end ⟨hf, H⟩
    refine then_n (iteB hF (fun hc9 hF => cd_t hf rfl hc9 ?_) fun hc9 hF => cd_f hf rfl hc9 ?_)
    ·refine sq (reg (pr 1 hf rfl rfl fun a hf => ?_))
     refine wl_end (then_n (wp_ret (then_r (?_))))
     obtain rfl := Option.some.inj hF
     refine ret_1 (fn := Tryz.f7) (r := .tmp 6) hf rfl (rv_tmp hf rfl) ?_
     exact ⟨_, rfl, H.bel, mk_bool⟩
    ·refine wp_skip (then_n (sq (reg (pr 1 hf rfl rfl fun a hf => ?_))))
     refine wl_end (then_n (sq (reg (wl0 rfl (op_q hf (rq_loadBN hf H TF.la37 0 rfl rfl rfl rfl) rfl (by decide) fun a hf => ?_)))))
     refine pr 1 hf rfl rfl fun a hf => ?_
     have H := H.frontD 2 rfl
     have H := H.frontD 2 rfl
     have H := H.frontD 2 rfl
     have H := H.recast (X := [(⟨F12, MP.own F12 [(.slice A14 y5.1.Network.Nodes.length c14)] (y5.1.Network.Nodes : List ByteArray)⟩ : DI), (⟨F13, MP.own F13 [(.slice A15 y5.1.Network.Fibers.length c15)] (y5.1.Network.Fibers : List Fiber)⟩ : DI), (⟨F14, MP.own F14 [(.slice A16 y5.1.Lights.length c16)] (y5.1.Lights : List Light)⟩ : DI)]) (Y := [(⟨(F12 ++ (F13 ++ F14)), MP.own (F12 ++ (F13 ++ F14)) [(.slice A14 y5.1.Network.Nodes.length c14), (.slice A15 y5.1.Network.Fibers.length c15), (.slice A16 y5.1.Lights.length c16)] (y5.1 : Plan)⟩ : DI)]) (List.Perm.of_eq (by simp)) fun _ => ps1 (Plan_ownmk (x := y5.1) (H.ownAt 0 rfl) (H.ownAt 1 rfl) (H.ownAt 2 rfl)) ps0
     obtain ⟨y13, hy13, hF⟩ := bind_some hF
     refine wl0 rfl (op_call hf TF.cl25 rfl (by decide) (laws_markPlan_ok (S := fun _ => True) (F := (F12 ++ (F13 ++ F14))) (cs := [(.slice A14 y5.1.Network.Nodes.length c14), (.slice A15 y5.1.Network.Fibers.length c15), (.slice A16 y5.1.Lights.length c16)]) (H.ownAt 0 rfl) H.diNd.1 mk_int hy13) fun v19 w a hp22 hf => ?_)
     obtain ⟨hch2, hv2, F24, ho2, hbk2⟩ := hp22
     obtain rfl := VR_int hv2
     have H := H.wrote rfl hch2 ho2 hbk2
     obtain ⟨F25, F26, F27, hFe2, hl24, hl25, hl26⟩ := Plan_ownc (H.ownAt 0 rfl)
     have H := H.recast (X := [(⟨F24, MP.own F24 [(.slice A14 y5.1.Network.Nodes.length c14), (.slice A15 y5.1.Network.Fibers.length c15), (.slice A16 y5.1.Lights.length c16)] (y13.2 : Plan)⟩ : DI)]) (Y := [(⟨F25, MP.own F25 [(.slice A14 y5.1.Network.Nodes.length c14)] (y13.2.Network.Nodes : List ByteArray)⟩ : DI), (⟨F26, MP.own F26 [(.slice A15 y5.1.Network.Fibers.length c15)] (y13.2.Network.Fibers : List Fiber)⟩ : DI), (⟨F27, MP.own F27 [(.slice A16 y5.1.Lights.length c16)] (y13.2.Lights : List Light)⟩ : DI)]) (List.Perm.of_eq (by simp [hFe2])) fun _ => (ps1 hl24 (ps1 hl25 (ps1 hl26 ps0)))
     have H := H.arg (p := MP.val [(.slice A aP.Network.Nodes.length c)] aP.Network.Nodes) hl
     have H := H.arg (p := MP.val [(.slice A2 aP.Network.Fibers.length c2)] aP.Network.Fibers) hl2
     have H := H.arg (p := MP.val [(.slice A3 aP.Lights.length c3)] aP.Lights) hl3
     have H := H.lend 0 rfl
     have H := H.lend 1 rfl
     have H := H.lend 2 rfl
     have H := H.lend 3 rfl
     have H := H.lendQ 4 (q := MP.val [(.slice A7 y3.1.Network.Nodes.length c7)] (y3.1.Network.Nodes : List ByteArray)) rfl fun _ _ h => h.1
     have H := H.lendQ 4 (q := MP.val [(.slice A8 y3.1.Network.Fibers.length c8)] (y3.1.Network.Fibers : List Fiber)) rfl fun _ _ h => h.2.1
     have H := H.lendQ 4 (q := MP.val [(.slice A9 y3.1.Lights.length c9)] (y3.1.Lights : List Light)) rfl fun _ _ h => h.2.2.1
     have H := H.lendQ 4 (q := MP.val [(.slice A10 y3.2.1.length c10)] (y3.2.1 : List Int)) rfl fun _ _ h => h.2.2.2
     refine pr 1 hf rfl rfl fun a hf => ?_
     refine wl_end (then_n (sq (reg (pr 2 hf rfl rfl fun a hf => ?_))))
     have H := H.frontD 3 rfl
     obtain ⟨y14, hy14, hF⟩ := bind_some hF
     refine wl0 rfl (op_call hf TF.cl26 rfl (by decide) (laws_markIntS_ok (S := fun _ => True) (F := F11) (cs := [(.slice A17 y5.2.1.length c17)]) (H.ownAt 0 rfl) H.diNd.1 mk_int hy14) fun v20 w a hp23 hf => ?_)
     obtain ⟨hch3, hv3, F28, ho3, hbk3⟩ := hp23
     obtain rfl := VR_int hv3
     have H := H.wrote rfl hch3 ho3 hbk3
     have H := H.arg (p := MP.val [(.slice A aP.Network.Nodes.length c)] aP.Network.Nodes) hl
     have H := H.arg (p := MP.val [(.slice A2 aP.Network.Fibers.length c2)] aP.Network.Fibers) hl2
     have H := H.arg (p := MP.val [(.slice A3 aP.Lights.length c3)] aP.Lights) hl3
     have H := H.lend 0 rfl
     have H := H.lend 1 rfl
     have H := H.lend 2 rfl
     have H := H.lend 3 rfl
     have H := H.lendQ 4 (q := MP.val [(.slice A7 y3.1.Network.Nodes.length c7)] (y3.1.Network.Nodes : List ByteArray)) rfl fun _ _ h => h.1
     have H := H.lendQ 4 (q := MP.val [(.slice A8 y3.1.Network.Fibers.length c8)] (y3.1.Network.Fibers : List Fiber)) rfl fun _ _ h => h.2.1
     have H := H.lendQ 4 (q := MP.val [(.slice A9 y3.1.Lights.length c9)] (y3.1.Lights : List Light)) rfl fun _ _ h => h.2.2.1
     have H := H.lendQ 4 (q := MP.val [(.slice A10 y3.2.1.length c10)] (y3.2.1 : List Int)) rfl fun _ _ h => h.2.2.2
     refine pr 1 hf rfl rfl fun a hf => ?_
     refine wl_end (then_n (sq (reg (pr 1 hf rfl rfl fun a hf => ?_))))
     refine wl_end (then_n (sq (reg (wl0 rfl (op_q hf (rq_loadBN hf H TF.la37 0 rfl rfl rfl rfl) rfl (by decide) fun a hf => ?_)))))
     refine pr 1 hf rfl rfl fun a hf => ?_
     obtain ⟨y15, hy15, hF⟩ := bind_some hF
     refine wl0 rfl (op_call hf TF.cl30 rfl (by decide) (laws_heldPlan_ok (S := fun _ => True) (Plan_mkv (x := y13.2) (rep_true (α := List ByteArray) (H.get 6 rfl)) (rep_true (α := List Fiber) (H.get 5 rfl)) (rep_true (α := List Light) (H.get 4 rfl))) mk_int hy15) fun v21 w a hp24 hf => ?_)
     obtain ⟨hb12, hp24⟩ := hp24
     obtain rfl := VR_int hp24
     have H := H.keep hb12
     refine pr 1 hf rfl rfl fun a hf => ?_
     refine wl_end (then_n (sq (sq (reg (pr 2 hf rfl rfl fun a hf => ?_)))))
     refine wl_end (then_n (iteB hF (fun hc10 hF => cd_t hf rfl hc10 ?_) fun hc10 hF => cd_f hf rfl hc10 ?_))
     ·refine sq (reg (pr 1 hf rfl rfl fun a hf => ?_))
      have hf := hf.prune [6] rfl
      refine wl_end (then_n (wp_ret (then_r (?_))))
      obtain rfl := Option.some.inj hF
      refine ret_1 (fn := Tryz.f7) (r := .tmp 6) hf rfl (rv_tmp hf rfl) ?_
      exact ⟨_, rfl, H.bel, mk_bool⟩
     ·refine wp_skip (then_n (sq (reg (pr 2 hf rfl rfl fun a hf => ?_))))
      obtain ⟨y16, hy16, hF⟩ := bind_some hF
      refine wl0 rfl (op_call hf TF.cl27 rfl (by decide) (laws_heldIntS_ok (S := fun _ => True) (mk_list (rep_true (α := List Int) (H.get 7 rfl))) mk_int hy16) fun v22 w a hp25 hf => ?_)
      obtain ⟨hb13, hp25⟩ := hp25
      obtain rfl := VR_int hp25
      have H := H.keep hb13
      refine pr 1 hf rfl rfl fun a hf => ?_
      have hf := hf.prune [1, 2, 3, 8, 9, 10, 12, 13, 16, 17] rfl
      refine wl_end (then_n (sq (sq (reg (pr 2 hf rfl rfl fun a hf => ?_)))))
      refine wl_end (then_n (iteB hF (fun hc11 hF => cd_t hf rfl hc11 ?_) fun hc11 hF => cd_f hf rfl hc11 ?_))
      ·refine sq (reg (pr 1 hf rfl rfl fun a hf => ?_))
       refine wl_end (then_n (wp_ret (then_r (?_))))
       obtain rfl := Option.some.inj hF
       refine ret_1 (fn := Tryz.f7) (r := .tmp 6) hf rfl (rv_tmp hf rfl) ?_
       exact ⟨_, rfl, H.bel, mk_bool⟩
      ·refine wp_skip (then_n (sq (sq (reg (pr 3 hf rfl rfl fun a hf => ?_)))))
       refine wl_end (then_n (iteB hF (fun hc12 hF => cd_t hf rfl hc12 ?_) fun hc12 hF => cd_f hf rfl hc12 ?_))
       ·refine sq (reg (pr 1 hf rfl rfl fun a hf => ?_))
        have hf := hf.prune [6] rfl
        refine wl_end (then_n (wp_ret (then_r (?_))))
        obtain rfl := Option.some.inj hF
        refine ret_1 (fn := Tryz.f7) (r := .tmp 6) hf rfl (rv_tmp hf rfl) ?_
        exact ⟨_, rfl, H.bel, mk_bool⟩
       ·refine wp_skip (then_n (sq (reg (wl0 rfl (op_q hf (rq_loadBN hf H TF.la28 2 rfl rfl rfl rfl) rfl (by decide) fun a hf => ?_)))))
        obtain ⟨y17, hy17, hF⟩ := bind_some hF
        refine wl0 rfl (op_call hf TF.cl17 rfl (by decide) (laws_toPlan_ok (S := fun _ => True) (Plan_mkv (x := aP) (rep_true (α := List ByteArray) (H.get 10 rfl)) (rep_true (α := List Fiber) (H.get 9 rfl)) (rep_true (α := List Light) (H.get 8 rfl))) hy17) fun v23 w a hp26 hf => ?_)
        obtain ⟨hb14, F29, hp27, hN5⟩ := hp26
        obtain ⟨A21, c23, F30, A22, c24, F31, A23, c25, F32, rfl, rfl, hl27, hl28, hl29⟩ := Plan_vo hp27
        have H := H.addOwn hb14 (X := [(⟨F30, MP.own F30 [(.slice A21 y17.Network.Nodes.length c23)] (y17.Network.Nodes : List ByteArray)⟩ : DI), (⟨F31, MP.own F31 [(.slice A22 y17.Network.Fibers.length c24)] (y17.Network.Fibers : List Fiber)⟩ : DI), (⟨F32, MP.own F32 [(.slice A23 y17.Lights.length c25)] (y17.Lights : List Light)⟩ : DI)]) (by simpa using hN5.1) (ps1 hl27 (ps1 hl28 (ps1 hl29 ps0))) (by simpa using hN5.2)
        have H := H.lend 0 rfl
        have H := H.lend 1 rfl
        have H := H.lend 2 rfl
        refine pr 2 hf rfl rfl fun a hf => ?_
        obtain ⟨y18, hy18, hF⟩ := bind_some hF
        refine wl0 rfl (op_call hf TF.cl32 rfl (by decide) (impl_Defragment_ok (S := fun _ => True) (Plan_mkv (x := y17) (rep_true (α := List ByteArray) (H.get 2 rfl)) (rep_true (α := List Fiber) (H.get 1 rfl)) (rep_true (α := List Light) (H.get 0 rfl))) mk_bool mk_int hy18) fun v24 w a hp28 hf => ?_)
        obtain ⟨hb15, F33, F34, v25, v26, v27, rfl, hp29, hp30, hp31, hN6⟩ := hp28
        obtain ⟨A24, c26, F35, A25, c27, F36, A26, c28, F37, rfl, rfl, hl30, hl31, hl32⟩ := Plan_vo hp29
        obtain ⟨A27, c29, rfl, hl33⟩ := VO_list hp30
        obtain rfl := VR_bool hp31
        have H := H.addOwn hb15 (X := [(⟨F35, MP.own F35 [(.slice A24 y18.1.Network.Nodes.length c26)] (y18.1.Network.Nodes : List ByteArray)⟩ : DI), (⟨F36, MP.own F36 [(.slice A25 y18.1.Network.Fibers.length c27)] (y18.1.Network.Fibers : List Fiber)⟩ : DI), (⟨F37, MP.own F37 [(.slice A26 y18.1.Lights.length c28)] (y18.1.Lights : List Light)⟩ : DI), (⟨F34, MP.own F34 [(.slice A27 y18.2.1.length c29)] (y18.2.1 : List Int)⟩ : DI)]) (by simpa using hN6.1) (ps1 hl30 (ps1 hl31 (ps1 hl32 (ps1 hl33 ps0)))) (by simpa using hN6.2)
        have H := H.lend 0 rfl
        have H := H.lend 1 rfl
        have H := H.lend 2 rfl
        have H := H.lend 3 rfl
        refine pr 4 hf rfl rfl fun a hf => ?_
        refine wl0 rfl (op_alloc hf H TF.zv37 rfl (by decide) fun b5 a w hf H => ?_)
        refine wl0 rfl (op_storeB hf H 0 TF.sz37 rfl rfl rfl rfl rfl rfl (nle rfl) fun w H => ?_)
        refine pr 2 hf rfl rfl fun a hf => ?_
        have hf := hf.prune [8, 9, 10, 12, 13, 16, 18, 19, 20] rfl
        refine wl_end (then_n (sq (sq ?_)))
        obtain ⟨c30, hGc30, hF⟩ := bind_some hF
        have fh3 := hf.prune [12, 13, 16] rfl
        have Hm3 := H.let [false, true, false, false] [] [false, false, false, false, false, false, false, true, true, true, true, false] [11, 12, 13, 14] rfl rfl rfl rfl
        refine midF 129 (.bool c30) fh3 Hm3 ?_ fun a w hf H => ?_
        ·refine reg (wl0 rfl (op_q hf (rq_loadBN hf H TF.la37 0 rfl rfl rfl rfl) rfl (by decide) fun a hf => ?_))
         refine wl0 rfl (op_q hf (rq_loadBN hf H TF.la37 2 rfl rfl rfl rfl) rfl (by decide) fun a hf => ?_)
         obtain ⟨y19, hy19, hGc30⟩ := bind_some hGc30
         refine wl0 rfl (op_call hf TF.cl19 rfl (by decide) (laws_eqPlan_ok (S := fun _ => True) (Plan_mkv (x := y18.1) (rep_true (α := List ByteArray) (H.get 3 rfl)) (rep_true (α := List Fiber) (H.get 2 rfl)) (rep_true (α := List Light) (H.get 1 rfl))) (Plan_mkv (x := y3.1) (rep_true (α := List ByteArray) (H.get 10 rfl)) (rep_true (α := List Fiber) (H.get 9 rfl)) (rep_true (α := List Light) (H.get 8 rfl))) hy19) fun v28 w a hp32 hf => ?_)
         obtain ⟨hb16, hp32⟩ := hp32
         obtain rfl := VR_bool hp32
         have H := H.keep hb16
         refine pr 2 hf rfl rfl fun a hf => ?_
         refine iteB hGc30 (fun hc13 hGc30 => ?_) fun hc13 hGc30 => ?_
         ·have hf := hf.lit 119 rfl hc13
          refine pr 10 hf rfl rfl fun a hf => ?_
          obtain rfl := Option.some.inj hGc30
          have hf := hf.prune [129, 12, 13, 16] rfl
          have H := H.let [false, true, false, false] [] [false, false, false, false, false, false, false, true, true, true, true, false] [11, 12, 13, 14] rfl rfl rfl rfl
          exact wl_end ⟨hf, H⟩
         ·have hf := hf.lit 119 rfl hc13
          refine pr 2 hf rfl rfl fun a hf => ?_
          obtain ⟨y20, hy20, hGc30⟩ := bind_some hGc30
          refine wlg hf rfl rfl rfl (op_call hf TF.cl24 rfl (by decide) (laws_eqIntS_ok (S := fun _ => True) (mk_list (rep_true (α := List Int) (H.get 0 rfl))) (mk_list (rep_true (α := List Int) (H.get 7 rfl))) hy20) fun v29 w a hp33 hf => ?_)
          obtain ⟨hb17, hp33⟩ := hp33
          obtain rfl := VR_bool hp33
          have H := H.keep hb17
          refine pr 3 hf rfl rfl fun a hf => ?_
          refine iteB hGc30 (fun hc14 hGc30 => ?_) fun hc14 hGc30 => ?_
          ·have hf := hf.lit 125 rfl hc14
           refine pr 4 hf rfl rfl fun a hf => ?_
           obtain rfl := Option.some.inj hGc30
           have hf := hf.prune [129, 12, 13, 16] rfl
           have H := H.let [false, true, false, false] [] [false, false, false, false, false, false, false, true, true, true, true, false] [11, 12, 13, 14] rfl rfl rfl rfl
           exact wl_end ⟨hf, H⟩
          ·have hf := hf.lit 125 rfl hc14
           refine pr 4 hf rfl rfl fun a hf => ?_
           obtain rfl := Option.some.inj hGc30
           have hf := hf.prune [129, 12, 13, 16] rfl
           have H := H.let [false, true, false, false] [] [false, false, false, false, false, false, false, true, true, true, true, false] [11, 12, 13, 14] rfl rfl rfl rfl
           exact wl_end ⟨hf, H⟩
        refine then_n (iteB hF (fun hc15 hF => cd_t hf rfl hc15 ?_) fun hc15 hF => cd_f hf rfl hc15 ?_)
        ·refine sq (reg (pr 1 hf rfl rfl fun a hf => ?_))
         refine wl_end (then_n (wp_ret (then_r (?_))))
         obtain rfl := Option.some.inj hF
         refine ret_1 (fn := Tryz.f7) (r := .tmp 6) hf rfl (rv_tmp hf rfl) ?_
         exact ⟨_, rfl, H.bel, mk_bool⟩
        ·refine wp_skip (then_n (sq (reg (pr 1 hf rfl rfl fun a hf => ?_))))
         refine wl_end (then_n (sq (reg (wl0 rfl (op_q hf (rq_loadBN hf H TF.la37 0 rfl rfl rfl rfl) rfl (by decide) fun a hf => ?_)))))
         refine pr 1 hf rfl rfl fun a hf => ?_
         obtain ⟨y21, hy21, hF⟩ := bind_some hF
         refine wl0 rfl (op_call hf TF.cl30 rfl (by decide) (laws_heldPlan_ok (S := fun _ => True) (Plan_mkv (x := y13.2) (rep_true (α := List ByteArray) (H.get 2 rfl)) (rep_true (α := List Fiber) (H.get 1 rfl)) (rep_true (α := List Light) (H.get 0 rfl))) mk_int hy21) fun v30 w a hp34 hf => ?_)
         obtain ⟨hb18, hp34⟩ := hp34
         obtain rfl := VR_int hp34
         have H := H.keep hb18
         refine pr 1 hf rfl rfl fun a hf => ?_
         refine wl_end (then_n (sq (sq (reg (pr 2 hf rfl rfl fun a hf => ?_)))))
         refine wl_end (then_n (iteB hF (fun hc16 hF => cd_t hf rfl hc16 ?_) fun hc16 hF => cd_f hf rfl hc16 ?_))
         ·refine sq (reg (pr 1 hf rfl rfl fun a hf => ?_))
          refine wl_end (then_n (wp_ret (then_r (?_))))
          obtain rfl := Option.some.inj hF
          refine ret_1 (fn := Tryz.f7) (r := .tmp 6) hf rfl (rv_tmp hf rfl) ?_
          exact ⟨_, rfl, H.bel, mk_bool⟩
         ·refine wp_skip (then_n (sq (reg (pr 2 hf rfl rfl fun a hf => ?_))))
          obtain ⟨y22, hy22, hF⟩ := bind_some hF
          refine wl0 rfl (op_call hf TF.cl27 rfl (by decide) (laws_heldIntS_ok (S := fun _ => True) (mk_list (rep_true (α := List Int) (H.get 3 rfl))) mk_int hy22) fun v31 w a hp35 hf => ?_)
          obtain ⟨hb19, hp35⟩ := hp35
          obtain rfl := VR_int hp35
          have H := H.keep hb19
          refine pr 1 hf rfl rfl fun a hf => ?_
          refine wl_end (then_n (sq (sq (reg (pr 2 hf rfl rfl fun a hf => ?_)))))
          refine wl_end (then_n (iteB hF (fun hc17 hF => cd_t hf rfl hc17 ?_) fun hc17 hF => cd_f hf rfl hc17 ?_))
          ·refine sq (reg (pr 1 hf rfl rfl fun a hf => ?_))
           have hf := hf.prune [6] rfl
           refine wl_end (then_n (wp_ret (then_r (?_))))
           obtain rfl := Option.some.inj hF
           refine ret_1 (fn := Tryz.f7) (r := .tmp 6) hf rfl (rv_tmp hf rfl) ?_
           exact ⟨_, rfl, H.bel, mk_bool⟩
          ·refine wp_skip (then_n (sq (sq (reg (pr 3 hf rfl rfl fun a hf => ?_)))))
           have hf := hf.prune [142] rfl
           refine wl_end (then_n (iteB hF (fun hc18 hF => cd_t hf rfl hc18 ?_) fun hc18 hF => cd_f hf rfl hc18 ?_))
           ·refine sq (reg (pr 1 hf rfl rfl fun a hf => ?_))
            refine wl_end (then_n (wp_ret (then_r (?_))))
            obtain rfl := Option.some.inj hF
            refine ret_1 (fn := Tryz.f7) (r := .tmp 6) hf rfl (rv_tmp hf rfl) ?_
            exact ⟨_, rfl, H.bel, mk_bool⟩
           ·refine wp_skip (then_n (sq (reg (pr 1 hf rfl rfl fun a hf => ?_))))
            refine wl_end (then_n (wp_ret (?_)))
            obtain rfl := Option.some.inj hF
            refine ret_1 (fn := Tryz.f7) (r := .tmp 6) hf rfl (rv_tmp hf rfl) ?_
            exact ⟨_, rfl, H.bel, mk_bool⟩
end AT
