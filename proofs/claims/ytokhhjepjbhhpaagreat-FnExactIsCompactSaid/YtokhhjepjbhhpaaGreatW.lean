/- The Go functions do what is told of them, by program (gen.py). -/
import Derived.Test.YtokhhjepjbhhpaaGreatW1
set_option linter.unusedVariables false
set_option linter.unusedSimpArgs false
set_option maxRecDepth 100000
namespace AT
open Go Go.RowKit Go.Proofs

/- loop.example/g00897/impl.lowered -/
set_option maxHeartbeats 1000000 in
theorem impl_lowered_ok {fu : Nat} {w0 : World} {S : Nat → Prop} {v0_ : Value} {v1_ : Value} {p : Plan} {hitless : Bool} {r : Plan × Int} (h0 : VR w0 S v0_ p) (h1 : VR w0 S v1_ hitless) (hF : impl_lowered fu p hitless = some r) :
    Calls Tryz.prog 73 [v0_, v1_].toArray w0 fun e w' => ∃ v, e = .returned v ∧ (Below w0.heap.size w0 w' ∧ ∃ F0, ∃ u0 u1, v = .tuple #[u0, u1] ∧ VO w' F0 u0 r.1 ∧ VR w' (St ⟨w0, []⟩ S [] [] [] true) u1 r.2 ∧ New w0 w' F0) := by
 obtain ⟨A, c, A2, c2, A3, c3, rfl, hl, hl2, hl3⟩ := Plan_open h0
 obtain rfl := VR_bool h1
 have H := Mem.start ⟨w0, []⟩ S
 have H := H.pushArg (MP.val [(.slice A p.Network.Nodes.length c)] p.Network.Nodes) hl
 have H := H.pushArg (MP.val [(.slice A2 p.Network.Fibers.length c2)] p.Network.Fibers) hl2
 have H := H.pushArg (MP.val [(.slice A3 p.Lights.length c3)] p.Lights) hl3
 refine enter Tryz.func73 rfl rfl (nle rfl) rfl fun a hf => ?_
 rw [impl_lowered] at hF
 refine sq (reg (wl0 rfl (op_box hf H rfl rfl (by decide) fun b' a w hf H => ?_)))
 refine wl0 rfl (op_alloc hf H TF.zv37 rfl (by decide) fun b2 a w hf H => ?_)
 refine pr 1 hf rfl rfl fun a hf => ?_
 refine wl_end (then_n (sq (reg (wl0 rfl (op_q hf (rq_loadBN hf H TF.la37 1 rfl rfl rfl rfl) rfl (by decide) fun a hf => ?_)))))
 obtain ⟨y, hy, hF⟩ := bind_some hF
 refine wl0 rfl (op_call hf TF.cl86 rfl (by decide) (impl_copyPlan_ok (S := fun _ => True) (Plan_mkv (x := p) (rep_true (α := List ByteArray) (H.get 2 rfl)) (rep_true (α := List Fiber) (H.get 1 rfl)) (rep_true (α := List Light) (H.get 0 rfl))) hy) fun v w a hp hf => ?_)
 obtain ⟨hb, F, hp2, hN⟩ := hp
 obtain ⟨A4, c4, F2, A5, c5, F3, A6, c6, F4, rfl, rfl, hl4, hl5, hl6⟩ := Plan_vo hp2
 have H := H.addOwn hb (X := [(⟨F2, MP.own F2 [(.slice A4 y.Network.Nodes.length c4)] (y.Network.Nodes : List ByteArray)⟩ : DI), (⟨F3, MP.own F3 [(.slice A5 y.Network.Fibers.length c5)] (y.Network.Fibers : List Fiber)⟩ : DI), (⟨F4, MP.own F4 [(.slice A6 y.Lights.length c6)] (y.Lights : List Light)⟩ : DI)]) (by simpa using hN.1) (ps1 hl4 (ps1 hl5 (ps1 hl6 ps0))) (by simpa using hN.2)
 have H := H.lend 0 rfl
 have H := H.lend 1 rfl
 have H := H.lend 2 rfl
 have H := H.frontD 2 rfl
 obtain ⟨Fs, E, H, -⟩ := H.thaw rfl
 have H := H.arg (p := MP.val [(.slice A p.Network.Nodes.length c)] p.Network.Nodes) hl
 have H := H.arg (p := MP.val [(.slice A2 p.Network.Fibers.length c2)] p.Network.Fibers) hl2
 have H := H.arg (p := MP.val [(.slice A3 p.Lights.length c3)] p.Lights) hl3
 have H := H.lend 0 rfl
 have H := H.lend 1 rfl
 refine wl0 rfl (op_alloc hf H TF.zv37 rfl (by decide) fun b3 a w hf H => ?_)
 refine wl0 rfl (op_storeB hf H 0 TF.sz37 rfl rfl rfl rfl rfl rfl (nle rfl) fun w H => ?_)
 refine wl_end (then_n (sq (sq (reg (pr 1 hf rfl rfl fun a hf => ?_)))))
 refine wl0 rfl (op_q hf (rq_loadB hf H TF.ls35 2 rfl rfl rfl) rfl (by decide) fun a hf => ?_)
 refine pr 2 hf rfl rfl fun a hf => ?_
 refine wl_end (then_n ?_)
 obtain ⟨out', hB1, hF⟩ := bind_some hF
 have hf := hf.prune [1, 2, 4, 6, 13, 14, 15] rfl
 have H := H.let [true, true, true] [true] [true, true] [0, 1, 2, 3, 4] rfl rfl rfl rfl
 refine loopC (fun (s : Int) (a : Act) (w : World) => match s with | i => Fr a 41 [(1, (.bool hitless)), (2, (.pointer (some ⟨b', 0, none⟩))), (4, (.pointer (some ⟨b2, 0, none⟩))), (6, (.pointer (some ⟨b3, 0, none⟩))), (13, (.slice A3 p.Lights.length c3)), (14, (.int .i64 (p.Lights.length : Int))), (15, (.int .i64 i))] ∧ Mem ⟨w0, []⟩ S [⟨b3, 37, [(.slice A4 y.Network.Nodes.length c4), (.slice A5 y.Network.Fibers.length c5), (.slice A6 y.Lights.length c6)]⟩, ⟨b2, 37, [(.slice none 0 0), (.slice none 0 0), (.slice none 0 0)]⟩, ⟨b', 37, [(.slice A p.Network.Nodes.length c), (.slice A2 p.Network.Fibers.length c2), (.slice A3 p.Lights.length c3)]⟩] [⟨.ow Fs, E, A6, c6, (y.Lights : List Light)⟩] [⟨F2, MP.own F2 [(.slice A4 y.Network.Nodes.length c4)] (y.Network.Nodes : List ByteArray)⟩, ⟨F3, MP.own F3 [(.slice A5 y.Network.Fibers.length c5)] (y.Network.Fibers : List Fiber)⟩] [(true, MP.val [(.slice A5 y.Network.Fibers.length c5)] (y.Network.Fibers : List Fiber)), (true, MP.val [(.slice A4 y.Network.Nodes.length c4)] (y.Network.Nodes : List ByteArray)), (false, MP.val [(.slice A3 p.Lights.length c3)] (p.Lights : List Light)), (false, MP.val [(.slice A2 p.Network.Fibers.length c2)] (p.Network.Fibers : List Fiber)), (false, MP.val [(.slice A p.Network.Nodes.length c)] (p.Network.Nodes : List ByteArray))] w) (fun k (s : Int) => impl_lowered_L1 fu p hitless y k s = some out') (fun s => out' = Out.next s) 0 fu hB1 ⟨hf, H⟩ (fun s h => by cases h) ?_ ?_
 ·rintro fk i a w hR1 hI
  replace hR1 : impl_lowered_L1 fu p hitless y (fk + 1) i = some out' := hR1
  rw [impl_lowered_L1] at hR1
  obtain ⟨hf, H⟩ := hI
  refine sq (reg (pr 1 hf rfl rfl fun a hf => ?_))
  refine wl_end (then_n (sq (iteB hR1 (fun hc hR1 => cd_t hf rfl hc ?_) fun hc hR1 => cd_f hf rfl hc ?_)))
  ·refine wp_skip (then_n (sq (wp_block (sq (reg (pr 1 hf rfl rfl fun a hf => ?_))))))
   obtain ⟨e, he, hR1⟩ := bind_some hR1
   refine wl0 rfl (op_iaddr hf H Tryz.underlying35 TF.sz112 2 rfl rfl rfl he (by decide) fun p2 o cs a hf hr H => ?_)
   obtain ⟨A7, c7, rfl, hl7⟩ := Light_cells hr
   have H := H.push (false, MP.val [(.slice A7 e.Route.Fibers.length c7)] e.Route.Fibers) hl7
   refine wl0 rfl (op_q hf (rq_loadIN hf H TF.la112 1 0 rfl rfl rfl rfl) rfl (by decide) fun a hf => ?_)
   refine wl0 rfl (op_alloc hf H TF.zv112 rfl (by decide) fun b4 a w hf H => ?_)
   refine pr 1 hf rfl rfl fun a hf => ?_
   refine wl0 rfl (op_storeB hf H 0 TF.sz112 rfl rfl rfl rfl rfl rfl (nle rfl) fun w H => ?_)
   refine wl_end (then_n (sq (reg (wl0 rfl (op_q hf (rq_loadBN hf H TF.la37 3 rfl rfl rfl rfl) rfl (by decide) fun a hf => ?_)))))
   refine pr 2 hf rfl rfl fun a hf => ?_
   obtain ⟨y2, hy2, hR1⟩ := bind_some hR1
   refine wl0 rfl (op_call hf TF.cl68 rfl (by decide) (impl_lowest_ok (S := fun _ => True) (Plan_mkv (x := p) (rep_true (α := List ByteArray) (H.get 6 rfl)) (rep_true (α := List Fiber) (H.get 5 rfl)) (rep_true (α := List Light) (H.get 4 rfl))) mk_int mk_bool hy2) fun v2 w a hp3 hf => ?_)
   obtain ⟨hb2, hp3⟩ := hp3
   obtain rfl := VR_int hp3
   have H := H.keep hb2
   refine pr 1 hf rfl rfl fun a hf => ?_
   refine wl_end (then_n (sq (reg (pr 3 hf rfl rfl fun a hf => ?_))))
   refine wl0 rfl (op_q hf (rq_loadB hf H TF.ls3 0 rfl rfl rfl) rfl (by decide) fun a hf => ?_)
   refine pr 1 hf rfl rfl fun a hf => ?_
   refine wl_end (then_n (iteB hR1 (fun hc2 hR1 => cd_t hf rfl hc2 ?_) fun hc2 hR1 => cd_f hf rfl hc2 ?_))
   ·refine sq (reg (pr 1 hf rfl rfl fun a hf => ?_))
    refine wl0 rfl (op_q hf (rq_loadB hf H TF.ls35 1 rfl rfl rfl) rfl (by decide) fun a hf => ?_)
    refine pr 2 hf rfl rfl fun a hf => ?_
    obtain ⟨e2, he2, hR1⟩ := bind_some hR1
    refine wl0 rfl (op_iaddrR hf H Tryz.underlying35 TF.sz112 0 rfl rfl rfl he2 (by decide) fun p3 o2 cs2 a hf hA hr2 hk => ?_)
    have hrk := hr2
    obtain ⟨A8, c8, rfl, hl8⟩ := Light_cells hr2
    have H := H.push (true, MP.val [(.slice A8 e2.Route.Fibers.length c8)] e2.Route.Fibers) hl8
    refine pr 2 hf rfl rfl fun a hf => ?_
    refine wl0 rfl (op_storeR (e' := ({ Id := e2.Id, Route := e2.Route, Block := ({ First := y2, Count := e2.Block.Count } : Block) } : Light)) (o := o2) (off := 3) hf H TF.sz3 0 rfl rfl rfl rfl rfl (nle rfl) rfl hA he2 (st_own fun F cs h => by obtain ⟨A0, c0, F0, rfl, rfl, l0⟩ := Light_own h; exact Light_ownmk (x := ({ Id := e2.Id, Route := e2.Route, Block := ({ First := y2, Count := e2.Block.Count } : Block) } : Light)) l0) fun w H => ?_)
    replace hf : Fr a 41 [(1, (.bool hitless)), (2, (.pointer (some ⟨b', 0, none⟩))), (4, (.pointer (some ⟨b2, 0, none⟩))), (6, (.pointer (some ⟨b3, 0, none⟩))), (7, (.int .i64 i)), (8, (.pointer (some ⟨b4, 0, none⟩))), (9, (.int .i64 y2)), (13, (.slice A3 p.Lights.length c3)), (14, (.int .i64 (p.Lights.length : Int))), (15, (.int .i64 i)), (16, (.bool (decide (i < (p.Lights.length : Int))))), (17, (.int .i64 i)), (18, (.pointer (some ⟨p2, o + 0, none⟩))), (19, (.agg #[(.int .i64 e.Id), (.int .i64 e.Route.Start), (.slice A7 e.Route.Fibers.length c7), (.int .i64 e.Block.First), (.int .i64 e.Block.Count)])), (20, (.agg #[(.slice A p.Network.Nodes.length c), (.slice A2 p.Network.Fibers.length c2), (.slice A3 p.Lights.length c3)])), (21, (.int .i64 i)), (22, (.bool hitless)), (23, (.int .i64 y2)), (24, (.int .i64 y2)), (25, (.pointer (some ⟨b4, 3, none⟩))), (26, (.pointer (some ⟨b4, 3, none⟩))), (27, (.int .i64 e.Block.First)), (28, (.bool (decide (y2 < e.Block.First)))), (29, (.pointer (some ⟨b3, 2, none⟩))), (30, (.slice A6 y.Lights.length c6)), (31, (.int .i64 i)), (32, (.int .i64 y2)), (33, (.pointer (some ⟨p3, o2 + 0, none⟩))), (34, (.pointer (some ⟨p3, o2 + 3, none⟩))), (35, (.pointer (some ⟨p3, o2 + 3, none⟩)))] := hf.prune [1, 2, 4, 6, 7, 8, 9, 13, 14, 15, 16, 17, 18, 19, 20, 21, 22, 23, 24, 25, 26, 27, 28, 29, 30, 31, 32, 33, 34, 35] rfl
    replace hf : Fr a 41 [(1, (.bool hitless)), (2, (.pointer (some ⟨b', 0, none⟩))), (4, (.pointer (some ⟨b2, 0, none⟩))), (6, (.pointer (some ⟨b3, 0, none⟩))), (7, (.int .i64 i)), (8, (.pointer (some ⟨b4, 0, none⟩))), (9, (.int .i64 y2)), (13, (.slice A3 p.Lights.length c3)), (14, (.int .i64 (p.Lights.length : Int))), (15, (.int .i64 i)), (16, (.bool (decide (i < (p.Lights.length : Int))))), (17, (.int .i64 i)), (18, (.pointer (some ⟨p2, o + 0, none⟩))), (19, (.agg #[(.int .i64 e.Id), (.int .i64 e.Route.Start), (.slice A7 e.Route.Fibers.length c7), (.int .i64 e.Block.First), (.int .i64 e.Block.Count)])), (20, (.agg #[(.slice A p.Network.Nodes.length c), (.slice A2 p.Network.Fibers.length c2), (.slice A3 p.Lights.length c3)])), (21, (.int .i64 i)), (22, (.bool hitless)), (23, (.int .i64 y2)), (24, (.int .i64 y2)), (25, (.pointer (some ⟨b4, 3, none⟩))), (26, (.pointer (some ⟨b4, 3, none⟩))), (27, (.int .i64 e.Block.First)), (28, (.bool (decide (y2 < e.Block.First)))), (29, (.pointer (some ⟨b3, 2, none⟩))), (30, (.slice A6 (y.Lights.set (i).toNat ({ Id := e2.Id, Route := e2.Route, Block := ({ First := y2, Count := e2.Block.Count } : Block) } : Light)).length c6)), (31, (.int .i64 i)), (32, (.int .i64 y2)), (33, (.pointer (some ⟨p3, o2 + 0, none⟩))), (34, (.pointer (some ⟨p3, o2 + 3, none⟩))), (35, (.pointer (some ⟨p3, o2 + 3, none⟩)))] := by simpa only [List.length_set, Nat.add_zero] using hf
    replace H : Mem ⟨w0, []⟩ S [⟨b4, 112, [(.int .i64 e.Id), (.int .i64 e.Route.Start), (.slice A7 e.Route.Fibers.length c7), (.int .i64 e.Block.First), (.int .i64 e.Block.Count)]⟩, ⟨b3, 37, [(.slice A4 y.Network.Nodes.length c4), (.slice A5 y.Network.Fibers.length c5), (.slice A6 (y.Lights.set (i).toNat ({ Id := e2.Id, Route := e2.Route, Block := ({ First := y2, Count := e2.Block.Count } : Block) } : Light)).length c6)]⟩, ⟨b2, 37, [(.slice none 0 0), (.slice none 0 0), (.slice none 0 0)]⟩, ⟨b', 37, [(.slice A p.Network.Nodes.length c), (.slice A2 p.Network.Fibers.length c2), (.slice A3 p.Lights.length c3)]⟩] [⟨.ow Fs, E, A6, c6, (y.Lights.set (i).toNat ({ Id := e2.Id, Route := e2.Route, Block := ({ First := y2, Count := e2.Block.Count } : Block) } : Light) : List Light)⟩] [⟨F2, MP.own F2 [(.slice A4 y.Network.Nodes.length c4)] (y.Network.Nodes : List ByteArray)⟩, ⟨F3, MP.own F3 [(.slice A5 y.Network.Fibers.length c5)] (y.Network.Fibers : List Fiber)⟩] [(true, MP.val [(.slice A8 e2.Route.Fibers.length c8)] (e2.Route.Fibers : List Int)), (false, MP.val [(.slice A7 e.Route.Fibers.length c7)] (e.Route.Fibers : List Int)), (false, MP.cells ⟨p2, o, none⟩ [(.int .i64 e.Id), (.int .i64 e.Route.Start), (.slice A7 e.Route.Fibers.length c7), (.int .i64 e.Block.First), (.int .i64 e.Block.Count)]), (true, MP.val [(.slice A5 y.Network.Fibers.length c5)] (y.Network.Fibers : List Fiber)), (true, MP.val [(.slice A4 y.Network.Nodes.length c4)] (y.Network.Nodes : List ByteArray)), (false, MP.val [(.slice A3 p.Lights.length c3)] (p.Lights : List Light)), (false, MP.val [(.slice A2 p.Network.Fibers.length c2)] (p.Network.Fibers : List Fiber)), (false, MP.val [(.slice A p.Network.Nodes.length c)] (p.Network.Nodes : List ByteArray))] w := by simp only [List.length_set]; exact H
    have hf := hf.prune [4, 6, 8] rfl
    refine wl_end (then_n (sq (drawn [3] (bs := [false, false, false, false, false]) (fuel := 5) (Checked.mixed Tryz.checked) rfl rfl fun w hb => ?_)))
    have H := H.keep hb
    refine strT (H.let [false, true, false, false] [false] [false, false] [] rfl rfl rfl rfl) (fun w H => trivial) fun hS => ?_
    refine tS 0 [0, 3, 4] rfl rfl rfl rfl hf (by kernel_rfl) (by kernel_rfl) hS (fun w H => rq_loadBN hf H TF.la37 0 rfl rfl rfl rfl) fun a hf => ?_
    refine tp 1 rfl rfl hf (by kernel_rfl) (fun _ => hS) rfl fun a hf => ?_
    refine on2 (i := 2) (j := 3) (bi := [true, true, true, false, false]) (bj := [true, true, false, true, false]) (by kernel_rfl) rfl rfl rfl rfl rfl rfl ?_ ?_
    ·refine (op_q hf (rq_loadB hf H TF.ls3 0 rfl rfl rfl) rfl (by decide) fun a hf => ?_)
     have hS := H.let [false, true, false, false] [false] [false, false] [] rfl rfl rfl rfl
     refine ⟨fun _ => hS, ?_⟩
     refine n1 3 (by kernel_rfl) rfl rfl (op_storeB hf H 2 TF.sz37 rfl rfl rfl rfl rfl rfl (nle rfl) fun w H => ?_)
     refine ⟨fun h => absurd h (by decide), ?_⟩
     refine tp 4 rfl rfl hf (by kernel_rfl) (fun h => absurd h (by decide)) rfl fun a hf => ?_
     refine dn (by kernel_rfl) ?_
     refine then_n (wp_ret (blk_r (then_r (then_r (blk_r (then_r (then_r (?_))))))))
     obtain ⟨F5, H⟩ := H.freezeOwn 0 rfl
     have H := H.lend 0 rfl
     have H := H.frontD 2 rfl
     have H := H.frontD 2 rfl
     obtain rfl := Option.some.inj hR1
     replace hF := on_ret hF
     obtain rfl := Option.some.inj hF
     refine ret_2 (fn := Tryz.f73) (r := .cell 4 37) (s := .tmp 5) hf rfl (rv_cellN hf H 2 TF.la37 rfl rfl rfl) (rv_tmp hf rfl) ?_
     have hN := H.ends (X := [(⟨F2, MP.own F2 [(.slice A4 y.Network.Nodes.length c4)] (y.Network.Nodes : List ByteArray)⟩ : DI), (⟨F3, MP.own F3 [(.slice A5 y.Network.Fibers.length c5)] (y.Network.Fibers : List Fiber)⟩ : DI), (⟨F5, MP.own F5 [(.slice A6 (y.Lights.set (i).toNat ({ Id := e2.Id, Route := e2.Route, Block := ({ First := y2, Count := e2.Block.Count } : Block) } : Light)).length c6)] (y.Lights.set (i).toNat ({ Id := e2.Id, Route := e2.Route, Block := ({ First := y2, Count := e2.Block.Count } : Block) } : Light) : List Light)⟩ : DI)])
     simp only [List.flatMap_cons, List.flatMap_nil, List.append_nil, List.append_assoc] at hN
     exact ⟨_, rfl, H.bel, (F2 ++ (F3 ++ F5)), _, _, rfl, ⟨_, Plan_ownmk (x := ({ Network := y.Network, Lights := y.Lights.set (i).toNat ({ Id := e2.Id, Route := e2.Route, Block := ({ First := y2, Count := e2.Block.Count } : Block) } : Light) } : Plan)) (H.ownAt 0 rfl) (H.ownAt 1 rfl) (H.ownAt 2 rfl), rfl⟩, mk_int, hN⟩
    ·refine (op_storeB hf H 2 TF.sz37 rfl rfl rfl rfl rfl rfl (nle rfl) fun w H => ?_)
     refine ⟨fun h => absurd h (by decide), ?_⟩
     refine n1 2 (by kernel_rfl) rfl rfl (op_q hf (rq_loadB hf H TF.ls3 0 rfl rfl rfl) rfl (by decide) fun a hf => ?_)
     refine ⟨fun h => absurd h (by decide), ?_⟩
     refine tp 4 rfl rfl hf (by kernel_rfl) (fun h => absurd h (by decide)) rfl fun a hf => ?_
     refine dn (by kernel_rfl) ?_
     refine then_n (wp_ret (blk_r (then_r (then_r (blk_r (then_r (then_r (?_))))))))
     obtain ⟨F5, H⟩ := H.freezeOwn 0 rfl
     have H := H.lend 0 rfl
     have H := H.frontD 2 rfl
     have H := H.frontD 2 rfl
     obtain rfl := Option.some.inj hR1
     replace hF := on_ret hF
     obtain rfl := Option.some.inj hF
     refine ret_2 (fn := Tryz.f73) (r := .cell 4 37) (s := .tmp 5) hf rfl (rv_cellN hf H 2 TF.la37 rfl rfl rfl) (rv_tmp hf rfl) ?_
     have hN := H.ends (X := [(⟨F2, MP.own F2 [(.slice A4 y.Network.Nodes.length c4)] (y.Network.Nodes : List ByteArray)⟩ : DI), (⟨F3, MP.own F3 [(.slice A5 y.Network.Fibers.length c5)] (y.Network.Fibers : List Fiber)⟩ : DI), (⟨F5, MP.own F5 [(.slice A6 (y.Lights.set (i).toNat ({ Id := e2.Id, Route := e2.Route, Block := ({ First := y2, Count := e2.Block.Count } : Block) } : Light)).length c6)] (y.Lights.set (i).toNat ({ Id := e2.Id, Route := e2.Route, Block := ({ First := y2, Count := e2.Block.Count } : Block) } : Light) : List Light)⟩ : DI)])
     simp only [List.flatMap_cons, List.flatMap_nil, List.append_nil, List.append_assoc] at hN
     exact ⟨_, rfl, H.bel, (F2 ++ (F3 ++ F5)), _, _, rfl, ⟨_, Plan_ownmk (x := ({ Network := y.Network, Lights := y.Lights.set (i).toNat ({ Id := e2.Id, Route := e2.Route, Block := ({ First := y2, Count := e2.Block.Count } : Block) } : Light) } : Plan)) (H.ownAt 0 rfl) (H.ownAt 1 rfl) (H.ownAt 2 rfl), rfl⟩, mk_int, hN⟩
   ·refine wp_skip (blk_n (then_n (reg (pr 2 hf rfl rfl fun a hf => ?_))))
    have hf := hf.prune [1, 2, 4, 6, 13, 14, 15] rfl
    refine wl_end ?_
    have hf := hf.prune [1, 2, 4, 6, 13, 14, 15] rfl
    have H := H.let [false, true, true, true] [true] [true, true] [2, 3, 4, 5, 6] rfl rfl rfl rfl
    exact then_n ⟨w64 (i + 1), hR1, hf, H⟩
  ·refine wp_exit (then_x (then_x (blk_e (?_))))
   have hf := hf.prune [1, 2, 4, 6, 13, 14, 15] rfl
   have H := H.let [true, true, true] [true] [true, true] [0, 1, 2, 3, 4] rfl rfl rfl rfl
   exact ⟨i, (Option.some.inj hR1).symm, hf, H⟩
 rintro a w ⟨i2, rfl, hf, H⟩
 replace hF := on_next hF
 refine then_n (sq (reg (wl0 rfl (op_q hf (rq_loadBN hf H TF.la37 0 rfl rfl rfl rfl) rfl (by decide) fun a hf => ?_))))
 refine wl0 rfl (op_storeB hf H 1 TF.sz37 rfl rfl rfl rfl rfl rfl (nle rfl) fun w H => ?_)
 refine pr 1 hf rfl rfl fun a hf => ?_
 refine wl_end (then_n (wp_ret (?_)))
 obtain ⟨F6, H⟩ := H.freezeOwn 0 rfl
 have H := H.lend 0 rfl
 have H := H.frontD 2 rfl
 have H := H.frontD 2 rfl
 obtain rfl := Option.some.inj hF
 refine ret_2 (fn := Tryz.f73) (r := .cell 4 37) (s := .tmp 5) hf rfl (rv_cellN hf H 1 TF.la37 rfl rfl rfl) (rv_tmp hf rfl) ?_
 have hN := H.ends (X := [(⟨F2, MP.own F2 [(.slice A4 y.Network.Nodes.length c4)] (y.Network.Nodes : List ByteArray)⟩ : DI), (⟨F3, MP.own F3 [(.slice A5 y.Network.Fibers.length c5)] (y.Network.Fibers : List Fiber)⟩ : DI), (⟨F6, MP.own F6 [(.slice A6 y.Lights.length c6)] (y.Lights : List Light)⟩ : DI)])
 simp only [List.flatMap_cons, List.flatMap_nil, List.append_nil, List.append_assoc] at hN
 exact ⟨_, rfl, H.bel, (F2 ++ (F3 ++ F6)), _, _, rfl, ⟨_, Plan_ownmk (x := y) (H.ownAt 0 rfl) (H.ownAt 1 rfl) (H.ownAt 2 rfl), rfl⟩, mk_int, hN⟩

/- loop.example/g00897/impl.IsCompact -/
set_option maxHeartbeats 1000000 in
theorem impl_IsCompact_ok {fu : Nat} {w0 : World} {S : Nat → Prop} {v0_ : Value} {v1_ : Value} {p : Plan} {hitless : Bool} {r : Bool × Bool} (h0 : VR w0 S v0_ p) (h1 : VR w0 S v1_ hitless) (hF : impl_IsCompact fu p hitless = some r) :
    Calls Tryz.prog 21 [v0_, v1_].toArray w0 fun e w' => ∃ v, e = .returned v ∧ (Below w0.heap.size w0 w' ∧ ∃ u0 u1, v = .tuple #[u0, u1] ∧ VR w' (St ⟨w0, []⟩ S [] [] [] true) u0 r.1 ∧ VR w' (St ⟨w0, []⟩ S [] [] [] true) u1 r.2) := by
 obtain ⟨A, c, A2, c2, A3, c3, rfl, hl, hl2, hl3⟩ := Plan_open h0
 obtain rfl := VR_bool h1
 have H := Mem.start ⟨w0, []⟩ S
 have H := H.pushArg (MP.val [(.slice A p.Network.Nodes.length c)] p.Network.Nodes) hl
 have H := H.pushArg (MP.val [(.slice A2 p.Network.Fibers.length c2)] p.Network.Fibers) hl2
 have H := H.pushArg (MP.val [(.slice A3 p.Lights.length c3)] p.Lights) hl3
 refine enter Tryz.func21 rfl rfl (nle rfl) rfl fun a hf => ?_
 rw [impl_IsCompact] at hF
 refine sq (reg (wl0 rfl (op_box hf H rfl rfl (by decide) fun b' a w hf H => ?_)))
 refine pr 2 hf rfl rfl fun a hf => ?_
 refine wl_end (then_n (sq (sq (reg (wl0 rfl (op_q hf (rq_loadBN hf H TF.la37 0 rfl rfl rfl rfl) rfl (by decide) fun a hf => ?_))))))
 obtain ⟨y, hy, hF⟩ := bind_some hF
 refine wl0 rfl (op_call hf TF.cl72 rfl (by decide) (impl_IsValidPlan_ok (S := fun _ => True) (Plan_mkv (x := p) (rep_true (α := List ByteArray) (H.get 2 rfl)) (rep_true (α := List Fiber) (H.get 1 rfl)) (rep_true (α := List Light) (H.get 0 rfl))) hy) fun v w a hp hf => ?_)
 obtain ⟨hb, hp⟩ := hp
 obtain rfl := VR_bool hp
 have H := H.keep hb
 refine pr 1 hf rfl rfl fun a hf => ?_
 refine wl_end (then_n (iteB hF (fun hc hF => cd_t hf rfl hc ?_) fun hc hF => cd_f hf rfl hc ?_))
 ·refine sq (reg (pr 2 hf rfl rfl fun a hf => ?_))
  refine wl_end (then_n (wp_ret (then_r (?_))))
  obtain rfl := Option.some.inj hF
  refine ret_2 (fn := Tryz.f21) (r := .tmp 4) (s := .tmp 5) hf rfl (rv_tmp hf rfl) (rv_tmp hf rfl) ?_
  exact ⟨_, rfl, H.bel, _, _, rfl, mk_bool, mk_bool⟩
 ·refine wp_skip (then_n (sq (reg (wl0 rfl (op_q hf (rq_loadBN hf H TF.la37 0 rfl rfl rfl rfl) rfl (by decide) fun a hf => ?_)))))
  refine pr 1 hf rfl rfl fun a hf => ?_
  obtain ⟨y2, hy2, hF⟩ := bind_some hF
  refine wl0 rfl (op_call hf TF.cl73 rfl (by decide) (impl_lowered_ok (S := fun _ => True) (Plan_mkv (x := p) (rep_true (α := List ByteArray) (H.get 2 rfl)) (rep_true (α := List Fiber) (H.get 1 rfl)) (rep_true (α := List Light) (H.get 0 rfl))) mk_bool hy2) fun v2 w a hp2 hf => ?_)
  obtain ⟨hb2, F, v3, v4, rfl, hp3, hp4, hN⟩ := hp2
  obtain ⟨A4, c4, F2, A5, c5, F3, A6, c6, F4, rfl, rfl, hl4, hl5, hl6⟩ := Plan_vo hp3
  obtain rfl := VR_int hp4
  have H := H.addOwn hb2 (X := [(⟨F2, MP.own F2 [(.slice A4 y2.1.Network.Nodes.length c4)] (y2.1.Network.Nodes : List ByteArray)⟩ : DI), (⟨F3, MP.own F3 [(.slice A5 y2.1.Network.Fibers.length c5)] (y2.1.Network.Fibers : List Fiber)⟩ : DI), (⟨F4, MP.own F4 [(.slice A6 y2.1.Lights.length c6)] (y2.1.Lights : List Light)⟩ : DI)]) (by simpa using hN.1) (ps1 hl4 (ps1 hl5 (ps1 hl6 ps0))) (by simpa using hN.2)
  have H := H.lend 0 rfl
  have H := H.lend 1 rfl
  have H := H.lend 2 rfl
  refine pr 3 hf rfl rfl fun a hf => ?_
  refine wl0 rfl (op_alloc hf H TF.zv37 rfl (by decide) fun b2 a w hf H => ?_)
  refine wl0 rfl (op_storeB hf H 0 TF.sz37 rfl rfl rfl rfl rfl rfl (nle rfl) fun w H => ?_)
  refine pr 1 hf rfl rfl fun a hf => ?_
  have hf := hf.prune [7] rfl
  refine wl_end (then_n (sq (reg (pr 4 hf rfl rfl fun a hf => ?_))))
  refine wl_end (then_n (wp_ret (?_)))
  obtain rfl := Option.some.inj hF
  refine ret_2 (fn := Tryz.f21) (r := .tmp 4) (s := .tmp 5) hf rfl (rv_tmp hf rfl) (rv_tmp hf rfl) ?_
  exact ⟨_, rfl, H.bel, _, _, rfl, mk_bool, mk_bool⟩

/- loop.example/g00897/laws.eqStringS -/
set_option maxHeartbeats 1000000 in
theorem laws_eqStringS_ok {fu : Nat} {w0 : World} {S : Nat → Prop} {v0_ : Value} {v1_ : Value} {a' : List ByteArray} {b' : List ByteArray} {r : Bool} (h0 : VR w0 S v0_ a') (h1 : VR w0 S v1_ b') (hF : laws_eqStringS fu a' b' = some r) :
    Calls Tryz.prog 131 [v0_, v1_].toArray w0 fun e w' => ∃ v, e = .returned v ∧ (Below w0.heap.size w0 w' ∧ VR w' (St ⟨w0, []⟩ S [] [] [] true) v r) := by
 obtain ⟨A, c, rfl, hl⟩ := VR_list h0
 obtain ⟨A2, c2, rfl, hl2⟩ := VR_list h1
 have H := Mem.start ⟨w0, []⟩ S
 have H := H.pushArg (MP.val [(.slice A a'.length c)] a') hl
 have H := H.pushArg (MP.val [(.slice A2 b'.length c2)] b') hl2
 refine enter Tryz.func131 rfl rfl (nle rfl) rfl fun a hf => ?_
 rw [laws_eqStringS] at hF
 refine sq (reg (pr 1 hf rfl rfl fun a hf => ?_))
 refine wl_end (then_n (sq (sq (reg (pr 5 hf rfl rfl fun a hf => ?_)))))
 refine wl_end (then_n (iteB hF (fun hc hF => cd_t hf rfl hc ?_) fun hc hF => cd_f hf rfl hc ?_))
 ·refine sq (reg (pr 1 hf rfl rfl fun a hf => ?_))
  refine wl_end (then_n (wp_ret (then_r (?_))))
  obtain rfl := Option.some.inj hF
  refine ret_1 (fn := Tryz.f131) (r := .tmp 4) hf rfl (rv_tmp hf rfl) ?_
  exact ⟨_, rfl, H.bel, mk_bool⟩
 ·refine wp_skip (then_n (sq (sq (reg (pr 1 hf rfl rfl fun a hf => ?_)))))
  refine wl_end (then_n ?_)
  obtain ⟨out', hB1, hF⟩ := bind_some hF
  have hf := hf.prune [0, 1, 5] rfl
  have H := H.let [] [] [] [0, 1] rfl rfl rfl rfl
  refine loopC (fun (s : Int) (a : Act) (w : World) => match s with | i => Fr a 26 [(0, (.slice A a'.length c)), (1, (.slice A2 b'.length c2)), (5, (.int .i64 i))] ∧ Mem ⟨w0, []⟩ S [] [] [] [(false, MP.val [(.slice A2 b'.length c2)] (b' : List ByteArray)), (false, MP.val [(.slice A a'.length c)] (a' : List ByteArray))] w) (fun k (s : Int) => laws_eqStringS_L1 fu a' b' k s = some out') (fun s => out' = Out.next s) 0 fu hB1 ⟨hf, H⟩ (fun s h => by cases h) ?_ ?_
  ·rintro fk i a w hR1 hI
   replace hR1 : laws_eqStringS_L1 fu a' b' (fk + 1) i = some out' := hR1
   rw [laws_eqStringS_L1] at hR1
   obtain ⟨hf, H⟩ := hI
   refine sq (sq (reg (pr 4 hf rfl rfl fun a hf => ?_)))
   refine wl_end (then_n (iteB hR1 (fun hc2 hR1 => cd_t hf rfl hc2 ?_) fun hc2 hR1 => cd_f hf rfl hc2 ?_))
   ·refine wp_skip (then_n (sq (wp_block (sq (drawn [] (bs := [false, false, false, false, false, false, false, false, false]) (fuel := 9) (Checked.mixed Tryz.checked) rfl rfl fun w hb => ?_)))))
    have H := H.keep hb
    refine tp 0 rfl rfl hf (by kernel_rfl) (fun _ => trivial) rfl fun a hf => ?_
    refine tp 1 rfl rfl hf (by kernel_rfl) (fun _ => trivial) rfl fun a hf => ?_
    obtain ⟨e, he, hR1⟩ := bind_some hR1
    obtain ⟨p, o, cs, hx, hr, H⟩ := pre_iaddr H Tryz.underlying22 TF.sz9 1 rfl he
    refine tP 2 rfl rfl rfl rfl hf (by kernel_rfl) (fun _ => trivial) (fun w => rq_iaddrE hf rfl rfl rfl hx w) fun a hf => ?_
    obtain rfl := hr
    refine strT (H.let [] [] [] [0] rfl rfl rfl rfl) (fun w H => trivial) fun hS => ?_
    refine tS 3 [] rfl rfl rfl rfl hf (by kernel_rfl) (by kernel_rfl) hS (fun w H => rq_loadI hf H TF.ls9 0 0 rfl rfl rfl) fun a hf => ?_
    refine tp 4 rfl rfl hf (by kernel_rfl) (fun _ => hS) rfl fun a hf => ?_
    refine tp 5 rfl rfl hf (by kernel_rfl) (fun _ => hS) rfl fun a hf => ?_
    obtain ⟨e2, he2, hR1⟩ := bind_some hR1
    obtain ⟨p2, o2, cs2, hx2, hr2, H⟩ := pre_iaddr H Tryz.underlying22 TF.sz9 1 rfl he2
    refine tP 6 rfl rfl rfl rfl hf (by kernel_rfl) (fun _ => hS) (fun w => rq_iaddrE hf rfl rfl rfl hx2 w) fun a hf => ?_
    obtain rfl := hr2
    refine strT (H.let [] [] [] [0, 1] rfl rfl rfl rfl) (fun w H => H.let [] [] [] [1] rfl rfl rfl rfl) fun hS => ?_
    refine tS 7 [] rfl rfl rfl rfl hf (by kernel_rfl) (by kernel_rfl) hS (fun w H => rq_loadI hf H TF.ls9 0 0 rfl rfl rfl) fun a hf => ?_
    refine tp 8 rfl rfl hf (by kernel_rfl) (fun _ => hS) rfl fun a hf => ?_
    refine dn (by kernel_rfl) ?_
    refine then_n (iteB hR1 (fun hc3 hR1 => cd_t hf rfl hc3 ?_) fun hc3 hR1 => cd_f hf rfl hc3 ?_)
    ·refine sq (reg (pr 1 hf rfl rfl fun a hf => ?_))
     have hf := hf.prune [4] rfl
     refine wl_end (then_n (wp_ret (blk_r (then_r (then_r (blk_r (then_r (then_r (?_)))))))))
     obtain rfl := Option.some.inj hR1
     replace hF := on_ret hF
     obtain rfl := Option.some.inj hF
     refine ret_1 (fn := Tryz.f131) (r := .tmp 4) hf rfl (rv_tmp hf rfl) ?_
     exact ⟨_, rfl, H.bel, mk_bool⟩
    ·refine wp_skip (blk_n (then_n (reg (pr 3 hf rfl rfl fun a hf => ?_))))
     have hf := hf.prune [0, 1, 5] rfl
     refine wl_end ?_
     have hf := hf.prune [0, 1, 5] rfl
     have H := H.let [] [] [] [2, 3] rfl rfl rfl rfl
     exact then_n ⟨w64 (i + 1), hR1, hf, H⟩
   ·refine wp_exit (then_x (then_x (blk_e (?_))))
    have hf := hf.prune [0, 1, 5] rfl
    have H := H.let [] [] [] [0, 1] rfl rfl rfl rfl
    exact ⟨i, (Option.some.inj hR1).symm, hf, H⟩
  rintro a w ⟨i2, rfl, hf, H⟩
  replace hF := on_next hF
  refine then_n (sq (reg (pr 1 hf rfl rfl fun a hf => ?_)))
  refine wl_end (then_n (wp_ret (?_)))
  obtain rfl := Option.some.inj hF
  refine ret_1 (fn := Tryz.f131) (r := .tmp 4) hf rfl (rv_tmp hf rfl) ?_
  exact ⟨_, rfl, H.bel, mk_bool⟩

/- loop.example/g00897/laws.eqFiber -/
set_option maxHeartbeats 1000000 in
theorem laws_eqFiber_ok {fu : Nat} {w0 : World} {S : Nat → Prop} {v0_ : Value} {v1_ : Value} {a' : Fiber} {b' : Fiber} {r : Bool} (h0 : VR w0 S v0_ a') (h1 : VR w0 S v1_ b') (hF : laws_eqFiber fu a' b' = some r) :
    Calls Tryz.prog 189 [v0_, v1_].toArray w0 fun e w' => ∃ v, e = .returned v ∧ (Below w0.heap.size w0 w' ∧ VR w' (St ⟨w0, []⟩ S [] [] [] true) v r) := by
 obtain rfl := Fiber_open h0
 obtain rfl := Fiber_open h1
 have H := Mem.start ⟨w0, []⟩ S
 refine enter Tryz.func189 rfl rfl (nle rfl) rfl fun a hf => ?_
 rw [laws_eqFiber] at hF
 refine sq (reg (wl0 rfl (op_box hf H rfl rfl (by decide) fun b2 a w hf H => ?_)))
 refine wl0 rfl (op_box hf H rfl rfl (by decide) fun b3 a w hf H => ?_)
 refine pr 1 hf rfl rfl fun a hf => ?_
 refine wl_end (then_n (sq (sq (reg (pr 1 hf rfl rfl fun a hf => ?_)))))
 refine wl0 rfl (op_q hf (rq_loadB hf H TF.ls3 1 rfl rfl rfl) rfl (by decide) fun a hf => ?_)
 refine pr 1 hf rfl rfl fun a hf => ?_
 refine wl0 rfl (op_q hf (rq_loadB hf H TF.ls3 0 rfl rfl rfl) rfl (by decide) fun a hf => ?_)
 refine pr 1 hf rfl rfl fun a hf => ?_
 refine wl_end (then_n (iteB hF (fun hc hF => cd_t hf rfl hc ?_) fun hc hF => cd_f hf rfl hc ?_))
 ·refine sq (reg (pr 1 hf rfl rfl fun a hf => ?_))
  refine wl_end (then_n (wp_ret (then_r (?_))))
  obtain rfl := Option.some.inj hF
  refine ret_1 (fn := Tryz.f189) (r := .tmp 4) hf rfl (rv_tmp hf rfl) ?_
  exact ⟨_, rfl, H.bel, mk_bool⟩
 ·refine wp_skip (then_n (sq (sq (reg (pr 1 hf rfl rfl fun a hf => ?_)))))
  refine wl0 rfl (op_q hf (rq_loadB hf H TF.ls3 1 rfl rfl rfl) rfl (by decide) fun a hf => ?_)
  refine pr 1 hf rfl rfl fun a hf => ?_
  refine wl0 rfl (op_q hf (rq_loadB hf H TF.ls3 0 rfl rfl rfl) rfl (by decide) fun a hf => ?_)
  refine pr 1 hf rfl rfl fun a hf => ?_
  refine wl_end (then_n (iteB hF (fun hc2 hF => cd_t hf rfl hc2 ?_) fun hc2 hF => cd_f hf rfl hc2 ?_))
  ·refine sq (reg (pr 1 hf rfl rfl fun a hf => ?_))
   have hf := hf.prune [4] rfl
   refine wl_end (then_n (wp_ret (then_r (?_))))
   obtain rfl := Option.some.inj hF
   refine ret_1 (fn := Tryz.f189) (r := .tmp 4) hf rfl (rv_tmp hf rfl) ?_
   exact ⟨_, rfl, H.bel, mk_bool⟩
  ·refine wp_skip (then_n (sq (sq (reg (pr 1 hf rfl rfl fun a hf => ?_)))))
   refine wl0 rfl (op_q hf (rq_loadB hf H TF.ls3 1 rfl rfl rfl) rfl (by decide) fun a hf => ?_)
   refine pr 1 hf rfl rfl fun a hf => ?_
   refine wl0 rfl (op_q hf (rq_loadB hf H TF.ls3 0 rfl rfl rfl) rfl (by decide) fun a hf => ?_)
   refine pr 1 hf rfl rfl fun a hf => ?_
   have hf := hf.prune [2, 3, 19] rfl
   refine wl_end (then_n (iteB hF (fun hc3 hF => cd_t hf rfl hc3 ?_) fun hc3 hF => cd_f hf rfl hc3 ?_))
   ·refine sq (reg (pr 1 hf rfl rfl fun a hf => ?_))
    refine wl_end (then_n (wp_ret (then_r (?_))))
    obtain rfl := Option.some.inj hF
    refine ret_1 (fn := Tryz.f189) (r := .tmp 4) hf rfl (rv_tmp hf rfl) ?_
    exact ⟨_, rfl, H.bel, mk_bool⟩
   ·refine wp_skip (then_n (sq (sq (reg (pr 1 hf rfl rfl fun a hf => ?_)))))
    refine wl0 rfl (op_q hf (rq_loadB hf H TF.ls3 1 rfl rfl rfl) rfl (by decide) fun a hf => ?_)
    refine pr 1 hf rfl rfl fun a hf => ?_
    refine wl0 rfl (op_q hf (rq_loadB hf H TF.ls3 0 rfl rfl rfl) rfl (by decide) fun a hf => ?_)
    refine pr 1 hf rfl rfl fun a hf => ?_
    refine wl_end (then_n (iteB hF (fun hc4 hF => cd_t hf rfl hc4 ?_) fun hc4 hF => cd_f hf rfl hc4 ?_))
    ·refine sq (reg (pr 1 hf rfl rfl fun a hf => ?_))
     refine wl_end (then_n (wp_ret (then_r (?_))))
     obtain rfl := Option.some.inj hF
     refine ret_1 (fn := Tryz.f189) (r := .tmp 4) hf rfl (rv_tmp hf rfl) ?_
     exact ⟨_, rfl, H.bel, mk_bool⟩
    ·refine wp_skip (then_n (sq (reg (pr 1 hf rfl rfl fun a hf => ?_))))
     refine wl_end (then_n (wp_ret (?_)))
     obtain rfl := Option.some.inj hF
     refine ret_1 (fn := Tryz.f189) (r := .tmp 4) hf rfl (rv_tmp hf rfl) ?_
     exact ⟨_, rfl, H.bel, mk_bool⟩

/- loop.example/g00897/laws.eqFiberS -/
set_option maxHeartbeats 1000000 in
theorem laws_eqFiberS_ok {fu : Nat} {w0 : World} {S : Nat → Prop} {v0_ : Value} {v1_ : Value} {a' : List Fiber} {b' : List Fiber} {r : Bool} (h0 : VR w0 S v0_ a') (h1 : VR w0 S v1_ b') (hF : laws_eqFiberS fu a' b' = some r) :
    Calls Tryz.prog 132 [v0_, v1_].toArray w0 fun e w' => ∃ v, e = .returned v ∧ (Below w0.heap.size w0 w' ∧ VR w' (St ⟨w0, []⟩ S [] [] [] true) v r) := by
 obtain ⟨A, c, rfl, hl⟩ := VR_list h0
 obtain ⟨A2, c2, rfl, hl2⟩ := VR_list h1
 have H := Mem.start ⟨w0, []⟩ S
 have H := H.pushArg (MP.val [(.slice A a'.length c)] a') hl
 have H := H.pushArg (MP.val [(.slice A2 b'.length c2)] b') hl2
 refine enter Tryz.func132 rfl rfl (nle rfl) rfl fun a hf => ?_
 rw [laws_eqFiberS] at hF
 refine sq (reg (pr 1 hf rfl rfl fun a hf => ?_))
 refine wl_end (then_n (sq (sq (reg (pr 5 hf rfl rfl fun a hf => ?_)))))
 refine wl_end (then_n (iteB hF (fun hc hF => cd_t hf rfl hc ?_) fun hc hF => cd_f hf rfl hc ?_))
 ·refine sq (reg (pr 1 hf rfl rfl fun a hf => ?_))
  refine wl_end (then_n (wp_ret (then_r (?_))))
  obtain rfl := Option.some.inj hF
  refine ret_1 (fn := Tryz.f132) (r := .tmp 4) hf rfl (rv_tmp hf rfl) ?_
  exact ⟨_, rfl, H.bel, mk_bool⟩
 ·refine wp_skip (then_n (sq (sq (reg (pr 1 hf rfl rfl fun a hf => ?_)))))
  refine wl_end (then_n ?_)
  obtain ⟨out', hB1, hF⟩ := bind_some hF
  have hf := hf.prune [0, 1, 5] rfl
  have H := H.let [] [] [] [0, 1] rfl rfl rfl rfl
  refine loopC (fun (s : Int) (a : Act) (w : World) => match s with | i => Fr a 27 [(0, (.slice A a'.length c)), (1, (.slice A2 b'.length c2)), (5, (.int .i64 i))] ∧ Mem ⟨w0, []⟩ S [] [] [] [(false, MP.val [(.slice A2 b'.length c2)] (b' : List Fiber)), (false, MP.val [(.slice A a'.length c)] (a' : List Fiber))] w) (fun k (s : Int) => laws_eqFiberS_L1 fu a' b' k s = some out') (fun s => out' = Out.next s) 0 fu hB1 ⟨hf, H⟩ (fun s h => by cases h) ?_ ?_
  ·rintro fk i a w hR1 hI
   replace hR1 : laws_eqFiberS_L1 fu a' b' (fk + 1) i = some out' := hR1
   rw [laws_eqFiberS_L1] at hR1
   obtain ⟨hf, H⟩ := hI
   refine sq (sq (reg (pr 4 hf rfl rfl fun a hf => ?_)))
   refine wl_end (then_n (iteB hR1 (fun hc2 hR1 => cd_t hf rfl hc2 ?_) fun hc2 hR1 => cd_f hf rfl hc2 ?_))
   ·refine wp_skip (then_n (sq (wp_block (sq (drawn [] (bs := [false, false, false, false, false, false, false, false, false, false]) (fuel := 10) (Checked.mixed Tryz.checked) rfl rfl fun w hb => ?_)))))
    have H := H.keep hb
    refine tp 0 rfl rfl hf (by kernel_rfl) (fun _ => trivial) rfl fun a hf => ?_
    refine tp 1 rfl rfl hf (by kernel_rfl) (fun _ => trivial) rfl fun a hf => ?_
    obtain ⟨e, he, hR1⟩ := bind_some hR1
    obtain ⟨p, o, cs, hx, hr, H⟩ := pre_iaddr H Tryz.underlying32 TF.sz120 1 rfl he
    refine tP 2 rfl rfl rfl rfl hf (by kernel_rfl) (fun _ => trivial) (fun w => rq_iaddrE hf rfl rfl rfl hx w) fun a hf => ?_
    obtain rfl := Fiber_cells hr
    refine strT (H.let [] [] [] [0] rfl rfl rfl rfl) (fun w H => trivial) fun hS => ?_
    refine tS 3 [] rfl rfl rfl rfl hf (by kernel_rfl) (by kernel_rfl) hS (fun w H => rq_loadIN hf H TF.la120 0 0 rfl rfl rfl rfl) fun a hf => ?_
    refine tp 4 rfl rfl hf (by kernel_rfl) (fun _ => hS) rfl fun a hf => ?_
    refine tp 5 rfl rfl hf (by kernel_rfl) (fun _ => hS) rfl fun a hf => ?_
    obtain ⟨e2, he2, hR1⟩ := bind_some hR1
    obtain ⟨p2, o2, cs2, hx2, hr2, H⟩ := pre_iaddr H Tryz.underlying32 TF.sz120 1 rfl he2
    refine tP 6 rfl rfl rfl rfl hf (by kernel_rfl) (fun _ => hS) (fun w => rq_iaddrE hf rfl rfl rfl hx2 w) fun a hf => ?_
    obtain rfl := Fiber_cells hr2
    refine strT (H.let [] [] [] [0, 1] rfl rfl rfl rfl) (fun w H => H.let [] [] [] [1] rfl rfl rfl rfl) fun hS => ?_
    refine tS 7 [] rfl rfl rfl rfl hf (by kernel_rfl) (by kernel_rfl) hS (fun w H => rq_loadIN hf H TF.la120 0 0 rfl rfl rfl rfl) fun a hf => ?_
    obtain ⟨y, hy, hR1⟩ := bind_some hR1
    refine n1 8 (by kernel_rfl) rfl rfl (op_call hf TF.cl189 rfl (by decide) (laws_eqFiber_ok (S := fun _ => True) Fiber_mkv Fiber_mkv hy) fun v w a hp hf => ?_)
    obtain ⟨hb, hp⟩ := hp
    obtain rfl := VR_bool hp
    have H := H.keep hb
    have hS := H.let [] [] [] [0, 1] rfl rfl rfl rfl
    refine ⟨fun _ => hS, ?_⟩
    refine tp 9 rfl rfl hf (by kernel_rfl) (fun _ => hS) rfl fun a hf => ?_
    refine dn (by kernel_rfl) ?_
    have hf := hf.prune [0, 1, 5, 26] rfl
    refine then_n (iteB hR1 (fun hc3 hR1 => cd_t hf rfl hc3 ?_) fun hc3 hR1 => cd_f hf rfl hc3 ?_)
    ·refine sq (reg (pr 1 hf rfl rfl fun a hf => ?_))
     refine wl_end (then_n (wp_ret (blk_r (then_r (then_r (blk_r (then_r (then_r (?_)))))))))
     obtain rfl := Option.some.inj hR1
     replace hF := on_ret hF
     obtain rfl := Option.some.inj hF
     refine ret_1 (fn := Tryz.f132) (r := .tmp 4) hf rfl (rv_tmp hf rfl) ?_
     exact ⟨_, rfl, H.bel, mk_bool⟩
    ·refine wp_skip (blk_n (then_n (reg (pr 3 hf rfl rfl fun a hf => ?_))))
     refine wl_end ?_
     have hf := hf.prune [0, 1, 5] rfl
     have H := H.let [] [] [] [2, 3] rfl rfl rfl rfl
     exact then_n ⟨w64 (i + 1), hR1, hf, H⟩
   ·refine wp_exit (then_x (then_x (blk_e (?_))))
    have hf := hf.prune [0, 1, 5] rfl
    have H := H.let [] [] [] [0, 1] rfl rfl rfl rfl
    exact ⟨i, (Option.some.inj hR1).symm, hf, H⟩
  rintro a w ⟨i2, rfl, hf, H⟩
  replace hF := on_next hF
  refine then_n (sq (reg (pr 1 hf rfl rfl fun a hf => ?_)))
  refine wl_end (then_n (wp_ret (?_)))
  obtain rfl := Option.some.inj hF
  refine ret_1 (fn := Tryz.f132) (r := .tmp 4) hf rfl (rv_tmp hf rfl) ?_
  exact ⟨_, rfl, H.bel, mk_bool⟩

/- loop.example/g00897/laws.eqNetwork -/
set_option maxHeartbeats 1000000 in
theorem laws_eqNetwork_ok {fu : Nat} {w0 : World} {S : Nat → Prop} {v0_ : Value} {v1_ : Value} {a' : Network} {b' : Network} {r : Bool} (h0 : VR w0 S v0_ a') (h1 : VR w0 S v1_ b') (hF : laws_eqNetwork fu a' b' = some r) :
    Calls Tryz.prog 69 [v0_, v1_].toArray w0 fun e w' => ∃ v, e = .returned v ∧ (Below w0.heap.size w0 w' ∧ VR w' (St ⟨w0, []⟩ S [] [] [] true) v r) := by
 obtain ⟨A, c, A2, c2, rfl, hl, hl2⟩ := Network_open h0
 obtain ⟨A3, c3, A4, c4, rfl, hl3, hl4⟩ := Network_open h1
 have H := Mem.start ⟨w0, []⟩ S
 have H := H.pushArg (MP.val [(.slice A a'.Nodes.length c)] a'.Nodes) hl
 have H := H.pushArg (MP.val [(.slice A2 a'.Fibers.length c2)] a'.Fibers) hl2
 have H := H.pushArg (MP.val [(.slice A3 b'.Nodes.length c3)] b'.Nodes) hl3
 have H := H.pushArg (MP.val [(.slice A4 b'.Fibers.length c4)] b'.Fibers) hl4
 refine enter Tryz.func69 rfl rfl (nle rfl) rfl fun a hf => ?_
 rw [laws_eqNetwork] at hF
 refine sq (reg (wl0 rfl (op_box hf H rfl rfl (by decide) fun b2 a w hf H => ?_)))
 refine wl0 rfl (op_box hf H rfl rfl (by decide) fun b3 a w hf H => ?_)
 refine pr 1 hf rfl rfl fun a hf => ?_
 refine wl_end (then_n (sq (sq (reg (pr 1 hf rfl rfl fun a hf => ?_)))))
 refine wl0 rfl (op_q hf (rq_loadB hf H TF.ls22 1 rfl rfl rfl) rfl (by decide) fun a hf => ?_)
 refine pr 1 hf rfl rfl fun a hf => ?_
 refine wl0 rfl (op_q hf (rq_loadB hf H TF.ls22 0 rfl rfl rfl) rfl (by decide) fun a hf => ?_)
 obtain ⟨y, hy, hF⟩ := bind_some hF
 refine wl0 rfl (op_call hf TF.cl131 rfl (by decide) (laws_eqStringS_ok (S := fun _ => True) (mk_list (rep_true (α := List ByteArray) (H.get 3 rfl))) (mk_list (rep_true (α := List ByteArray) (H.get 1 rfl))) hy) fun v w a hp hf => ?_)
 obtain ⟨hb, hp⟩ := hp
 obtain rfl := VR_bool hp
 have H := H.keep hb
 refine pr 1 hf rfl rfl fun a hf => ?_
 refine wl_end (then_n (iteB hF (fun hc hF => cd_t hf rfl hc ?_) fun hc hF => cd_f hf rfl hc ?_))
 ·refine sq (reg (pr 1 hf rfl rfl fun a hf => ?_))
  refine wl_end (then_n (wp_ret (then_r (?_))))
  obtain rfl := Option.some.inj hF
  refine ret_1 (fn := Tryz.f69) (r := .tmp 4) hf rfl (rv_tmp hf rfl) ?_
  exact ⟨_, rfl, H.bel, mk_bool⟩
 ·refine wp_skip (then_n (sq (sq (reg (pr 1 hf rfl rfl fun a hf => ?_)))))
  refine wl0 rfl (op_q hf (rq_loadB hf H TF.ls32 1 rfl rfl rfl) rfl (by decide) fun a hf => ?_)
  refine pr 1 hf rfl rfl fun a hf => ?_
  refine wl0 rfl (op_q hf (rq_loadB hf H TF.ls32 0 rfl rfl rfl) rfl (by decide) fun a hf => ?_)
  obtain ⟨y2, hy2, hF⟩ := bind_some hF
  refine wl0 rfl (op_call hf TF.cl132 rfl (by decide) (laws_eqFiberS_ok (S := fun _ => True) (mk_list (rep_true (α := List Fiber) (H.get 2 rfl))) (mk_list (rep_true (α := List Fiber) (H.get 0 rfl))) hy2) fun v2 w a hp2 hf => ?_)
  obtain ⟨hb2, hp2⟩ := hp2
  obtain rfl := VR_bool hp2
  have H := H.keep hb2
  refine pr 1 hf rfl rfl fun a hf => ?_
  have hf := hf.prune [16] rfl
  refine wl_end (then_n (iteB hF (fun hc2 hF => cd_t hf rfl hc2 ?_) fun hc2 hF => cd_f hf rfl hc2 ?_))
  ·refine sq (reg (pr 1 hf rfl rfl fun a hf => ?_))
   refine wl_end (then_n (wp_ret (then_r (?_))))
   obtain rfl := Option.some.inj hF
   refine ret_1 (fn := Tryz.f69) (r := .tmp 4) hf rfl (rv_tmp hf rfl) ?_
   exact ⟨_, rfl, H.bel, mk_bool⟩
  ·refine wp_skip (then_n (sq (reg (pr 1 hf rfl rfl fun a hf => ?_))))
   refine wl_end (then_n (wp_ret (?_)))
   obtain rfl := Option.some.inj hF
   refine ret_1 (fn := Tryz.f69) (r := .tmp 4) hf rfl (rv_tmp hf rfl) ?_
   exact ⟨_, rfl, H.bel, mk_bool⟩

/- loop.example/g00897/laws.eqIntS -/
set_option maxHeartbeats 1000000 in
theorem laws_eqIntS_ok {fu : Nat} {w0 : World} {S : Nat → Prop} {v0_ : Value} {v1_ : Value} {a' : List Int} {b' : List Int} {r : Bool} (h0 : VR w0 S v0_ a') (h1 : VR w0 S v1_ b') (hF : laws_eqIntS fu a' b' = some r) :
    Calls Tryz.prog 24 [v0_, v1_].toArray w0 fun e w' => ∃ v, e = .returned v ∧ (Below w0.heap.size w0 w' ∧ VR w' (St ⟨w0, []⟩ S [] [] [] true) v r) := by
 obtain ⟨A, c, rfl, hl⟩ := VR_list h0
 obtain ⟨A2, c2, rfl, hl2⟩ := VR_list h1
 have H := Mem.start ⟨w0, []⟩ S
 have H := H.pushArg (MP.val [(.slice A a'.length c)] a') hl
 have H := H.pushArg (MP.val [(.slice A2 b'.length c2)] b') hl2
 refine enter Tryz.func24 rfl rfl (nle rfl) rfl fun a hf => ?_
 rw [laws_eqIntS] at hF
 refine sq (reg (pr 1 hf rfl rfl fun a hf => ?_))
 refine wl_end (then_n (sq (sq (reg (pr 5 hf rfl rfl fun a hf => ?_)))))
 refine wl_end (then_n (iteB hF (fun hc hF => cd_t hf rfl hc ?_) fun hc hF => cd_f hf rfl hc ?_))
 ·refine sq (reg (pr 1 hf rfl rfl fun a hf => ?_))
  refine wl_end (then_n (wp_ret (then_r (?_))))
  obtain rfl := Option.some.inj hF
  refine ret_1 (fn := Tryz.f24) (r := .tmp 4) hf rfl (rv_tmp hf rfl) ?_
  exact ⟨_, rfl, H.bel, mk_bool⟩
 ·refine wp_skip (then_n (sq (sq (reg (pr 1 hf rfl rfl fun a hf => ?_)))))
  refine wl_end (then_n ?_)
  obtain ⟨out', hB1, hF⟩ := bind_some hF
  have hf := hf.prune [0, 1, 5] rfl
  have H := H.let [] [] [] [0, 1] rfl rfl rfl rfl
  refine loopC (fun (s : Int) (a : Act) (w : World) => match s with | i => Fr a 26 [(0, (.slice A a'.length c)), (1, (.slice A2 b'.length c2)), (5, (.int .i64 i))] ∧ Mem ⟨w0, []⟩ S [] [] [] [(false, MP.val [(.slice A2 b'.length c2)] (b' : List Int)), (false, MP.val [(.slice A a'.length c)] (a' : List Int))] w) (fun k (s : Int) => laws_eqIntS_L1 fu a' b' k s = some out') (fun s => out' = Out.next s) 0 fu hB1 ⟨hf, H⟩ (fun s h => by cases h) ?_ ?_
  ·rintro fk i a w hR1 hI
   replace hR1 : laws_eqIntS_L1 fu a' b' (fk + 1) i = some out' := hR1
   rw [laws_eqIntS_L1] at hR1
   obtain ⟨hf, H⟩ := hI
   refine sq (sq (reg (pr 4 hf rfl rfl fun a hf => ?_)))
   refine wl_end (then_n (iteB hR1 (fun hc2 hR1 => cd_t hf rfl hc2 ?_) fun hc2 hR1 => cd_f hf rfl hc2 ?_))
   ·refine wp_skip (then_n (sq (wp_block (sq (drawn [] (bs := [false, false, false, false, false, false, false, false, false]) (fuel := 9) (Checked.mixed Tryz.checked) rfl rfl fun w hb => ?_)))))
    have H := H.keep hb
    refine tp 0 rfl rfl hf (by kernel_rfl) (fun _ => trivial) rfl fun a hf => ?_
    refine tp 1 rfl rfl hf (by kernel_rfl) (fun _ => trivial) rfl fun a hf => ?_
    obtain ⟨e, he, hR1⟩ := bind_some hR1
    obtain ⟨p, o, cs, hx, hr, H⟩ := pre_iaddr H Tryz.underlying44 TF.sz3 1 rfl he
    refine tP 2 rfl rfl rfl rfl hf (by kernel_rfl) (fun _ => trivial) (fun w => rq_iaddrE hf rfl rfl rfl hx w) fun a hf => ?_
    obtain rfl := hr
    refine strT (H.let [] [] [] [0] rfl rfl rfl rfl) (fun w H => trivial) fun hS => ?_
    refine tS 3 [] rfl rfl rfl rfl hf (by kernel_rfl) (by kernel_rfl) hS (fun w H => rq_loadI hf H TF.ls3 0 0 rfl rfl rfl) fun a hf => ?_
    refine tp 4 rfl rfl hf (by kernel_rfl) (fun _ => hS) rfl fun a hf => ?_
    refine tp 5 rfl rfl hf (by kernel_rfl) (fun _ => hS) rfl fun a hf => ?_
    obtain ⟨e2, he2, hR1⟩ := bind_some hR1
    obtain ⟨p2, o2, cs2, hx2, hr2, H⟩ := pre_iaddr H Tryz.underlying44 TF.sz3 1 rfl he2
    refine tP 6 rfl rfl rfl rfl hf (by kernel_rfl) (fun _ => hS) (fun w => rq_iaddrE hf rfl rfl rfl hx2 w) fun a hf => ?_
    obtain rfl := hr2
    refine strT (H.let [] [] [] [0, 1] rfl rfl rfl rfl) (fun w H => H.let [] [] [] [1] rfl rfl rfl rfl) fun hS => ?_
    refine tS 7 [] rfl rfl rfl rfl hf (by kernel_rfl) (by kernel_rfl) hS (fun w H => rq_loadI hf H TF.ls3 0 0 rfl rfl rfl) fun a hf => ?_
    refine tp 8 rfl rfl hf (by kernel_rfl) (fun _ => hS) rfl fun a hf => ?_
    refine dn (by kernel_rfl) ?_
    refine then_n (iteB hR1 (fun hc3 hR1 => cd_t hf rfl hc3 ?_) fun hc3 hR1 => cd_f hf rfl hc3 ?_)
    ·refine sq (reg (pr 1 hf rfl rfl fun a hf => ?_))
     have hf := hf.prune [4] rfl
     refine wl_end (then_n (wp_ret (blk_r (then_r (then_r (blk_r (then_r (then_r (?_)))))))))
     obtain rfl := Option.some.inj hR1
     replace hF := on_ret hF
     obtain rfl := Option.some.inj hF
     refine ret_1 (fn := Tryz.f24) (r := .tmp 4) hf rfl (rv_tmp hf rfl) ?_
     exact ⟨_, rfl, H.bel, mk_bool⟩
    ·refine wp_skip (blk_n (then_n (reg (pr 3 hf rfl rfl fun a hf => ?_))))
     have hf := hf.prune [0, 1, 5] rfl
     refine wl_end ?_
     have hf := hf.prune [0, 1, 5] rfl
     have H := H.let [] [] [] [2, 3] rfl rfl rfl rfl
     exact then_n ⟨w64 (i + 1), hR1, hf, H⟩
   ·refine wp_exit (then_x (then_x (blk_e (?_))))
    have hf := hf.prune [0, 1, 5] rfl
    have H := H.let [] [] [] [0, 1] rfl rfl rfl rfl
    exact ⟨i, (Option.some.inj hR1).symm, hf, H⟩
  rintro a w ⟨i2, rfl, hf, H⟩
  replace hF := on_next hF
  refine then_n (sq (reg (pr 1 hf rfl rfl fun a hf => ?_)))
  refine wl_end (then_n (wp_ret (?_)))
  obtain rfl := Option.some.inj hF
  refine ret_1 (fn := Tryz.f24) (r := .tmp 4) hf rfl (rv_tmp hf rfl) ?_
  exact ⟨_, rfl, H.bel, mk_bool⟩

/- loop.example/g00897/laws.eqRoute -/
set_option maxHeartbeats 1000000 in
theorem laws_eqRoute_ok {fu : Nat} {w0 : World} {S : Nat → Prop} {v0_ : Value} {v1_ : Value} {a' : Route} {b' : Route} {r : Bool} (h0 : VR w0 S v0_ a') (h1 : VR w0 S v1_ b') (hF : laws_eqRoute fu a' b' = some r) :
    Calls Tryz.prog 190 [v0_, v1_].toArray w0 fun e w' => ∃ v, e = .returned v ∧ (Below w0.heap.size w0 w' ∧ VR w' (St ⟨w0, []⟩ S [] [] [] true) v r) := by
 obtain ⟨A, c, rfl, hl⟩ := Route_open h0
 obtain ⟨A2, c2, rfl, hl2⟩ := Route_open h1
 have H := Mem.start ⟨w0, []⟩ S
 have H := H.pushArg (MP.val [(.slice A a'.Fibers.length c)] a'.Fibers) hl
 have H := H.pushArg (MP.val [(.slice A2 b'.Fibers.length c2)] b'.Fibers) hl2
 refine enter Tryz.func190 rfl rfl (nle rfl) rfl fun a hf => ?_
 rw [laws_eqRoute] at hF
 refine sq (reg (wl0 rfl (op_box hf H rfl rfl (by decide) fun b2 a w hf H => ?_)))
 refine wl0 rfl (op_box hf H rfl rfl (by decide) fun b3 a w hf H => ?_)
 refine pr 1 hf rfl rfl fun a hf => ?_
 refine wl_end (then_n (sq (sq (reg (pr 1 hf rfl rfl fun a hf => ?_)))))
 refine wl0 rfl (op_q hf (rq_loadB hf H TF.ls3 1 rfl rfl rfl) rfl (by decide) fun a hf => ?_)
 refine pr 1 hf rfl rfl fun a hf => ?_
 refine wl0 rfl (op_q hf (rq_loadB hf H TF.ls3 0 rfl rfl rfl) rfl (by decide) fun a hf => ?_)
 refine pr 1 hf rfl rfl fun a hf => ?_
 refine wl_end (then_n (iteB hF (fun hc hF => cd_t hf rfl hc ?_) fun hc hF => cd_f hf rfl hc ?_))
 ·refine sq (reg (pr 1 hf rfl rfl fun a hf => ?_))
  refine wl_end (then_n (wp_ret (then_r (?_))))
  obtain rfl := Option.some.inj hF
  refine ret_1 (fn := Tryz.f190) (r := .tmp 4) hf rfl (rv_tmp hf rfl) ?_
  exact ⟨_, rfl, H.bel, mk_bool⟩
 ·refine wp_skip (then_n (sq (sq (reg (pr 1 hf rfl rfl fun a hf => ?_)))))
  refine wl0 rfl (op_q hf (rq_loadB hf H TF.ls44 1 rfl rfl rfl) rfl (by decide) fun a hf => ?_)
  refine pr 1 hf rfl rfl fun a hf => ?_
  refine wl0 rfl (op_q hf (rq_loadB hf H TF.ls44 0 rfl rfl rfl) rfl (by decide) fun a hf => ?_)
  obtain ⟨y, hy, hF⟩ := bind_some hF
  refine wl0 rfl (op_call hf TF.cl24 rfl (by decide) (laws_eqIntS_ok (S := fun _ => True) (mk_list (rep_true (α := List Int) (H.get 1 rfl))) (mk_list (rep_true (α := List Int) (H.get 0 rfl))) hy) fun v w a hp hf => ?_)
  obtain ⟨hb, hp⟩ := hp
  obtain rfl := VR_bool hp
  have H := H.keep hb
  refine pr 1 hf rfl rfl fun a hf => ?_
  have hf := hf.prune [15] rfl
  refine wl_end (then_n (iteB hF (fun hc2 hF => cd_t hf rfl hc2 ?_) fun hc2 hF => cd_f hf rfl hc2 ?_))
  ·refine sq (reg (pr 1 hf rfl rfl fun a hf => ?_))
   refine wl_end (then_n (wp_ret (then_r (?_))))
   obtain rfl := Option.some.inj hF
   refine ret_1 (fn := Tryz.f190) (r := .tmp 4) hf rfl (rv_tmp hf rfl) ?_
   exact ⟨_, rfl, H.bel, mk_bool⟩
  ·refine wp_skip (then_n (sq (reg (pr 1 hf rfl rfl fun a hf => ?_))))
   refine wl_end (then_n (wp_ret (?_)))
   obtain rfl := Option.some.inj hF
   refine ret_1 (fn := Tryz.f190) (r := .tmp 4) hf rfl (rv_tmp hf rfl) ?_
   exact ⟨_, rfl, H.bel, mk_bool⟩

/- loop.example/g00897/laws.eqBlock -/
set_option maxHeartbeats 1000000 in
theorem laws_eqBlock_ok {fu : Nat} {w0 : World} {S : Nat → Prop} {v0_ : Value} {v1_ : Value} {a' : Block} {b' : Block} {r : Bool} (h0 : VR w0 S v0_ a') (h1 : VR w0 S v1_ b') (hF : laws_eqBlock fu a' b' = some r) :
    Calls Tryz.prog 191 [v0_, v1_].toArray w0 fun e w' => ∃ v, e = .returned v ∧ (Below w0.heap.size w0 w' ∧ VR w' (St ⟨w0, []⟩ S [] [] [] true) v r) := by
 obtain rfl := Block_open h0
 obtain rfl := Block_open h1
 have H := Mem.start ⟨w0, []⟩ S
 refine enter Tryz.func191 rfl rfl (nle rfl) rfl fun a hf => ?_
 rw [laws_eqBlock] at hF
 refine sq (reg (wl0 rfl (op_box hf H rfl rfl (by decide) fun b2 a w hf H => ?_)))
 refine wl0 rfl (op_box hf H rfl rfl (by decide) fun b3 a w hf H => ?_)
 refine pr 1 hf rfl rfl fun a hf => ?_
 refine wl_end (then_n (sq (sq (reg (pr 1 hf rfl rfl fun a hf => ?_)))))
 refine wl0 rfl (op_q hf (rq_loadB hf H TF.ls3 1 rfl rfl rfl) rfl (by decide) fun a hf => ?_)
 refine pr 1 hf rfl rfl fun a hf => ?_
 refine wl0 rfl (op_q hf (rq_loadB hf H TF.ls3 0 rfl rfl rfl) rfl (by decide) fun a hf => ?_)
 refine pr 1 hf rfl rfl fun a hf => ?_
 refine wl_end (then_n (iteB hF (fun hc hF => cd_t hf rfl hc ?_) fun hc hF => cd_f hf rfl hc ?_))
 ·refine sq (reg (pr 1 hf rfl rfl fun a hf => ?_))
  refine wl_end (then_n (wp_ret (then_r (?_))))
  obtain rfl := Option.some.inj hF
  refine ret_1 (fn := Tryz.f191) (r := .tmp 4) hf rfl (rv_tmp hf rfl) ?_
  exact ⟨_, rfl, H.bel, mk_bool⟩
 ·refine wp_skip (then_n (sq (sq (reg (pr 1 hf rfl rfl fun a hf => ?_)))))
  refine wl0 rfl (op_q hf (rq_loadB hf H TF.ls3 1 rfl rfl rfl) rfl (by decide) fun a hf => ?_)
  refine pr 1 hf rfl rfl fun a hf => ?_
  refine wl0 rfl (op_q hf (rq_loadB hf H TF.ls3 0 rfl rfl rfl) rfl (by decide) fun a hf => ?_)
  refine pr 1 hf rfl rfl fun a hf => ?_
  have hf := hf.prune [14] rfl
  refine wl_end (then_n (iteB hF (fun hc2 hF => cd_t hf rfl hc2 ?_) fun hc2 hF => cd_f hf rfl hc2 ?_))
  ·refine sq (reg (pr 1 hf rfl rfl fun a hf => ?_))
   refine wl_end (then_n (wp_ret (then_r (?_))))
   obtain rfl := Option.some.inj hF
   refine ret_1 (fn := Tryz.f191) (r := .tmp 4) hf rfl (rv_tmp hf rfl) ?_
   exact ⟨_, rfl, H.bel, mk_bool⟩
  ·refine wp_skip (then_n (sq (reg (pr 1 hf rfl rfl fun a hf => ?_))))
   refine wl_end (then_n (wp_ret (?_)))
   obtain rfl := Option.some.inj hF
   refine ret_1 (fn := Tryz.f191) (r := .tmp 4) hf rfl (rv_tmp hf rfl) ?_
   exact ⟨_, rfl, H.bel, mk_bool⟩

/- loop.example/g00897/laws.eqLight -/
set_option maxHeartbeats 1000000 in
theorem laws_eqLight_ok {fu : Nat} {w0 : World} {S : Nat → Prop} {v0_ : Value} {v1_ : Value} {a' : Light} {b' : Light} {r : Bool} (h0 : VR w0 S v0_ a') (h1 : VR w0 S v1_ b') (hF : laws_eqLight fu a' b' = some r) :
    Calls Tryz.prog 133 [v0_, v1_].toArray w0 fun e w' => ∃ v, e = .returned v ∧ (Below w0.heap.size w0 w' ∧ VR w' (St ⟨w0, []⟩ S [] [] [] true) v r) := by
 obtain ⟨A, c, rfl, hl⟩ := Light_open h0
 obtain ⟨A2, c2, rfl, hl2⟩ := Light_open h1
 have H := Mem.start ⟨w0, []⟩ S
 have H := H.pushArg (MP.val [(.slice A a'.Route.Fibers.length c)] a'.Route.Fibers) hl
 have H := H.pushArg (MP.val [(.slice A2 b'.Route.Fibers.length c2)] b'.Route.Fibers) hl2
 refine enter Tryz.func133 rfl rfl (nle rfl) rfl fun a hf => ?_
 rw [laws_eqLight] at hF
 refine sq (reg (wl0 rfl (op_box hf H rfl rfl (by decide) fun b2 a w hf H => ?_)))
 refine wl0 rfl (op_box hf H rfl rfl (by decide) fun b3 a w hf H => ?_)
 refine pr 1 hf rfl rfl fun a hf => ?_
 refine wl_end (then_n (sq (sq (reg (pr 1 hf rfl rfl fun a hf => ?_)))))
 refine wl0 rfl (op_q hf (rq_loadB hf H TF.ls3 1 rfl rfl rfl) rfl (by decide) fun a hf => ?_)
 refine pr 1 hf rfl rfl fun a hf => ?_
 refine wl0 rfl (op_q hf (rq_loadB hf H TF.ls3 0 rfl rfl rfl) rfl (by decide) fun a hf => ?_)
 refine pr 1 hf rfl rfl fun a hf => ?_
 refine wl_end (then_n (iteB hF (fun hc hF => cd_t hf rfl hc ?_) fun hc hF => cd_f hf rfl hc ?_))
 ·refine sq (reg (pr 1 hf rfl rfl fun a hf => ?_))
  refine wl_end (then_n (wp_ret (then_r (?_))))
  obtain rfl := Option.some.inj hF
  refine ret_1 (fn := Tryz.f133) (r := .tmp 4) hf rfl (rv_tmp hf rfl) ?_
  exact ⟨_, rfl, H.bel, mk_bool⟩
 ·refine wp_skip (then_n (sq (sq (reg (pr 1 hf rfl rfl fun a hf => ?_)))))
  refine wl0 rfl (op_q hf (rq_loadBN hf H TF.la108 1 rfl rfl rfl rfl) rfl (by decide) fun a hf => ?_)
  refine pr 1 hf rfl rfl fun a hf => ?_
  refine wl0 rfl (op_q hf (rq_loadBN hf H TF.la108 0 rfl rfl rfl rfl) rfl (by decide) fun a hf => ?_)
  obtain ⟨y, hy, hF⟩ := bind_some hF
  refine wl0 rfl (op_call hf TF.cl190 rfl (by decide) (laws_eqRoute_ok (S := fun _ => True) (Route_mkv (x := a'.Route) (rep_true (α := List Int) (H.get 1 rfl))) (Route_mkv (x := b'.Route) (rep_true (α := List Int) (H.get 0 rfl))) hy) fun v w a hp hf => ?_)
  obtain ⟨hb, hp⟩ := hp
  obtain rfl := VR_bool hp
  have H := H.keep hb
  refine pr 1 hf rfl rfl fun a hf => ?_
  have hf := hf.prune [2, 3, 15] rfl
  refine wl_end (then_n (iteB hF (fun hc2 hF => cd_t hf rfl hc2 ?_) fun hc2 hF => cd_f hf rfl hc2 ?_))
  ·refine sq (reg (pr 1 hf rfl rfl fun a hf => ?_))
   refine wl_end (then_n (wp_ret (then_r (?_))))
   obtain rfl := Option.some.inj hF
   refine ret_1 (fn := Tryz.f133) (r := .tmp 4) hf rfl (rv_tmp hf rfl) ?_
   exact ⟨_, rfl, H.bel, mk_bool⟩
  ·refine wp_skip (then_n (sq (sq (reg (pr 1 hf rfl rfl fun a hf => ?_)))))
   refine wl0 rfl (op_q hf (rq_loadBN hf H TF.la110 1 rfl rfl rfl rfl) rfl (by decide) fun a hf => ?_)
   refine pr 1 hf rfl rfl fun a hf => ?_
   refine wl0 rfl (op_q hf (rq_loadBN hf H TF.la110 0 rfl rfl rfl rfl) rfl (by decide) fun a hf => ?_)
   obtain ⟨y2, hy2, hF⟩ := bind_some hF
   refine wl0 rfl (op_call hf TF.cl191 rfl (by decide) (laws_eqBlock_ok (S := fun _ => True) Block_mkv Block_mkv hy2) fun v2 w a hp2 hf => ?_)
   obtain ⟨hb2, hp2⟩ := hp2
   obtain rfl := VR_bool hp2
   have H := H.keep hb2
   refine pr 1 hf rfl rfl fun a hf => ?_
   refine wl_end (then_n (iteB hF (fun hc3 hF => cd_t hf rfl hc3 ?_) fun hc3 hF => cd_f hf rfl hc3 ?_))
   ·refine sq (reg (pr 1 hf rfl rfl fun a hf => ?_))
    refine wl_end (then_n (wp_ret (then_r (?_))))
    obtain rfl := Option.some.inj hF
    refine ret_1 (fn := Tryz.f133) (r := .tmp 4) hf rfl (rv_tmp hf rfl) ?_
    exact ⟨_, rfl, H.bel, mk_bool⟩
   ·refine wp_skip (then_n (sq (reg (pr 1 hf rfl rfl fun a hf => ?_))))
    refine wl_end (then_n (wp_ret (?_)))
    obtain rfl := Option.some.inj hF
    refine ret_1 (fn := Tryz.f133) (r := .tmp 4) hf rfl (rv_tmp hf rfl) ?_
    exact ⟨_, rfl, H.bel, mk_bool⟩

/- loop.example/g00897/laws.eqLightS -/
set_option maxHeartbeats 1000000 in
theorem laws_eqLightS_ok {fu : Nat} {w0 : World} {S : Nat → Prop} {v0_ : Value} {v1_ : Value} {a' : List Light} {b' : List Light} {r : Bool} (h0 : VR w0 S v0_ a') (h1 : VR w0 S v1_ b') (hF : laws_eqLightS fu a' b' = some r) :
    Calls Tryz.prog 70 [v0_, v1_].toArray w0 fun e w' => ∃ v, e = .returned v ∧ (Below w0.heap.size w0 w' ∧ VR w' (St ⟨w0, []⟩ S [] [] [] true) v r) := by
 obtain ⟨A, c, rfl, hl⟩ := VR_list h0
 obtain ⟨A2, c2, rfl, hl2⟩ := VR_list h1
 have H := Mem.start ⟨w0, []⟩ S
 have H := H.pushArg (MP.val [(.slice A a'.length c)] a') hl
 have H := H.pushArg (MP.val [(.slice A2 b'.length c2)] b') hl2
 refine enter Tryz.func70 rfl rfl (nle rfl) rfl fun a hf => ?_
 rw [laws_eqLightS] at hF
 refine sq (reg (pr 1 hf rfl rfl fun a hf => ?_))
 refine wl_end (then_n (sq (sq (reg (pr 5 hf rfl rfl fun a hf => ?_)))))
 refine wl_end (then_n (iteB hF (fun hc hF => cd_t hf rfl hc ?_) fun hc hF => cd_f hf rfl hc ?_))
 ·refine sq (reg (pr 1 hf rfl rfl fun a hf => ?_))
  refine wl_end (then_n (wp_ret (then_r (?_))))
  obtain rfl := Option.some.inj hF
  refine ret_1 (fn := Tryz.f70) (r := .tmp 4) hf rfl (rv_tmp hf rfl) ?_
  exact ⟨_, rfl, H.bel, mk_bool⟩
 ·refine wp_skip (then_n (sq (sq (reg (pr 1 hf rfl rfl fun a hf => ?_)))))
  refine wl_end (then_n ?_)
  obtain ⟨out', hB1, hF⟩ := bind_some hF
  have hf := hf.prune [0, 1, 5] rfl
  have H := H.let [] [] [] [0, 1] rfl rfl rfl rfl
  refine loopC (fun (s : Int) (a : Act) (w : World) => match s with | i => Fr a 27 [(0, (.slice A a'.length c)), (1, (.slice A2 b'.length c2)), (5, (.int .i64 i))] ∧ Mem ⟨w0, []⟩ S [] [] [] [(false, MP.val [(.slice A2 b'.length c2)] (b' : List Light)), (false, MP.val [(.slice A a'.length c)] (a' : List Light))] w) (fun k (s : Int) => laws_eqLightS_L1 fu a' b' k s = some out') (fun s => out' = Out.next s) 0 fu hB1 ⟨hf, H⟩ (fun s h => by cases h) ?_ ?_
  ·rintro fk i a w hR1 hI
   replace hR1 : laws_eqLightS_L1 fu a' b' (fk + 1) i = some out' := hR1
   rw [laws_eqLightS_L1] at hR1
   obtain ⟨hf, H⟩ := hI
   refine sq (sq (reg (pr 4 hf rfl rfl fun a hf => ?_)))
   refine wl_end (then_n (iteB hR1 (fun hc2 hR1 => cd_t hf rfl hc2 ?_) fun hc2 hR1 => cd_f hf rfl hc2 ?_))
   ·refine wp_skip (then_n (sq (wp_block (sq (drawn [] (bs := [false, false, false, false, false, false, false, false, false, false]) (fuel := 10) (Checked.mixed Tryz.checked) rfl rfl fun w hb => ?_)))))
    have H := H.keep hb
    refine tp 0 rfl rfl hf (by kernel_rfl) (fun _ => trivial) rfl fun a hf => ?_
    refine tp 1 rfl rfl hf (by kernel_rfl) (fun _ => trivial) rfl fun a hf => ?_
    obtain ⟨e, he, hR1⟩ := bind_some hR1
    obtain ⟨p, o, cs, hx, hr, H⟩ := pre_iaddr H Tryz.underlying35 TF.sz112 1 rfl he
    refine tP 2 rfl rfl rfl rfl hf (by kernel_rfl) (fun _ => trivial) (fun w => rq_iaddrE hf rfl rfl rfl hx w) fun a hf => ?_
    obtain ⟨A3, c3, rfl, hl3⟩ := Light_cells hr
    have H := H.push (false, MP.val [(.slice A3 e.Route.Fibers.length c3)] e.Route.Fibers) hl3
    refine strT (H.let [] [] [] [1] rfl rfl rfl rfl) (fun w H => trivial) fun hS => ?_
    refine tS 3 [] rfl rfl rfl rfl hf (by kernel_rfl) (by kernel_rfl) hS (fun w H => rq_loadIN hf H TF.la112 0 0 rfl rfl rfl rfl) fun a hf => ?_
    refine tp 4 rfl rfl hf (by kernel_rfl) (fun _ => hS) rfl fun a hf => ?_
    refine tp 5 rfl rfl hf (by kernel_rfl) (fun _ => hS) rfl fun a hf => ?_
    obtain ⟨e2, he2, hR1⟩ := bind_some hR1
    obtain ⟨p2, o2, cs2, hx2, hr2, H⟩ := pre_iaddr H Tryz.underlying35 TF.sz112 2 rfl he2
    refine tP 6 rfl rfl rfl rfl hf (by kernel_rfl) (fun _ => hS) (fun w => rq_iaddrE hf rfl rfl rfl hx2 w) fun a hf => ?_
    obtain ⟨A4, c4, rfl, hl4⟩ := Light_cells hr2
    have H := H.push (false, MP.val [(.slice A4 e2.Route.Fibers.length c4)] e2.Route.Fibers) hl4
    refine strT (H.let [] [] [] [1, 3] rfl rfl rfl rfl) (fun w H => H.let [] [] [] [1] rfl rfl rfl rfl) fun hS => ?_
    refine tS 7 [] rfl rfl rfl rfl hf (by kernel_rfl) (by kernel_rfl) hS (fun w H => rq_loadIN hf H TF.la112 0 0 rfl rfl rfl rfl) fun a hf => ?_
    obtain ⟨y, hy, hR1⟩ := bind_some hR1
    refine n1 8 (by kernel_rfl) rfl rfl (op_call hf TF.cl133 rfl (by decide) (laws_eqLight_ok (S := fun _ => True) (Light_mkv (x := e) (rep_true (α := List Int) (H.get 2 rfl))) (Light_mkv (x := e2) (rep_true (α := List Int) (H.get 0 rfl))) hy) fun v w a hp hf => ?_)
    obtain ⟨hb, hp⟩ := hp
    obtain rfl := VR_bool hp
    have H := H.keep hb
    have hS := H.let [] [] [] [1, 3] rfl rfl rfl rfl
    refine ⟨fun _ => hS, ?_⟩
    refine tp 9 rfl rfl hf (by kernel_rfl) (fun _ => hS) rfl fun a hf => ?_
    refine dn (by kernel_rfl) ?_
    have hf := hf.prune [0, 1, 5, 26] rfl
    refine then_n (iteB hR1 (fun hc3 hR1 => cd_t hf rfl hc3 ?_) fun hc3 hR1 => cd_f hf rfl hc3 ?_)
    ·refine sq (reg (pr 1 hf rfl rfl fun a hf => ?_))
     refine wl_end (then_n (wp_ret (blk_r (then_r (then_r (blk_r (then_r (then_r (?_)))))))))
     obtain rfl := Option.some.inj hR1
     replace hF := on_ret hF
     obtain rfl := Option.some.inj hF
     refine ret_1 (fn := Tryz.f70) (r := .tmp 4) hf rfl (rv_tmp hf rfl) ?_
     exact ⟨_, rfl, H.bel, mk_bool⟩
    ·refine wp_skip (blk_n (then_n (reg (pr 3 hf rfl rfl fun a hf => ?_))))
     refine wl_end ?_
     have hf := hf.prune [0, 1, 5] rfl
     have H := H.let [] [] [] [4, 5] rfl rfl rfl rfl
     exact then_n ⟨w64 (i + 1), hR1, hf, H⟩
   ·refine wp_exit (then_x (then_x (blk_e (?_))))
    have hf := hf.prune [0, 1, 5] rfl
    have H := H.let [] [] [] [0, 1] rfl rfl rfl rfl
    exact ⟨i, (Option.some.inj hR1).symm, hf, H⟩
  rintro a w ⟨i2, rfl, hf, H⟩
  replace hF := on_next hF
  refine then_n (sq (reg (pr 1 hf rfl rfl fun a hf => ?_)))
  refine wl_end (then_n (wp_ret (?_)))
  obtain rfl := Option.some.inj hF
  refine ret_1 (fn := Tryz.f70) (r := .tmp 4) hf rfl (rv_tmp hf rfl) ?_
  exact ⟨_, rfl, H.bel, mk_bool⟩

/- loop.example/g00897/laws.eqPlan -/
set_option maxHeartbeats 1000000 in
theorem laws_eqPlan_ok {fu : Nat} {w0 : World} {S : Nat → Prop} {v0_ : Value} {v1_ : Value} {a' : Plan} {b' : Plan} {r : Bool} (h0 : VR w0 S v0_ a') (h1 : VR w0 S v1_ b') (hF : laws_eqPlan fu a' b' = some r) :
    Calls Tryz.prog 19 [v0_, v1_].toArray w0 fun e w' => ∃ v, e = .returned v ∧ (Below w0.heap.size w0 w' ∧ VR w' (St ⟨w0, []⟩ S [] [] [] true) v r) := by
 obtain ⟨A, c, A2, c2, A3, c3, rfl, hl, hl2, hl3⟩ := Plan_open h0
 obtain ⟨A4, c4, A5, c5, A6, c6, rfl, hl4, hl5, hl6⟩ := Plan_open h1
 have H := Mem.start ⟨w0, []⟩ S
 have H := H.pushArg (MP.val [(.slice A a'.Network.Nodes.length c)] a'.Network.Nodes) hl
 have H := H.pushArg (MP.val [(.slice A2 a'.Network.Fibers.length c2)] a'.Network.Fibers) hl2
 have H := H.pushArg (MP.val [(.slice A3 a'.Lights.length c3)] a'.Lights) hl3
 have H := H.pushArg (MP.val [(.slice A4 b'.Network.Nodes.length c4)] b'.Network.Nodes) hl4
 have H := H.pushArg (MP.val [(.slice A5 b'.Network.Fibers.length c5)] b'.Network.Fibers) hl5
 have H := H.pushArg (MP.val [(.slice A6 b'.Lights.length c6)] b'.Lights) hl6
 refine enter Tryz.func19 rfl rfl (nle rfl) rfl fun a hf => ?_
 rw [laws_eqPlan] at hF
 refine sq (reg (wl0 rfl (op_box hf H rfl rfl (by decide) fun b2 a w hf H => ?_)))
 refine wl0 rfl (op_box hf H rfl rfl (by decide) fun b3 a w hf H => ?_)
 refine pr 1 hf rfl rfl fun a hf => ?_
 refine wl_end (then_n (sq (sq (reg (pr 1 hf rfl rfl fun a hf => ?_)))))
 refine wl0 rfl (op_q hf (rq_loadBN hf H TF.la34 1 rfl rfl rfl rfl) rfl (by decide) fun a hf => ?_)
 refine pr 1 hf rfl rfl fun a hf => ?_
 refine wl0 rfl (op_q hf (rq_loadBN hf H TF.la34 0 rfl rfl rfl rfl) rfl (by decide) fun a hf => ?_)
 obtain ⟨y, hy, hF⟩ := bind_some hF
 refine wl0 rfl (op_call hf TF.cl69 rfl (by decide) (laws_eqNetwork_ok (S := fun _ => True) (Network_mkv (x := a'.Network) (rep_true (α := List ByteArray) (H.get 5 rfl)) (rep_true (α := List Fiber) (H.get 4 rfl))) (Network_mkv (x := b'.Network) (rep_true (α := List ByteArray) (H.get 2 rfl)) (rep_true (α := List Fiber) (H.get 1 rfl))) hy) fun v w a hp hf => ?_)
 obtain ⟨hb, hp⟩ := hp
 obtain rfl := VR_bool hp
 have H := H.keep hb
 refine pr 1 hf rfl rfl fun a hf => ?_
 refine wl_end (then_n (iteB hF (fun hc hF => cd_t hf rfl hc ?_) fun hc hF => cd_f hf rfl hc ?_))
 ·refine sq (reg (pr 1 hf rfl rfl fun a hf => ?_))
  refine wl_end (then_n (wp_ret (then_r (?_))))
  obtain rfl := Option.some.inj hF
  refine ret_1 (fn := Tryz.f19) (r := .tmp 4) hf rfl (rv_tmp hf rfl) ?_
  exact ⟨_, rfl, H.bel, mk_bool⟩
 ·refine wp_skip (then_n (sq (sq (reg (pr 1 hf rfl rfl fun a hf => ?_)))))
  refine wl0 rfl (op_q hf (rq_loadB hf H TF.ls35 1 rfl rfl rfl) rfl (by decide) fun a hf => ?_)
  refine pr 1 hf rfl rfl fun a hf => ?_
  refine wl0 rfl (op_q hf (rq_loadB hf H TF.ls35 0 rfl rfl rfl) rfl (by decide) fun a hf => ?_)
  obtain ⟨y2, hy2, hF⟩ := bind_some hF
  refine wl0 rfl (op_call hf TF.cl70 rfl (by decide) (laws_eqLightS_ok (S := fun _ => True) (mk_list (rep_true (α := List Light) (H.get 3 rfl))) (mk_list (rep_true (α := List Light) (H.get 0 rfl))) hy2) fun v2 w a hp2 hf => ?_)
  obtain ⟨hb2, hp2⟩ := hp2
  obtain rfl := VR_bool hp2
  have H := H.keep hb2
  refine pr 1 hf rfl rfl fun a hf => ?_
  have hf := hf.prune [16] rfl
  refine wl_end (then_n (iteB hF (fun hc2 hF => cd_t hf rfl hc2 ?_) fun hc2 hF => cd_f hf rfl hc2 ?_))
  ·refine sq (reg (pr 1 hf rfl rfl fun a hf => ?_))
   refine wl_end (then_n (wp_ret (then_r (?_))))
   obtain rfl := Option.some.inj hF
   refine ret_1 (fn := Tryz.f19) (r := .tmp 4) hf rfl (rv_tmp hf rfl) ?_
   exact ⟨_, rfl, H.bel, mk_bool⟩
  ·refine wp_skip (then_n (sq (reg (pr 1 hf rfl rfl fun a hf => ?_))))
   refine wl_end (then_n (wp_ret (?_)))
   obtain rfl := Option.some.inj hF
   refine ret_1 (fn := Tryz.f19) (r := .tmp 4) hf rfl (rv_tmp hf rfl) ?_
   exact ⟨_, rfl, H.bel, mk_bool⟩

/- loop.example/g00897/laws.FnExactIsCompact -/
set_option maxHeartbeats 1000000 in
theorem laws_FnExactIsCompact_ok {fu : Nat} {w0 : World} {S : Nat → Prop} {v0_ : Value} {v1_ : Value} {aP : Plan} {aHitless : Bool} {r : Bool} (h0 : VR w0 S v0_ aP) (h1 : VR w0 S v1_ aHitless) (hF : laws_FnExactIsCompact fu aP aHitless = some r) :
    Calls Tryz.prog 4 [v0_, v1_].toArray w0 fun e w' => ∃ v, e = .returned v ∧ (Below w0.heap.size w0 w' ∧ VR w' (St ⟨w0, []⟩ S [] [] [] true) v r) := by
 obtain ⟨A, c, A2, c2, A3, c3, rfl, hl, hl2, hl3⟩ := Plan_open h0
 obtain rfl := VR_bool h1
 have H := Mem.start ⟨w0, []⟩ S
 have H := H.pushArg (MP.val [(.slice A aP.Network.Nodes.length c)] aP.Network.Nodes) hl
 have H := H.pushArg (MP.val [(.slice A2 aP.Network.Fibers.length c2)] aP.Network.Fibers) hl2
 have H := H.pushArg (MP.val [(.slice A3 aP.Lights.length c3)] aP.Lights) hl3
 refine enter Tryz.func4 rfl rfl (nle rfl) rfl fun a hf => ?_
 rw [laws_FnExactIsCompact] at hF
 refine sq (reg (wl0 rfl (op_box hf H rfl rfl (by decide) fun b' a w hf H => ?_)))
 refine pr 1 hf rfl rfl fun a hf => ?_
 refine wl_end (then_n (sq (reg (pr 1 hf rfl rfl fun a hf => ?_))))
 refine wl_end (then_n (sq (reg (wl0 rfl (op_q hf (rq_loadBN hf H TF.la28 0 rfl rfl rfl rfl) rfl (by decide) fun a hf => ?_)))))
 refine pr 1 hf rfl rfl fun a hf => ?_
 obtain ⟨y, hy, hF⟩ := bind_some hF
 refine wl0 rfl (op_call hf TF.cl15 rfl (by decide) (laws_szPlan_ok (S := fun _ => True) (Plan_mkv (x := aP) (rep_true (α := List ByteArray) (H.get 2 rfl)) (rep_true (α := List Fiber) (H.get 1 rfl)) (rep_true (α := List Light) (H.get 0 rfl))) mk_int hy) fun v w a hp hf => ?_)
 obtain ⟨hb, hp⟩ := hp
 obtain rfl := VR_int hp
 have H := H.keep hb
 refine pr 1 hf rfl rfl fun a hf => ?_
 refine wl_end (then_n (sq (sq (reg (pr 2 hf rfl rfl fun a hf => ?_)))))
 refine wl_end (then_n (iteB hF (fun hc hF => cd_t hf rfl hc ?_) fun hc hF => cd_f hf rfl hc ?_))
 ·refine sq (reg (pr 1 hf rfl rfl fun a hf => ?_))
  refine wl_end (then_n (wp_ret (then_r (?_))))
  obtain rfl := Option.some.inj hF
  refine ret_1 (fn := Tryz.f4) (r := .tmp 4) hf rfl (rv_tmp hf rfl) ?_
  exact ⟨_, rfl, H.bel, mk_bool⟩
 ·refine wp_skip (then_n (sq (reg (wl0 rfl (op_q hf (rq_loadBN hf H TF.la28 0 rfl rfl rfl rfl) rfl (by decide) fun a hf => ?_)))))
  obtain ⟨y2, hy2, hF⟩ := bind_some hF
  refine wl0 rfl (op_call hf TF.cl17 rfl (by decide) (laws_toPlan_ok (S := fun _ => True) (Plan_mkv (x := aP) (rep_true (α := List ByteArray) (H.get 2 rfl)) (rep_true (α := List Fiber) (H.get 1 rfl)) (rep_true (α := List Light) (H.get 0 rfl))) hy2) fun v2 w a hp2 hf => ?_)
  obtain ⟨hb2, F, hp3, hN⟩ := hp2
  obtain ⟨A4, c4, F2, A5, c5, F3, A6, c6, F4, rfl, rfl, hl4, hl5, hl6⟩ := Plan_vo hp3
  have H := H.addOwn hb2 (X := [(⟨F2, MP.own F2 [(.slice A4 y2.Network.Nodes.length c4)] (y2.Network.Nodes : List ByteArray)⟩ : DI), (⟨F3, MP.own F3 [(.slice A5 y2.Network.Fibers.length c5)] (y2.Network.Fibers : List Fiber)⟩ : DI), (⟨F4, MP.own F4 [(.slice A6 y2.Lights.length c6)] (y2.Lights : List Light)⟩ : DI)]) (by simpa using hN.1) (ps1 hl4 (ps1 hl5 (ps1 hl6 ps0))) (by simpa using hN.2)
  have H := H.lend 0 rfl
  have H := H.lend 1 rfl
  have H := H.lend 2 rfl
  refine pr 1 hf rfl rfl fun a hf => ?_
  obtain ⟨y3, hy3, hF⟩ := bind_some hF
  refine wl0 rfl (op_call hf TF.cl20 rfl (by decide) (spec_IsCompact_ok (S := fun _ => True) (Plan_mkv (x := y2) (rep_true (α := List ByteArray) (H.get 2 rfl)) (rep_true (α := List Fiber) (H.get 1 rfl)) (rep_true (α := List Light) (H.get 0 rfl))) mk_bool hy3) fun v3 w a hp4 hf => ?_)
  obtain ⟨hb3, v4, v5, rfl, hp5, hp6⟩ := hp4
  obtain rfl := VR_bool hp5
  obtain rfl := VR_bool hp6
  have H := H.keep hb3
  refine pr 5 hf rfl rfl fun a hf => ?_
  have hf := hf.prune [1, 2, 6, 7] rfl
  refine wl_end (then_n (sq (reg (wl0 rfl (op_q hf (rq_loadBN hf H TF.la28 0 rfl rfl rfl rfl) rfl (by decide) fun a hf => ?_)))))
  obtain ⟨y4, hy4, hF⟩ := bind_some hF
  refine wl0 rfl (op_call hf TF.cl17 rfl (by decide) (laws_toPlan_ok (S := fun _ => True) (Plan_mkv (x := aP) (rep_true (α := List ByteArray) (H.get 5 rfl)) (rep_true (α := List Fiber) (H.get 4 rfl)) (rep_true (α := List Light) (H.get 3 rfl))) hy4) fun v6 w a hp7 hf => ?_)
  obtain ⟨hb4, F5, hp8, hN2⟩ := hp7
  obtain ⟨A7, c7, F6, A8, c8, F7, A9, c9, F8, rfl, rfl, hl7, hl8, hl9⟩ := Plan_vo hp8
  have H := H.addOwn hb4 (X := [(⟨F6, MP.own F6 [(.slice A7 y4.Network.Nodes.length c7)] (y4.Network.Nodes : List ByteArray)⟩ : DI), (⟨F7, MP.own F7 [(.slice A8 y4.Network.Fibers.length c8)] (y4.Network.Fibers : List Fiber)⟩ : DI), (⟨F8, MP.own F8 [(.slice A9 y4.Lights.length c9)] (y4.Lights : List Light)⟩ : DI)]) (by simpa using hN2.1) (ps1 hl7 (ps1 hl8 (ps1 hl9 ps0))) (by simpa using hN2.2)
  have H := H.lend 0 rfl
  have H := H.lend 1 rfl
  have H := H.lend 2 rfl
  refine wl0 rfl (op_alloc hf H TF.zv37 rfl (by decide) fun b2 a w hf H => ?_)
  refine wl0 rfl (op_storeB hf H 0 TF.sz37 rfl rfl rfl rfl rfl rfl (nle rfl) fun w H => ?_)
  refine wl_end (then_n (sq (reg (wl0 rfl (op_q hf (rq_loadBN hf H TF.la37 0 rfl rfl rfl rfl) rfl (by decide) fun a hf => ?_)))))
  refine pr 1 hf rfl rfl fun a hf => ?_
  obtain ⟨y5, hy5, hF⟩ := bind_some hF
  refine wl0 rfl (op_call hf TF.cl21 rfl (by decide) (impl_IsCompact_ok (S := fun _ => True) (Plan_mkv (x := y4) (rep_true (α := List ByteArray) (H.get 2 rfl)) (rep_true (α := List Fiber) (H.get 1 rfl)) (rep_true (α := List Light) (H.get 0 rfl))) mk_bool hy5) fun v7 w a hp9 hf => ?_)
  obtain ⟨hb5, v8, v9, rfl, hp10, hp11⟩ := hp9
  obtain rfl := VR_bool hp10
  obtain rfl := VR_bool hp11
  have H := H.keep hb5
  refine pr 5 hf rfl rfl fun a hf => ?_
  refine wl_end (then_n (sq (sq ?_)))
  obtain ⟨c10, hGc10, hF⟩ := bind_some hF
  have fh := hf.prune [2, 8] rfl
  have Hm := H.let [true, true] [] [true, true, true, false, false, false] [0, 1, 2, 6, 7, 8] rfl rfl rfl rfl
  refine midF 38 (.bool c10) fh Hm ?_ fun a w hf H => ?_
  ·refine reg (pr 4 hf rfl rfl fun a hf => ?_)
   refine iteB hGc10 (fun hc2 hGc10 => ?_) fun hc2 hGc10 => ?_
   ·have hf := hf.lit 34 rfl hc2
    refine pr 4 hf rfl rfl fun a hf => ?_
    obtain rfl := Option.some.inj hGc10
    have hf := hf.prune [38, 2, 8] rfl
    have H := H.let [true, true] [] [true, true, true, false, false, false] [0, 1, 2, 6, 7, 8] rfl rfl rfl rfl
    exact wl_end ⟨hf, H⟩
   ·have hf := hf.lit 34 rfl hc2
    refine pr 4 hf rfl rfl fun a hf => ?_
    obtain rfl := Option.some.inj hGc10
    have hf := hf.prune [38, 2, 8] rfl
    have H := H.let [true, true] [] [true, true, true, false, false, false] [0, 1, 2, 6, 7, 8] rfl rfl rfl rfl
    exact wl_end ⟨hf, H⟩
  refine then_n (iteB hF (fun hc3 hF => cd_t hf rfl hc3 ?_) fun hc3 hF => cd_f hf rfl hc3 ?_)
  ·refine sq (reg (pr 1 hf rfl rfl fun a hf => ?_))
   refine wl_end (then_n (wp_ret (then_r (?_))))
   obtain rfl := Option.some.inj hF
   refine ret_1 (fn := Tryz.f4) (r := .tmp 4) hf rfl (rv_tmp hf rfl) ?_
   exact ⟨_, rfl, H.bel, mk_bool⟩
  ·refine wp_skip (then_n (sq (sq (drawn [] (bs := [false, false, false, false, false]) (fuel := 5) (Checked.mixed Tryz.checked) rfl rfl fun w hb => ?_))))
   have H := H.keep hb
   refine strT (H.let [true, false] [] [false, false, false] [] rfl rfl rfl rfl) (fun w H => trivial) fun hS => ?_
   refine tS 0 [] rfl rfl rfl rfl hf (by kernel_rfl) (by kernel_rfl) hS (fun w H => rq_loadBN hf H TF.la37 0 rfl rfl rfl rfl) fun a hf => ?_
   refine strT (H.let [true, true] [] [false, false, false] [] rfl rfl rfl rfl) (fun w H => H.let [true, false] [] [] [] rfl rfl rfl rfl) fun hS => ?_
   refine tS 1 [] rfl rfl rfl rfl hf (by kernel_rfl) (by kernel_rfl) hS (fun w H => rq_loadBN hf H TF.la28 1 rfl rfl rfl rfl) fun a hf => ?_
   obtain ⟨y6, hy6, hF⟩ := bind_some hF
   refine n1 2 (by kernel_rfl) rfl rfl (op_call hf TF.cl17 rfl (by decide) (laws_toPlan_ok (S := fun _ => True) (Plan_mkv (x := aP) (rep_true (α := List ByteArray) (H.get 5 rfl)) (rep_true (α := List Fiber) (H.get 4 rfl)) (rep_true (α := List Light) (H.get 3 rfl))) hy6) fun v10 w a hp12 hf => ?_)
   obtain ⟨hb6, F9, hp13, hN3⟩ := hp12
   obtain ⟨A10, c11, F10, A11, c12, F11, A12, c13, F12, rfl, rfl, hl10, hl11, hl12⟩ := Plan_vo hp13
   have H := H.addOwn hb6 (X := [(⟨F10, MP.own F10 [(.slice A10 y6.Network.Nodes.length c11)] (y6.Network.Nodes : List ByteArray)⟩ : DI), (⟨F11, MP.own F11 [(.slice A11 y6.Network.Fibers.length c12)] (y6.Network.Fibers : List Fiber)⟩ : DI), (⟨F12, MP.own F12 [(.slice A12 y6.Lights.length c13)] (y6.Lights : List Light)⟩ : DI)]) (by simpa using hN3.1) (ps1 hl10 (ps1 hl11 (ps1 hl12 ps0))) (by simpa using hN3.2)
   have H := H.lend 0 rfl
   have H := H.lend 1 rfl
   have H := H.lend 2 rfl
   have hS := H.let [true, true] [] [false, false, false, false, false, false] [] rfl rfl rfl rfl
   refine ⟨fun _ => hS, ?_⟩
   obtain ⟨y7, hy7, hF⟩ := bind_some hF
   refine n1 3 (by kernel_rfl) rfl rfl (op_call hf TF.cl19 rfl (by decide) (laws_eqPlan_ok (S := fun _ => True) (Plan_mkv (x := y4) (rep_true (α := List ByteArray) (H.get 5 rfl)) (rep_true (α := List Fiber) (H.get 4 rfl)) (rep_true (α := List Light) (H.get 3 rfl))) (Plan_mkv (x := y6) (rep_true (α := List ByteArray) (H.get 2 rfl)) (rep_true (α := List Fiber) (H.get 1 rfl)) (rep_true (α := List Light) (H.get 0 rfl))) hy7) fun v11 w a hp14 hf => ?_)
   obtain ⟨hb7, hp14⟩ := hp14
   obtain rfl := VR_bool hp14
   have H := H.keep hb7
   have hS := H.let [true, true] [] [false, false, false, false, false, false] [] rfl rfl rfl rfl
   refine ⟨fun _ => hS, ?_⟩
   refine tp 4 rfl rfl hf (by kernel_rfl) (fun _ => hS) rfl fun a hf => ?_
   refine dn (by kernel_rfl) ?_
   refine then_n (iteB hF (fun hc4 hF => cd_t hf rfl hc4 ?_) fun hc4 hF => cd_f hf rfl hc4 ?_)
   ·refine sq (reg (pr 1 hf rfl rfl fun a hf => ?_))
    refine wl_end (then_n (wp_ret (then_r (?_))))
    obtain rfl := Option.some.inj hF
    refine ret_1 (fn := Tryz.f4) (r := .tmp 4) hf rfl (rv_tmp hf rfl) ?_
    exact ⟨_, rfl, H.bel, mk_bool⟩
   ·refine wp_skip (then_n (sq (reg (pr 1 hf rfl rfl fun a hf => ?_))))
    refine wl_end (then_n (wp_ret (?_)))
    obtain rfl := Option.some.inj hF
    refine ret_1 (fn := Tryz.f4) (r := .tmp 4) hf rfl (rv_tmp hf rfl) ?_
    exact ⟨_, rfl, H.bel, mk_bool⟩
end AT
