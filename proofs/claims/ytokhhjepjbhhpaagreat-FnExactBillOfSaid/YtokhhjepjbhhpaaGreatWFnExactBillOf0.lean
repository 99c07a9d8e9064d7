/- The Go functions do what is told of them, by program (gen.py). -/
import Derived.Test.YtokhhjepjbhhpaaGreatWC1
set_option linter.unusedVariables false
set_option linter.unusedSimpArgs false
set_option maxRecDepth 100000
namespace AT
open Go Go.RowKit Go.Proofs

/- loop.example/g00897/spec.l9Used -/
set_option maxHeartbeats 1000000 in
theorem spec_l9Used_ok {fu : Nat} {w0 : World} {S : Nat → Prop} {v0_ : Value} {v1_ : Value} {p : Plan} {fiber : Int} {r : Int} (h0 : VR w0 S v0_ p) (h1 : VR w0 S v1_ fiber) (hF : spec_l9Used fu p fiber = some r) :
    Calls Tryz.prog 75 [v0_, v1_].toArray w0 fun e w' => ∃ v, e = .returned v ∧ (Below w0.heap.size w0 w' ∧ VR w' (St ⟨w0, []⟩ S [] [] [] true) v r) := by
 obtain ⟨A, c, A2, c2, A3, c3, rfl, hl, hl2, hl3⟩ := Plan_open h0
 obtain rfl := VR_int h1
 have H := Mem.start ⟨w0, []⟩ S
 have H := H.pushArg (MP.val [(.slice A p.Network.Nodes.length c)] p.Network.Nodes) hl
 have H := H.pushArg (MP.val [(.slice A2 p.Network.Fibers.length c2)] p.Network.Fibers) hl2
 have H := H.pushArg (MP.val [(.slice A3 p.Lights.length c3)] p.Lights) hl3
 refine enter Tryz.func75 rfl rfl (nle rfl) rfl fun a hf => ?_
 rw [spec_l9Used] at hF
 refine sq (reg (wl0 rfl (op_box hf H rfl rfl (by decide) fun b' a w hf H => ?_)))
 refine pr 1 hf rfl rfl fun a hf => ?_
 refine wl_end (then_n (sq (reg (pr 1 hf rfl rfl fun a hf => ?_))))
 refine wl_end (then_n (sq (sq (reg (pr 1 hf rfl rfl fun a hf => ?_)))))
 refine wl_end (then_n ?_)
 obtain ⟨out2, hB1, hF⟩ := bind_some hF
 have hf := hf.prune [1, 2, 5, 6] rfl
 have H := H.let [true] [] [] [0, 1, 2] rfl rfl rfl rfl
 refine loopC (fun (s : Int × Int) (a : Act) (w : World) => match s with | (out', i) => Fr a 33 [(1, (.int .i64 fiber)), (2, (.pointer (some ⟨b', 0, none⟩))), (5, (.int .i64 out')), (6, (.int .i64 i))] ∧ Mem ⟨w0, []⟩ S [⟨b', 37, [(.slice A p.Network.Nodes.length c), (.slice A2 p.Network.Fibers.length c2), (.slice A3 p.Lights.length c3)]⟩] [] [] [(false, MP.val [(.slice A3 p.Lights.length c3)] (p.Lights : List Light)), (false, MP.val [(.slice A2 p.Network.Fibers.length c2)] (p.Network.Fibers : List Fiber)), (false, MP.val [(.slice A p.Network.Nodes.length c)] (p.Network.Nodes : List ByteArray))] w) (fun k (s : Int × Int) => spec_l9Used_L1 fu p fiber k s.1 s.2 = some out2) (fun s => out2 = s) (0, 0) fu hB1 ⟨hf, H⟩ (fun s h => by cases h) ?_ ?_
 ·rintro fk ⟨out', i⟩ a w hR1 hI
  replace hR1 : spec_l9Used_L1 fu p fiber (fk + 1) out' i = some out2 := hR1
  rw [spec_l9Used_L1] at hR1
  obtain ⟨hf, H⟩ := hI
  refine sq (sq (reg (pr 2 hf rfl rfl fun a hf => ?_)))
  refine wl0 rfl (op_q hf (rq_loadB hf H TF.ls35 0 rfl rfl rfl) rfl (by decide) fun a hf => ?_)
  refine pr 2 hf rfl rfl fun a hf => ?_
  refine wl_end (then_n (iteB hR1 (fun hc hR1 => cd_t hf rfl hc ?_) fun hc hR1 => cd_f hf rfl hc ?_))
  ·refine wp_skip (then_n (sq (wp_block (sq (reg (pr 1 hf rfl rfl fun a hf => ?_))))))
   refine wl0 rfl (op_q hf (rq_loadB hf H TF.ls35 0 rfl rfl rfl) rfl (by decide) fun a hf => ?_)
   refine pr 1 hf rfl rfl fun a hf => ?_
   obtain ⟨e, he, hR1⟩ := bind_some hR1
   refine wl0 rfl (op_iaddr hf H Tryz.underlying35 TF.sz112 0 rfl rfl rfl he (by decide) fun p2 o cs a hf hr H => ?_)
   obtain ⟨A4, c4, rfl, hl4⟩ := Light_cells hr
   have H := H.push (false, MP.val [(.slice A4 e.Route.Fibers.length c4)] e.Route.Fibers) hl4
   refine pr 2 hf rfl rfl fun a hf => ?_
   refine wl0 rfl (op_q hf (rq_loadI hf H TF.ls44 1 2 rfl rfl rfl) rfl (by decide) fun a hf => ?_)
   refine pr 1 hf rfl rfl fun a hf => ?_
   obtain ⟨y, hy, hR1⟩ := bind_some hR1
   refine wl0 rfl (op_call hf TF.cl140 rfl (by decide) (spec_l1Has_ok (S := fun _ => True) (mk_list (rep_true (α := List Int) (H.get 0 rfl))) mk_int hy) fun v w a hp hf => ?_)
   obtain ⟨hb, hp⟩ := hp
   obtain rfl := VR_bool hp
   have H := H.keep hb
   have hf := hf.prune [1, 2, 5, 6, 22] rfl
   refine wl_end (then_n (iteB hR1 (fun hc2 hR1 => cd_t hf rfl hc2 ?_) fun hc2 hR1 => cd_f hf rfl hc2 ?_))
   ·refine reg (pr 2 hf rfl rfl fun a hf => ?_)
    refine wl0 rfl (op_q hf (rq_loadB hf H TF.ls35 0 rfl rfl rfl) rfl (by decide) fun a hf => ?_)
    refine pr 1 hf rfl rfl fun a hf => ?_
    obtain ⟨e2, he2, hR1⟩ := bind_some hR1
    refine wl0 rfl (op_iaddr hf H Tryz.underlying35 TF.sz112 2 rfl rfl rfl he2 (by decide) fun p3 o2 cs2 a hf hr2 H => ?_)
    obtain ⟨A5, c5, rfl, hl5⟩ := Light_cells hr2
    have H := H.push (false, MP.val [(.slice A5 e2.Route.Fibers.length c5)] e2.Route.Fibers) hl5
    refine pr 1 hf rfl rfl fun a hf => ?_
    refine wl0 rfl (op_q hf (rq_loadIN hf H TF.la110 1 3 rfl rfl rfl rfl) rfl (by decide) fun a hf => ?_)
    obtain ⟨y2, hy2, hR1⟩ := bind_some hR1
    refine wl0 rfl (op_call hf TF.cl141 rfl (by decide) (spec_l8Bits_ok (S := fun _ => True) Block_mkv hy2) fun v2 w a hp2 hf => ?_)
    obtain ⟨hb2, hp2⟩ := hp2
    obtain rfl := VR_int hp2
    have H := H.keep hb2
    refine pr 2 hf rfl rfl fun a hf => ?_
    refine wl_end (blk_n (then_n (reg (pr 3 hf rfl rfl fun a hf => ?_))))
    refine wl_end ?_
    have hf := hf.prune [1, 2, 5, 6] rfl
    have H := H.let [true] [] [] [4, 5, 6] rfl rfl rfl rfl
    exact then_n ⟨(bor out' y2, w64 (i + 1)), hR1, hf, H⟩
   ·refine wp_skip (blk_n (then_n (reg (pr 3 hf rfl rfl fun a hf => ?_))))
    refine wl_end ?_
    have hf := hf.prune [1, 2, 5, 6] rfl
    have H := H.let [true] [] [] [2, 3, 4] rfl rfl rfl rfl
    exact then_n ⟨(out', w64 (i + 1)), hR1, hf, H⟩
  ·refine wp_exit (then_x (then_x (blk_e (?_))))
   have hf := hf.prune [1, 2, 5, 6] rfl
   have H := H.let [true] [] [] [0, 1, 2] rfl rfl rfl rfl
   exact ⟨(out', i), (Option.some.inj hR1).symm, hf, H⟩
 rintro a w ⟨⟨out3, i2⟩, rfl, hf, H⟩
 dsimp only at hF
 refine then_n (sq (reg (pr 2 hf rfl rfl fun a hf => ?_)))
 refine wl_end (then_n (wp_ret (?_)))
 obtain rfl := Option.some.inj hF
 refine ret_1 (fn := Tryz.f75) (r := .tmp 4) hf rfl (rv_tmp hf rfl) ?_
 exact ⟨_, rfl, H.bel, mk_int⟩

/- loop.example/g00897/impl.fiberMasks -/
set_option maxHeartbeats 1000000 in
theorem impl_fiberMasks_ok {fu : Nat} {w0 : World} {S : Nat → Prop} {v0_ : Value} {p : Plan} {r : List Int} (h0 : VR w0 S v0_ p) (hF : impl_fiberMasks fu p = some r) :
    Calls Tryz.prog 77 [v0_].toArray w0 fun e w' => ∃ v, e = .returned v ∧ (Below w0.heap.size w0 w' ∧ ∃ F0, VO w' F0 v r ∧ New w0 w' F0) := by
 obtain ⟨A, c, A2, c2, A3, c3, rfl, hl, hl2, hl3⟩ := Plan_open h0
 have H := Mem.start ⟨w0, []⟩ S
 have H := H.pushArg (MP.val [(.slice A p.Network.Nodes.length c)] p.Network.Nodes) hl
 have H := H.pushArg (MP.val [(.slice A2 p.Network.Fibers.length c2)] p.Network.Fibers) hl2
 have H := H.pushArg (MP.val [(.slice A3 p.Lights.length c3)] p.Lights) hl3
 refine enter Tryz.func77 rfl rfl (nle rfl) rfl fun a hf => ?_
 rw [impl_fiberMasks] at hF
 refine sq (reg (wl0 rfl (op_box hf H rfl rfl (by decide) fun b' a w hf H => ?_)))
 refine pr 1 hf rfl rfl fun a hf => ?_
 refine wl_end (then_n (sq (reg (pr 2 hf rfl rfl fun a hf => ?_))))
 refine wl0 rfl (op_q hf (rq_loadB hf H TF.ls32 0 rfl rfl rfl) rfl (by decide) fun a hf => ?_)
 refine pr 1 hf rfl rfl fun a hf => ?_
 obtain ⟨l, hl, hF⟩ := bind_some hF
 refine wl0 rfl (op_make (z0 := (0 : Int)) hf H Tryz.underlying44 TF.ai3 rfl (by decide) rfl rfl rfl hl (by decide) fun A4 c4 a w hf H => ?_)
 refine pr 1 hf rfl rfl fun a hf => ?_
 refine wl_end (then_n (sq (sq (reg (pr 1 hf rfl rfl fun a hf => ?_)))))
 refine wl0 rfl (op_q hf (rq_loadB hf H TF.ls35 0 rfl rfl rfl) rfl (by decide) fun a hf => ?_)
 refine pr 2 hf rfl rfl fun a hf => ?_
 refine wl_end (then_n ?_)
 obtain ⟨out2, hB1, hF⟩ := bind_some hF
 have hf := hf.prune [3, 14, 15, 16] rfl
 have H := H.let [false] [true] [] [0] rfl rfl rfl rfl
 refine loopC (fun (s : List Int × Int) (a : Act) (w : World) => match s with | (out', i) => ∃ (A5 : Option Addr) (c5 : Nat) (E : Go.TypeId), Fr a 40 [(3, (.slice A5 out'.length c5)), (14, (.slice A3 p.Lights.length c3)), (15, (.int .i64 (p.Lights.length : Int))), (16, (.int .i64 i))] ∧ Mem ⟨w0, []⟩ S [] [⟨.sh true, E, A5, c5, (out' : List Int)⟩] [] [(false, MP.val [(.slice A3 p.Lights.length c3)] (p.Lights : List Light))] w) (fun k (s : List Int × Int) => impl_fiberMasks_L1 fu p k s.1 s.2 = some out2) (fun s => out2 = s) (l, 0) fu hB1 ⟨A4, c4, 3, hf, H⟩ (fun s h => by cases h) ?_ ?_
 ·rintro fk ⟨out', i⟩ a w hR1 hI
  replace hR1 : impl_fiberMasks_L1 fu p (fk + 1) out' i = some out2 := hR1
  rw [impl_fiberMasks_L1] at hR1
  obtain ⟨A5, c5, E, hf, H⟩ := hI
  refine sq (reg (pr 1 hf rfl rfl fun a hf => ?_))
  refine wl_end (then_n (sq (iteB hR1 (fun hc hR1 => cd_t hf rfl hc ?_) fun hc hR1 => cd_f hf rfl hc ?_)))
  ·refine wp_skip (then_n (sq (wp_block (sq (reg ?_)))))
   obtain ⟨e, he, hR1⟩ := bind_some hR1
   refine wl0 rfl (op_iaddr hf H Tryz.underlying35 TF.sz112 0 rfl rfl rfl he (by decide) fun p2 o cs a hf hr H => ?_)
   obtain ⟨A6, c6, rfl, hl4⟩ := Light_cells hr
   have H := H.push (false, MP.val [(.slice A6 e.Route.Fibers.length c6)] e.Route.Fibers) hl4
   refine wl0 rfl (op_q hf (rq_loadIN hf H TF.la112 1 0 rfl rfl rfl rfl) rfl (by decide) fun a hf => ?_)
   refine wl0 rfl (op_alloc hf H TF.zv112 rfl (by decide) fun b2 a w hf H => ?_)
   refine wl0 rfl (op_storeB hf H 0 TF.sz112 rfl rfl rfl rfl rfl rfl (nle rfl) fun w H => ?_)
   refine wl_end (then_n (sq (reg (pr 2 hf rfl rfl fun a hf => ?_))))
   refine wl0 rfl (op_q hf (rq_loadB hf H TF.ls44 0 rfl rfl rfl) rfl (by decide) fun a hf => ?_)
   refine pr 2 hf rfl rfl fun a hf => ?_
   refine wl_end (then_n ?_)
   obtain ⟨out4, hB2, hR1⟩ := bind_some hR1
   have hf := hf.prune [3, 5, 14, 15, 16, 22, 23, 24] rfl
   have H := H.let [true] [true] [] [0, 2] rfl rfl rfl rfl
   refine loopC (fun (s : List Int × Int) (a : Act) (w : World) => match s with | (out3, i2) => ∃ (A7 : Option Addr) (c7 : Nat) (E2 : Go.TypeId), Fr a 40 [(3, (.slice A7 out3.length c7)), (5, (.pointer (some ⟨b2, 0, none⟩))), (14, (.slice A3 p.Lights.length c3)), (15, (.int .i64 (p.Lights.length : Int))), (16, (.int .i64 i)), (22, (.slice A6 e.Route.Fibers.length c6)), (23, (.int .i64 (e.Route.Fibers.length : Int))), (24, (.int .i64 i2))] ∧ Mem ⟨w0, []⟩ S [⟨b2, 112, [(.int .i64 e.Id), (.int .i64 e.Route.Start), (.slice A6 e.Route.Fibers.length c6), (.int .i64 e.Block.First), (.int .i64 e.Block.Count)]⟩] [⟨.sh true, E2, A7, c7, (out3 : List Int)⟩] [] [(false, MP.val [(.slice A6 e.Route.Fibers.length c6)] (e.Route.Fibers : List Int)), (false, MP.val [(.slice A3 p.Lights.length c3)] (p.Lights : List Light))] w) (fun k (s : List Int × Int) => impl_fiberMasks_L2 fu e k s.1 s.2 = some out4) (fun s => out4 = s) (out', 0) fu hB2 ⟨A5, c5, E, hf, H⟩ (fun s h => by cases h) ?_ ?_
   ·rintro fk ⟨out3, i2⟩ a w hR2 hI
    replace hR2 : impl_fiberMasks_L2 fu e (fk + 1) out3 i2 = some out4 := hR2
    rw [impl_fiberMasks_L2] at hR2
    obtain ⟨A7, c7, E2, hf, H⟩ := hI
    refine sq (reg (pr 1 hf rfl rfl fun a hf => ?_))
    refine wl_end (then_n (sq (iteB hR2 (fun hc2 hR2 => cd_t hf rfl hc2 ?_) fun hc2 hR2 => cd_f hf rfl hc2 ?_)))
    ·refine wp_skip (then_n (sq (wp_block (sq (reg ?_)))))
     obtain ⟨e2, he2, hR2⟩ := bind_some hR2
     refine wl0 rfl (op_iaddr hf H Tryz.underlying44 TF.sz3 0 rfl rfl rfl he2 (by decide) fun p3 o2 cs2 a hf hr2 H => ?_)
     obtain rfl := hr2
     refine wl0 rfl (op_q hf (rq_loadI hf H TF.ls3 0 0 rfl rfl rfl) rfl (by decide) fun a hf => ?_)
     refine pr 1 hf rfl rfl fun a hf => ?_
     refine wl_end (then_n (drawn [9] (bs := [false, false, false, false, false, false, false, false, false, false]) (fuel := 10) (Checked.mixed Tryz.checked) rfl rfl fun w hb => ?_))
     have H := H.keep hb
     refine tp 0 rfl rfl hf (by kernel_rfl) (fun _ => trivial) rfl fun a hf => ?_
     refine tp 1 rfl rfl hf (by kernel_rfl) (fun _ => trivial) rfl fun a hf => ?_
     obtain ⟨e3, he3, hR2⟩ := bind_some hR2
     obtain ⟨p4, o3, hA, hx⟩ := pre_iaddrR H Tryz.underlying44 TF.sz3 0 rfl he3
     refine tP 2 rfl rfl rfl rfl hf (by kernel_rfl) (fun _ => trivial) (fun w => rq_iaddrE hf rfl rfl rfl hx w) fun a hf => ?_
     refine strT (H.let [false] [true] [] [] rfl rfl rfl rfl) (fun w H => trivial) fun hS => ?_
     refine tS 3 [3, 7, 8, 9] rfl rfl rfl rfl hf (by kernel_rfl) (by kernel_rfl) hS (fun w H => rq_loadRow (off := 0) hf H TF.ls3 0 rfl rfl hA he3 (fun w T cs h => by obtain rfl := h; rfl)) fun a hf => ?_
     refine tp 4 rfl rfl hf (by kernel_rfl) (fun _ => hS) rfl fun a hf => ?_
     refine strT (H.let [true] [true] [] [] rfl rfl rfl rfl) (fun w H => H.let [false] [true] [] [] rfl rfl rfl rfl) fun hS => ?_
     refine tS 5 [5, 6, 7, 8, 9] rfl rfl rfl rfl hf (by kernel_rfl) (by kernel_rfl) hS (fun w H => rq_loadBN hf H TF.la110 0 rfl rfl rfl rfl) fun a hf => ?_
     obtain ⟨y, hy, hR2⟩ := bind_some hR2
     refine n1 6 (by kernel_rfl) rfl rfl (op_call hf TF.cl128 rfl (by decide) (impl_maskOf_ok (S := fun _ => True) Block_mkv hy) fun v w a hp hf => ?_)
     obtain ⟨hb, hp⟩ := hp
     obtain rfl := VR_int hp
     have H := H.keep hb
     have hS := H.let [true] [true] [] [] rfl rfl rfl rfl
     refine ⟨fun _ => hS, ?_⟩
     refine tp 7 rfl rfl hf (by kernel_rfl) (fun _ => hS) rfl fun a hf => ?_
     obtain ⟨e4, he4, hR2⟩ := bind_some hR2
     refine n1 8 (by kernel_rfl) rfl rfl (op_iaddrR hf H Tryz.underlying44 TF.sz3 0 rfl rfl rfl he4 (by decide) fun p5 o4 cs3 a hf hA2 hr3 hk => ?_)
     obtain rfl := hr3
     have hS := H.let [true] [true] [] [] rfl rfl rfl rfl
     refine ⟨fun _ => hS, ?_⟩
     refine n1 9 (by kernel_rfl) rfl rfl (op_storeR (e' := bor e3 y) (o := o4) (off := 0) hf H TF.sz3 0 rfl rfl rfl rfl rfl (nle rfl) rfl hA2 he4 (st_full rfl) fun w H => ?_)
     replace hf : Fr a 40 [(3, (.slice A7 out3.length c7)), (5, (.pointer (some ⟨b2, 0, none⟩))), (7, (.int .i64 e2)), (14, (.slice A3 p.Lights.length c3)), (15, (.int .i64 (p.Lights.length : Int))), (16, (.int .i64 i)), (22, (.slice A6 e.Route.Fibers.length c6)), (23, (.int .i64 (e.Route.Fibers.length : Int))), (24, (.int .i64 i2)), (25, (.bool (decide (i2 < (e.Route.Fibers.length : Int))))), (26, (.pointer (some ⟨p3, o2 + 0, none⟩))), (27, (.int .i64 e2)), (28, (.slice A7 out3.length c7)), (29, (.int .i64 e2)), (30, (.pointer (some ⟨p4, o3 + 0, none⟩))), (31, (.int .i64 e3)), (32, (.pointer (some ⟨b2, 3, none⟩))), (33, (.agg #[(.int .i64 e.Block.First), (.int .i64 e.Block.Count)])), (34, (.int .i64 y)), (35, (.int .i64 (bor e3 y))), (36, (.pointer (some ⟨p5, o4 + 0, none⟩)))] := hf.prune [3, 5, 7, 14, 15, 16, 22, 23, 24, 25, 26, 27, 28, 29, 30, 31, 32, 33, 34, 35, 36] rfl
     replace hf : Fr a 40 [(3, (.slice A7 (out3.set (e2).toNat (bor e3 y)).length c7)), (5, (.pointer (some ⟨b2, 0, none⟩))), (7, (.int .i64 e2)), (14, (.slice A3 p.Lights.length c3)), (15, (.int .i64 (p.Lights.length : Int))), (16, (.int .i64 i)), (22, (.slice A6 e.Route.Fibers.length c6)), (23, (.int .i64 (e.Route.Fibers.length : Int))), (24, (.int .i64 i2)), (25, (.bool (decide (i2 < (e.Route.Fibers.length : Int))))), (26, (.pointer (some ⟨p3, o2 + 0, none⟩))), (27, (.int .i64 e2)), (28, (.slice A7 (out3.set (e2).toNat (bor e3 y)).length c7)), (29, (.int .i64 e2)), (30, (.pointer (some ⟨p4, o3 + 0, none⟩))), (31, (.int .i64 e3)), (32, (.pointer (some ⟨b2, 3, none⟩))), (33, (.agg #[(.int .i64 e.Block.First), (.int .i64 e.Block.Count)])), (34, (.int .i64 y)), (35, (.int .i64 (bor e3 y))), (36, (.pointer (some ⟨p5, o4 + 0, none⟩)))] := by simpa only [List.length_set, Nat.add_zero] using hf
     refine ⟨fun h => absurd h (by decide), ?_⟩
     refine dn (by kernel_rfl) ?_
     have hf := hf.prune [3, 5, 14, 15, 16, 22, 23, 24] rfl
     refine blk_n (then_n (reg (pr 2 hf rfl rfl fun a hf => ?_)))
     refine wl_end ?_
     have hf := hf.prune [3, 5, 14, 15, 16, 22, 23, 24] rfl
     have H := H.let [true] [true] [] [1, 2] rfl rfl rfl rfl
     exact then_n ⟨(out3.set (e2).toNat (bor e3 y), w64 (i2 + 1)), hR2, A7, c7, E2, hf, H⟩
    ·refine wp_exit (then_x (then_x (blk_e (?_))))
     have hf := hf.prune [3, 5, 14, 15, 16, 22, 23, 24] rfl
     have H := H.let [true] [true] [] [0, 1] rfl rfl rfl rfl
     exact ⟨(out3, i2), (Option.some.inj hR2).symm, A7, c7, E2, hf, H⟩
   rintro a w ⟨⟨out5, i3⟩, rfl, A8, c8, E3, hf, H⟩
   dsimp only at hR1
   refine blk_n (then_n (reg (pr 2 hf rfl rfl fun a hf => ?_)))
   refine wl_end ?_
   have hf := hf.prune [3, 14, 15, 16] rfl
   have H := H.let [false] [true] [] [1] rfl rfl rfl rfl
   exact then_n ⟨(out5, w64 (i + 1)), hR1, A8, c8, E3, hf, H⟩
  ·refine wp_exit (then_x (then_x (blk_e (?_))))
   have hf := hf.prune [3, 14, 15, 16] rfl
   have H := H.let [] [true] [] [0] rfl rfl rfl rfl
   exact ⟨(out', i), (Option.some.inj hR1).symm, A5, c5, E, hf, H⟩
 rintro a w ⟨⟨out6, i4⟩, rfl, A9, c9, E4, hf, H⟩
 dsimp only at hF
 refine then_n (sq (reg (pr 2 hf rfl rfl fun a hf => ?_)))
 refine wl_end (then_n (wp_ret (?_)))
 have H := H.rowOwn 0 rfl rfl
 obtain ⟨F, H⟩ := H.freezeOwn 0 rfl
 have H := H.lend 0 rfl
 obtain rfl := Option.some.inj hF
 refine ret_1 (fn := Tryz.f77) (r := .tmp 2) hf rfl (rv_tmp hf rfl) ?_
 have hN := H.ends (X := [(⟨F, MP.own F [(.slice A9 out6.length c9)] (out6 : List Int)⟩ : DI)])
 simp only [List.flatMap_cons, List.flatMap_nil, List.append_nil, List.append_assoc] at hN
 exact ⟨_, rfl, H.bel, F, (mko_list (H.ownAt 0 rfl)), by first | exact hN | simpa using hN⟩

/- loop.example/g00897/laws.markText -/
set_option maxHeartbeats 1000000 in
theorem laws_markText_ok {fu : Nat} {w0 : World} {S : Nat → Prop} {v0_ : Value} {k' : Int} {r : ByteArray} (h0 : VR w0 S v0_ k') (hF : laws_markText fu k' = some r) :
    Calls Tryz.prog 199 [v0_].toArray w0 fun e w' => ∃ v, e = .returned v ∧ (Below w0.heap.size w0 w' ∧ VR w' (St ⟨w0, []⟩ S [] [] [] true) v r) := by
 obtain rfl := VR_int h0
 have H := Mem.start ⟨w0, []⟩ S
 refine enter Tryz.func199 rfl rfl (nle rfl) rfl fun a hf => ?_
 rw [laws_markText] at hF
 refine sq (reg (pr 1 hf rfl rfl fun a hf => ?_))
 refine wl_end (then_n (sq (sq (reg (pr 2 hf rfl rfl fun a hf => ?_)))))
 refine wl_end (then_n (iteB hF (fun hc hF => cd_t hf rfl hc ?_) fun hc hF => cd_f hf rfl hc ?_))
 ·refine sq (reg (pr 1 hf rfl rfl fun a hf => ?_))
  refine wl_end (then_n (wp_ret (then_r (?_))))
  obtain rfl := Option.some.inj hF
  refine ret_1 (fn := Tryz.f199) (r := .tmp 2) hf rfl (rv_tmp hf rfl) ?_
  exact ⟨_, rfl, H.bel, mk_str⟩
 ·refine wp_skip (then_n (sq (reg (pr 1 hf rfl rfl fun a hf => ?_))))
  refine wl_end (then_n (sq ?_))
  obtain ⟨out2, hB1, hF⟩ := bind_some hF
  have hf := hf.prune [0, 3] rfl
  have H := H.let [] [] [] [] rfl rfl rfl rfl
  refine loopC (fun (s : Int × ByteArray) (a : Act) (w : World) => match s with | (k2, out') => Fr a 20 [(0, (.int .i64 k2)), (3, (.string out'))] ∧ Mem ⟨w0, []⟩ S [] [] [] [] w) (fun k (s : Int × ByteArray) => laws_markText_L1 fu k s.1 s.2 = some out2) (fun s => out2 = s) (k', ByteArray.empty) fu hB1 ⟨hf, H⟩ (fun s h => by cases h) ?_ ?_
  ·rintro fk ⟨k2, out'⟩ a w hR1 hI
   replace hR1 : laws_markText_L1 fu (fk + 1) k2 out' = some out2 := hR1
   rw [laws_markText_L1] at hR1
   obtain ⟨hf, H⟩ := hI
   refine sq (sq (reg (pr 2 hf rfl rfl fun a hf => ?_)))
   refine wl_end (then_n (iteB hR1 (fun hc2 hR1 => cd_t hf rfl hc2 ?_) fun hc2 hR1 => cd_f hf rfl hc2 ?_))
   ·refine wp_skip (then_n (wp_block (sq (reg (pr 1 hf rfl rfl fun a hf => ?_)))))
    obtain ⟨q, hq, hR1⟩ := bind_some hR1
    refine wl0 rfl (op_q hf (rq_rem hf rfl rfl hq) rfl (by decide) fun a hf => ?_)
    refine pr 1 hf rfl rfl fun a hf => ?_
    refine wl0 rfl (op_q hf (rq_conv u8w Tryz.underlying3 Tryz.underlying5 hf rfl) rfl (by decide) fun a hf => ?_)
    refine wl0 rfl (op_bslice hf H (.sh true) rfl 5 ([(⟨wu8 (w64 (48 + q))⟩ : By)] : List By) [(.int .u8 (wu8 (w64 (48 + q))))] rfl (fun w => by kernel_rfl) rfl (by decide) rfl trivial (el1 (y := (⟨wu8 (w64 (48 + q))⟩ : By)) (rfl)) (by decide) fun A a w hf H => ?_)
    refine wl0 rfl (op_q hf (rq_convBS Tryz.underlying229 Tryz.underlying5 Tryz.underlying9 hf rfl (H.rowTrue 0 rfl)) rfl (by decide) fun a hf => ?_)
    refine pr 1 hf rfl rfl fun a hf => ?_
    obtain ⟨s', hs', hR1⟩ := bind_some hR1
    refine wl0 rfl (op_q hf (rq_scat hf rfl rfl hs') rfl (by decide) fun a hf => ?_)
    refine pr 1 hf rfl rfl fun a hf => ?_
    refine wl_end (then_n (reg (pr 1 hf rfl rfl fun a hf => ?_)))
    obtain ⟨q2, hq2, hR1⟩ := bind_some hR1
    refine wl0 rfl (op_q hf (rq_quo hf rfl rfl hq2) rfl (by decide) fun a hf => ?_)
    refine pr 1 hf rfl rfl fun a hf => ?_
    refine wl_end (blk_n ?_)
    have hf := hf.prune [0, 3] rfl
    have H := H.let [] [false] [] [] rfl rfl rfl rfl
    exact then_n ⟨(q2, s'), hR1, hf, H⟩
   ·refine wp_exit (then_x (then_x (blk_e (?_))))
    have hf := hf.prune [0, 3] rfl
    have H := H.let [] [] [] [] rfl rfl rfl rfl
    exact ⟨(k2, out'), (Option.some.inj hR1).symm, hf, H⟩
  rintro a w ⟨⟨k3, out3⟩, rfl, hf, H⟩
  dsimp only at hF
  refine then_n (sq (reg (pr 1 hf rfl rfl fun a hf => ?_)))
  obtain ⟨s2, hs2, hF⟩ := bind_some hF
  refine wl0 rfl (op_q hf (rq_scat hf rfl rfl hs2) rfl (by decide) fun a hf => ?_)
  refine pr 1 hf rfl rfl fun a hf => ?_
  refine wl_end (then_n (wp_ret (?_)))
  obtain rfl := Option.some.inj hF
  refine ret_1 (fn := Tryz.f199) (r := .tmp 2) hf rfl (rv_tmp hf rfl) ?_
  exact ⟨_, rfl, H.bel, mk_str⟩

/- loop.example/g00897/laws.markStringS -/
set_option maxHeartbeats 1000000 in
theorem laws_markStringS_ok {fu : Nat} {w0 : World} {S : Nat → Prop} {F : List Nat} {cs : List Value} {v1_ : Value} {a' : List ByteArray} {k' : Int} {r : Int × List ByteArray} (hO : GoTy.own w0 F cs a') (hn : F.Nodup) (h1 : VR w0 S v1_ k') (hF : laws_markStringS fu a' k' = some r) :
    Calls Tryz.prog 145 [(bif GoTy.agg (List ByteArray) then .agg cs.toArray else cs.headD undef), v1_].toArray w0 fun e w' => ∃ v, e = .returned v ∧ (Chg w0 w' F ∧ VR w' (fun _ => True) v r.1 ∧ ∃ F', GoTy.own w' F' cs r.2 ∧ Back w0 w' F F') := by
 obtain rfl := VR_int h1
 obtain ⟨A, c, rfl, hO⟩ := own_list hO
 have H := Mem.startG S hO hn
 obtain ⟨Fs, E, H, -⟩ := H.thaw rfl
 have H := H.rowSh 0 rfl
 refine enter Tryz.func145 rfl rfl (nle rfl) rfl fun a hf => ?_
 rw [laws_markStringS] at hF
 refine sq (reg (pr 1 hf rfl rfl fun a hf => ?_))
 refine wl_end (then_n (sq (sq (reg (pr 1 hf rfl rfl fun a hf => ?_)))))
 refine wl_end (then_n ?_)
 obtain ⟨out', hB1, hF⟩ := bind_some hF
 have hf := hf.prune [0, 1, 5] rfl
 have hf : Fr a 20 [(0, (.slice A a'.length c)), (1, (.int .i64 k')), (5, (.int .i64 0))] := by first | exact hf | (simp only [List.length_set] at hf; exact hf)
 have H := H.let [] [true] [] [] rfl rfl rfl rfl
 refine loopC (fun (s : List ByteArray × Int × Int) (a : Act) (w : World) => match s with | (a2, k2, i) => a2.length = a'.length ∧ Fr a 20 [(0, (.slice A a'.length c)), (1, (.int .i64 k2)), (5, (.int .i64 i))] ∧ Mem ⟨w0, F⟩ S [] [⟨.sh true, E, A, c, (a2 : List ByteArray)⟩] [] [] w) (fun k (s : List ByteArray × Int × Int) => laws_markStringS_L1 fu k s.1 s.2.1 s.2.2 = some out') (fun s => out' = s) (a', k', 0) fu hB1 ⟨rfl, hf, H⟩ (fun s h => by cases h) ?_ ?_
 ·rintro fk ⟨a2, k2, i⟩ a w hR1 hI
  replace hR1 : laws_markStringS_L1 fu (fk + 1) a2 k2 i = some out' := hR1
  rw [laws_markStringS_L1] at hR1
  obtain ⟨hlen, hf, H⟩ := hI
  have hf : Fr a 20 [(0, (.slice A a2.length c)), (1, (.int .i64 k2)), (5, (.int .i64 i))] := by rw [hlen]; exact hf
  refine sq (sq (reg (pr 4 hf rfl rfl fun a hf => ?_)))
  refine wl_end (then_n (iteB hR1 (fun hc hR1 => cd_t hf rfl hc ?_) fun hc hR1 => cd_f hf rfl hc ?_))
  ·refine wp_skip (then_n (sq (wp_block (sq (reg (pr 3 hf rfl rfl fun a hf => ?_))))))
   obtain ⟨y, hy, hR1⟩ := bind_some hR1
   refine wl0 rfl (op_call hf TF.cl199 rfl (by decide) (laws_markText_ok (S := fun _ => True) mk_int hy) fun v w a hp hf => ?_)
   obtain ⟨hb, hp⟩ := hp
   obtain rfl := VR_str hp
   have H := H.keep hb
   obtain ⟨e, he, hR1⟩ := bind_some hR1
   refine wl0 rfl (op_iaddrR hf H Tryz.underlying22 TF.sz9 0 rfl rfl rfl he (by decide) fun p o cs a hf hA hr hk => ?_)
   obtain rfl := hr
   refine wl0 rfl (op_storeR (e' := y) (o := o) (off := 0) hf H TF.sz9 0 rfl rfl rfl rfl rfl (nle rfl) rfl hA he (st_full rfl) fun w H => ?_)
   replace hf : Fr a 20 [(0, (.slice A a2.length c)), (1, (.int .i64 k2)), (5, (.int .i64 i)), (6, (.int .i64 i)), (7, (.slice A a2.length c)), (8, (.int .i64 (a2.length : Int))), (9, (.bool (decide (i < (a2.length : Int))))), (12, (.slice A a2.length c)), (13, (.int .i64 i)), (14, (.int .i64 k2)), (15, (.string y)), (16, (.pointer (some ⟨p, o + 0, none⟩)))] := hf.prune [0, 1, 5, 6, 7, 8, 9, 12, 13, 14, 15, 16] rfl
   replace hf : Fr a 20 [(0, (.slice A (a2.set (i).toNat y).length c)), (1, (.int .i64 k2)), (5, (.int .i64 i)), (6, (.int .i64 i)), (7, (.slice A (a2.set (i).toNat y).length c)), (8, (.int .i64 (a2.length : Int))), (9, (.bool (decide (i < (a2.length : Int))))), (12, (.slice A (a2.set (i).toNat y).length c)), (13, (.int .i64 i)), (14, (.int .i64 k2)), (15, (.string y)), (16, (.pointer (some ⟨p, o + 0, none⟩)))] := by simpa only [List.length_set, Nat.add_zero] using hf
   refine wl_end (then_n (reg (pr 3 hf rfl rfl fun a hf => ?_)))
   refine wl_end (blk_n (then_n (reg (pr 3 hf rfl rfl fun a hf => ?_))))
   have hf := hf.prune [0, 1, 5] rfl
   refine wl_end ?_
   have hf := hf.prune [0, 1, 5] rfl
   have hf : Fr a 20 [(0, (.slice A a'.length c)), (1, (.int .i64 (w64 (k2 + 1)))), (5, (.int .i64 (w64 (i + 1))))] := by first | exact hf | (simp only [List.length_set, hlen] at hf; exact hf)
   have H := H.let [] [true] [] [] rfl rfl rfl rfl
   exact then_n ⟨(a2.set (i).toNat y, w64 (k2 + 1), w64 (i + 1)), hR1, (by simp only [List.length_set, hlen]), hf, H⟩
  ·refine wp_exit (then_x (then_x (blk_e (?_))))
   have hf := hf.prune [0, 1, 5] rfl
   have hf : Fr a 20 [(0, (.slice A a'.length c)), (1, (.int .i64 k2)), (5, (.int .i64 i))] := by first | exact hf | (simp only [List.length_set, hlen] at hf; exact hf)
   have H := H.let [] [true] [] [] rfl rfl rfl rfl
   exact ⟨(a2, k2, i), (Option.some.inj hR1).symm, (by simp only [List.length_set, hlen]), hf, H⟩
 rintro a w ⟨⟨a3, k3, i2⟩, rfl, hlen, hf, H⟩
 try dsimp only at hlen
 have hf : Fr a 20 [(0, (.slice A a3.length c)), (1, (.int .i64 k3)), (5, (.int .i64 i2))] := by rw [hlen]; exact hf
 dsimp only at hF
 refine then_n (sq (reg (pr 2 hf rfl rfl fun a hf => ?_)))
 refine wl_end (then_n (wp_ret (?_)))
 have H := H.rowOwn 0 rfl rfl
 obtain ⟨F', H⟩ := H.freezeOwn 0 rfl
 rw [hlen] at H
 obtain rfl := Option.some.inj hF
 refine ret_1 (fn := Tryz.f145) (r := .tmp 4) hf rfl (rv_tmp hf rfl) ?_
 exact ⟨_, rfl, H.chg, mk_int, _, H.ownAt 0 rfl, H.back⟩

/- loop.example/g00897/laws.markFiberS -/
set_option maxHeartbeats 1000000 in
theorem laws_markFiberS_ok {fu : Nat} {w0 : World} {S : Nat → Prop} {F : List Nat} {cs : List Value} {v1_ : Value} {a' : List Fiber} {k' : Int} {r : Int × List Fiber} (hO : GoTy.own w0 F cs a') (hn : F.Nodup) (h1 : VR w0 S v1_ k') (hF : laws_markFiberS fu a' k' = some r) :
    Calls Tryz.prog 146 [(bif GoTy.agg (List Fiber) then .agg cs.toArray else cs.headD undef), v1_].toArray w0 fun e w' => ∃ v, e = .returned v ∧ (Chg w0 w' F ∧ VR w' (fun _ => True) v r.1 ∧ ∃ F', GoTy.own w' F' cs r.2 ∧ Back w0 w' F F') := by
 obtain rfl := VR_int h1
 obtain ⟨A, c, rfl, hO⟩ := own_list hO
 have H := Mem.startG S hO hn
 obtain ⟨Fs, E, H, -⟩ := H.thaw rfl
 have H := H.rowSh 0 rfl
 refine enter Tryz.func146 rfl rfl (nle rfl) rfl fun a hf => ?_
 rw [laws_markFiberS] at hF
 refine sq (reg (pr 1 hf rfl rfl fun a hf => ?_))
 refine wl_end (then_n (sq (sq (reg (pr 1 hf rfl rfl fun a hf => ?_)))))
 refine wl_end (then_n ?_)
 obtain ⟨out', hB1, hF⟩ := bind_some hF
 have hf := hf.prune [0, 1, 5] rfl
 have hf : Fr a 41 [(0, (.slice A a'.length c)), (1, (.int .i64 k')), (5, (.int .i64 0))] := by first | exact hf | (simp only [List.length_set] at hf; exact hf)
 have H := H.let [] [true] [] [] rfl rfl rfl rfl
 refine loopC (fun (s : List Fiber × Int × Int) (a : Act) (w : World) => match s with | (a2, k2, i) => a2.length = a'.length ∧ Fr a 41 [(0, (.slice A a'.length c)), (1, (.int .i64 k2)), (5, (.int .i64 i))] ∧ Mem ⟨w0, F⟩ S [] [⟨.sh true, E, A, c, (a2 : List Fiber)⟩] [] [] w) (fun k (s : List Fiber × Int × Int) => laws_markFiberS_L1 fu k s.1 s.2.1 s.2.2 = some out') (fun s => out' = s) (a', k', 0) fu hB1 ⟨rfl, hf, H⟩ (fun s h => by cases h) ?_ ?_
 ·rintro fk ⟨a2, k2, i⟩ a w hR1 hI
  replace hR1 : laws_markFiberS_L1 fu (fk + 1) a2 k2 i = some out' := hR1
  rw [laws_markFiberS_L1] at hR1
  obtain ⟨hlen, hf, H⟩ := hI
  have hf : Fr a 41 [(0, (.slice A a2.length c)), (1, (.int .i64 k2)), (5, (.int .i64 i))] := by rw [hlen]; exact hf
  refine sq (sq (reg (pr 4 hf rfl rfl fun a hf => ?_)))
  refine wl_end (then_n (iteB hR1 (fun hc hR1 => cd_t hf rfl hc ?_) fun hc hR1 => cd_f hf rfl hc ?_))
  ·refine wp_skip (then_n (sq (wp_block (sq (reg (pr 3 hf rfl rfl fun a hf => ?_))))))
   obtain ⟨e, he, hR1⟩ := bind_some hR1
   refine wl0 rfl (op_iaddrR hf H Tryz.underlying32 TF.sz120 0 rfl rfl rfl he (by decide) fun p o cs a hf hA hr hk => ?_)
   obtain rfl := Fiber_cells hr
   refine pr 1 hf rfl rfl fun a hf => ?_
   refine wl0 rfl (op_storeR (e' := ({ A := k2, B := e.B, Length := e.Length, Risk := e.Risk } : Fiber)) (o := o) (off := 0) hf H TF.sz3 0 rfl rfl rfl rfl rfl (nle rfl) rfl hA he (fun cs h => by obtain rfl := Fiber_cells h; exact Fiber_mk (x := ({ A := k2, B := e.B, Length := e.Length, Risk := e.Risk } : Fiber))) fun w H => ?_)
   replace hf : Fr a 41 [(0, (.slice A a2.length c)), (1, (.int .i64 k2)), (5, (.int .i64 i)), (6, (.int .i64 i)), (7, (.slice A a2.length c)), (8, (.int .i64 (a2.length : Int))), (9, (.bool (decide (i < (a2.length : Int))))), (12, (.slice A a2.length c)), (13, (.int .i64 i)), (14, (.int .i64 k2)), (15, (.pointer (some ⟨p, o + 0, none⟩))), (16, (.pointer (some ⟨p, o + 0, none⟩)))] := hf.prune [0, 1, 5, 6, 7, 8, 9, 12, 13, 14, 15, 16] rfl
   replace hf : Fr a 41 [(0, (.slice A (a2.set (i).toNat ({ A := k2, B := e.B, Length := e.Length, Risk := e.Risk } : Fiber)).length c)), (1, (.int .i64 k2)), (5, (.int .i64 i)), (6, (.int .i64 i)), (7, (.slice A (a2.set (i).toNat ({ A := k2, B := e.B, Length := e.Length, Risk := e.Risk } : Fiber)).length c)), (8, (.int .i64 (a2.length : Int))), (9, (.bool (decide (i < (a2.length : Int))))), (12, (.slice A (a2.set (i).toNat ({ A := k2, B := e.B, Length := e.Length, Risk := e.Risk } : Fiber)).length c)), (13, (.int .i64 i)), (14, (.int .i64 k2)), (15, (.pointer (some ⟨p, o + 0, none⟩))), (16, (.pointer (some ⟨p, o + 0, none⟩)))] := by simpa only [List.length_set, Nat.add_zero] using hf
   refine wl_end (then_n (sq (reg (pr 3 hf rfl rfl fun a hf => ?_))))
   refine wl_end (then_n (sq (reg (pr 3 hf rfl rfl fun a hf => ?_))))
   obtain ⟨e2, he2, hR1⟩ := bind_some hR1
   refine wl0 rfl (op_iaddrR hf H Tryz.underlying32 TF.sz120 0 rfl rfl rfl he2 (by decide) fun p2 o2 cs2 a hf hA2 hr2 hk2 => ?_)
   obtain rfl := Fiber_cells hr2
   refine pr 1 hf rfl rfl fun a hf => ?_
   refine wl0 rfl (op_storeR (e' := ({ A := e2.A, B := w64 (k2 + 1), Length := e2.Length, Risk := e2.Risk } : Fiber)) (o := o2) (off := 1) hf H TF.sz3 0 rfl rfl rfl rfl rfl (nle rfl) rfl hA2 he2 (fun cs h => by obtain rfl := Fiber_cells h; exact Fiber_mk (x := ({ A := e2.A, B := w64 (k2 + 1), Length := e2.Length, Risk := e2.Risk } : Fiber))) fun w H => ?_)
   replace hf : Fr a 41 [(0, (.slice A (a2.set (i).toNat ({ A := k2, B := e.B, Length := e.Length, Risk := e.Risk } : Fiber)).length c)), (1, (.int .i64 (w64 (k2 + 1)))), (5, (.int .i64 i)), (6, (.int .i64 i)), (7, (.slice A (a2.set (i).toNat ({ A := k2, B := e.B, Length := e.Length, Risk := e.Risk } : Fiber)).length c)), (8, (.int .i64 (a2.length : Int))), (9, (.bool (decide (i < (a2.length : Int))))), (12, (.slice A (a2.set (i).toNat ({ A := k2, B := e.B, Length := e.Length, Risk := e.Risk } : Fiber)).length c)), (13, (.int .i64 i)), (14, (.int .i64 k2)), (15, (.pointer (some ⟨p, o + 0, none⟩))), (16, (.pointer (some ⟨p, o + 0, none⟩))), (17, (.int .i64 k2)), (18, (.int .i64 (w64 (k2 + 1)))), (19, (.slice A (a2.set (i).toNat ({ A := k2, B := e.B, Length := e.Length, Risk := e.Risk } : Fiber)).length c)), (20, (.int .i64 i)), (21, (.int .i64 (w64 (k2 + 1)))), (22, (.pointer (some ⟨p2, o2 + 0, none⟩))), (23, (.pointer (some ⟨p2, o2 + 1, none⟩)))] := hf.prune [0, 1, 5, 6, 7, 8, 9, 12, 13, 14, 15, 16, 17, 18, 19, 20, 21, 22, 23] rfl
   replace hf : Fr a 41 [(0, (.slice A ((a2.set (i).toNat ({ A := k2, B := e.B, Length := e.Length, Risk := e.Risk } : Fiber)).set (i).toNat ({ A := e2.A, B := w64 (k2 + 1), Length := e2.Length, Risk := e2.Risk } : Fiber)).length c)), (1, (.int .i64 (w64 (k2 + 1)))), (5, (.int .i64 i)), (6, (.int .i64 i)), (7, (.slice A ((a2.set (i).toNat ({ A := k2, B := e.B, Length := e.Length, Risk := e.Risk } : Fiber)).set (i).toNat ({ A := e2.A, B := w64 (k2 + 1), Length := e2.Length, Risk := e2.Risk } : Fiber)).length c)), (8, (.int .i64 (a2.length : Int))), (9, (.bool (decide (i < (a2.length : Int))))), (12, (.slice A ((a2.set (i).toNat ({ A := k2, B := e.B, Length := e.Length, Risk := e.Risk } : Fiber)).set (i).toNat ({ A := e2.A, B := w64 (k2 + 1), Length := e2.Length, Risk := e2.Risk } : Fiber)).length c)), (13, (.int .i64 i)), (14, (.int .i64 k2)), (15, (.pointer (some ⟨p, o + 0, none⟩))), (16, (.pointer (some ⟨p, o + 0, none⟩))), (17, (.int .i64 k2)), (18, (.int .i64 (w64 (k2 + 1)))), (19, (.slice A ((a2.set (i).toNat ({ A := k2, B := e.B, Length := e.Length, Risk := e.Risk } : Fiber)).set (i).toNat ({ A := e2.A, B := w64 (k2 + 1), Length := e2.Length, Risk := e2.Risk } : Fiber)).length c)), (20, (.int .i64 i)), (21, (.int .i64 (w64 (k2 + 1)))), (22, (.pointer (some ⟨p2, o2 + 0, none⟩))), (23, (.pointer (some ⟨p2, o2 + 1, none⟩)))] := by simpa only [List.length_set, Nat.add_zero] using hf
   have hf := hf.prune [0, 1, 5] rfl
   refine wl_end (then_n (sq (reg (pr 3 hf rfl rfl fun a hf => ?_))))
   refine wl_end (then_n (sq (reg (pr 3 hf rfl rfl fun a hf => ?_))))
   obtain ⟨e3, he3, hR1⟩ := bind_some hR1
   refine wl0 rfl (op_iaddrR hf H Tryz.underlying32 TF.sz120 0 rfl rfl rfl he3 (by decide) fun p3 o3 cs3 a hf hA3 hr3 hk3 => ?_)
   obtain rfl := Fiber_cells hr3
   refine pr 1 hf rfl rfl fun a hf => ?_
   refine wl0 rfl (op_storeR (e' := ({ A := e3.A, B := e3.B, Length := w64 ((w64 (k2 + 1)) + 1), Risk := e3.Risk } : Fiber)) (o := o3) (off := 2) hf H TF.sz3 0 rfl rfl rfl rfl rfl (nle rfl) rfl hA3 he3 (fun cs h => by obtain rfl := Fiber_cells h; exact Fiber_mk (x := ({ A := e3.A, B := e3.B, Length := w64 ((w64 (k2 + 1)) + 1), Risk := e3.Risk } : Fiber))) fun w H => ?_)
   replace hf : Fr a 41 [(0, (.slice A ((a2.set (i).toNat ({ A := k2, B := e.B, Length := e.Length, Risk := e.Risk } : Fiber)).set (i).toNat ({ A := e2.A, B := w64 (k2 + 1), Length := e2.Length, Risk := e2.Risk } : Fiber)).length c)), (1, (.int .i64 (w64 ((w64 (k2 + 1)) + 1)))), (5, (.int .i64 i)), (24, (.int .i64 (w64 (k2 + 1)))), (25, (.int .i64 (w64 ((w64 (k2 + 1)) + 1)))), (26, (.slice A ((a2.set (i).toNat ({ A := k2, B := e.B, Length := e.Length, Risk := e.Risk } : Fiber)).set (i).toNat ({ A := e2.A, B := w64 (k2 + 1), Length := e2.Length, Risk := e2.Risk } : Fiber)).length c)), (27, (.int .i64 i)), (28, (.int .i64 (w64 ((w64 (k2 + 1)) + 1)))), (29, (.pointer (some ⟨p3, o3 + 0, none⟩))), (30, (.pointer (some ⟨p3, o3 + 2, none⟩)))] := hf.prune [0, 1, 5, 24, 25, 26, 27, 28, 29, 30] rfl
   replace hf : Fr a 41 [(0, (.slice A (((a2.set (i).toNat ({ A := k2, B := e.B, Length := e.Length, Risk := e.Risk } : Fiber)).set (i).toNat ({ A := e2.A, B := w64 (k2 + 1), Length := e2.Length, Risk := e2.Risk } : Fiber)).set (i).toNat ({ A := e3.A, B := e3.B, Length := w64 ((w64 (k2 + 1)) + 1), Risk := e3.Risk } : Fiber)).length c)), (1, (.int .i64 (w64 ((w64 (k2 + 1)) + 1)))), (5, (.int .i64 i)), (24, (.int .i64 (w64 (k2 + 1)))), (25, (.int .i64 (w64 ((w64 (k2 + 1)) + 1)))), (26, (.slice A (((a2.set (i).toNat ({ A := k2, B := e.B, Length := e.Length, Risk := e.Risk } : Fiber)).set (i).toNat ({ A := e2.A, B := w64 (k2 + 1), Length := e2.Length, Risk := e2.Risk } : Fiber)).set (i).toNat ({ A := e3.A, B := e3.B, Length := w64 ((w64 (k2 + 1)) + 1), Risk := e3.Risk } : Fiber)).length c)), (27, (.int .i64 i)), (28, (.int .i64 (w64 ((w64 (k2 + 1)) + 1)))), (29, (.pointer (some ⟨p3, o3 + 0, none⟩))), (30, (.pointer (some ⟨p3, o3 + 2, none⟩)))] := by simpa only [List.length_set, Nat.add_zero] using hf
   refine wl_end (then_n (sq (reg (pr 3 hf rfl rfl fun a hf => ?_))))
   refine wl_end (then_n (sq (reg (pr 3 hf rfl rfl fun a hf => ?_))))
   obtain ⟨e4, he4, hR1⟩ := bind_some hR1
   refine wl0 rfl (op_iaddrR hf H Tryz.underlying32 TF.sz120 0 rfl rfl rfl he4 (by decide) fun p4 o4 cs4 a hf hA4 hr4 hk4 => ?_)
   obtain rfl := Fiber_cells hr4
   refine pr 1 hf rfl rfl fun a hf => ?_
   refine wl0 rfl (op_storeR (e' := ({ A := e4.A, B := e4.B, Length := e4.Length, Risk := w64 ((w64 ((w64 (k2 + 1)) + 1)) + 1) } : Fiber)) (o := o4) (off := 3) hf H TF.sz3 0 rfl rfl rfl rfl rfl (nle rfl) rfl hA4 he4 (fun cs h => by obtain rfl := Fiber_cells h; exact Fiber_mk (x := ({ A := e4.A, B := e4.B, Length := e4.Length, Risk := w64 ((w64 ((w64 (k2 + 1)) + 1)) + 1) } : Fiber))) fun w H => ?_)
   replace hf : Fr a 41 [(0, (.slice A (((a2.set (i).toNat ({ A := k2, B := e.B, Length := e.Length, Risk := e.Risk } : Fiber)).set (i).toNat ({ A := e2.A, B := w64 (k2 + 1), Length := e2.Length, Risk := e2.Risk } : Fiber)).set (i).toNat ({ A := e3.A, B := e3.B, Length := w64 ((w64 (k2 + 1)) + 1), Risk := e3.Risk } : Fiber)).length c)), (1, (.int .i64 (w64 ((w64 ((w64 (k2 + 1)) + 1)) + 1)))), (5, (.int .i64 i)), (24, (.int .i64 (w64 (k2 + 1)))), (25, (.int .i64 (w64 ((w64 (k2 + 1)) + 1)))), (26, (.slice A (((a2.set (i).toNat ({ A := k2, B := e.B, Length := e.Length, Risk := e.Risk } : Fiber)).set (i).toNat ({ A := e2.A, B := w64 (k2 + 1), Length := e2.Length, Risk := e2.Risk } : Fiber)).set (i).toNat ({ A := e3.A, B := e3.B, Length := w64 ((w64 (k2 + 1)) + 1), Risk := e3.Risk } : Fiber)).length c)), (27, (.int .i64 i)), (28, (.int .i64 (w64 ((w64 (k2 + 1)) + 1)))), (29, (.pointer (some ⟨p3, o3 + 0, none⟩))), (30, (.pointer (some ⟨p3, o3 + 2, none⟩))), (31, (.int .i64 (w64 ((w64 (k2 + 1)) + 1)))), (32, (.int .i64 (w64 ((w64 ((w64 (k2 + 1)) + 1)) + 1)))), (33, (.slice A (((a2.set (i).toNat ({ A := k2, B := e.B, Length := e.Length, Risk := e.Risk } : Fiber)).set (i).toNat ({ A := e2.A, B := w64 (k2 + 1), Length := e2.Length, Risk := e2.Risk } : Fiber)).set (i).toNat ({ A := e3.A, B := e3.B, Length := w64 ((w64 (k2 + 1)) + 1), Risk := e3.Risk } : Fiber)).length c)), (34, (.int .i64 i)), (35, (.int .i64 (w64 ((w64 ((w64 (k2 + 1)) + 1)) + 1)))), (36, (.pointer (some ⟨p4, o4 + 0, none⟩))), (37, (.pointer (some ⟨p4, o4 + 3, none⟩)))] := hf.prune [0, 1, 5, 24, 25, 26, 27, 28, 29, 30, 31, 32, 33, 34, 35, 36, 37] rfl
   replace hf : Fr a 41 [(0, (.slice A ((((a2.set (i).toNat ({ A := k2, B := e.B, Length := e.Length, Risk := e.Risk } : Fiber)).set (i).toNat ({ A := e2.A, B := w64 (k2 + 1), Length := e2.Length, Risk := e2.Risk } : Fiber)).set (i).toNat ({ A := e3.A, B := e3.B, Length := w64 ((w64 (k2 + 1)) + 1), Risk := e3.Risk } : Fiber)).set (i).toNat ({ A := e4.A, B := e4.B, Length := e4.Length, Risk := w64 ((w64 ((w64 (k2 + 1)) + 1)) + 1) } : Fiber)).length c)), (1, (.int .i64 (w64 ((w64 ((w64 (k2 + 1)) + 1)) + 1)))), (5, (.int .i64 i)), (24, (.int .i64 (w64 (k2 + 1)))), (25, (.int .i64 (w64 ((w64 (k2 + 1)) + 1)))), (26, (.slice A ((((a2.set (i).toNat ({ A := k2, B := e.B, Length := e.Length, Risk := e.Risk } : Fiber)).set (i).toNat ({ A := e2.A, B := w64 (k2 + 1), Length := e2.Length, Risk := e2.Risk } : Fiber)).set (i).toNat ({ A := e3.A, B := e3.B, Length := w64 ((w64 (k2 + 1)) + 1), Risk := e3.Risk } : Fiber)).set (i).toNat ({ A := e4.A, B := e4.B, Length := e4.Length, Risk := w64 ((w64 ((w64 (k2 + 1)) + 1)) + 1) } : Fiber)).length c)), (27, (.int .i64 i)), (28, (.int .i64 (w64 ((w64 (k2 + 1)) + 1)))), (29, (.pointer (some ⟨p3, o3 + 0, none⟩))), (30, (.pointer (some ⟨p3, o3 + 2, none⟩))), (31, (.int .i64 (w64 ((w64 (k2 + 1)) + 1)))), (32, (.int .i64 (w64 ((w64 ((w64 (k2 + 1)) + 1)) + 1)))), (33, (.slice A ((((a2.set (i).toNat ({ A := k2, B := e.B, Length := e.Length, Risk := e.Risk } : Fiber)).set (i).toNat ({ A := e2.A, B := w64 (k2 + 1), Length := e2.Length, Risk := e2.Risk } : Fiber)).set (i).toNat ({ A := e3.A, B := e3.B, Length := w64 ((w64 (k2 + 1)) + 1), Risk := e3.Risk } : Fiber)).set (i).toNat ({ A := e4.A, B := e4.B, Length := e4.Length, Risk := w64 ((w64 ((w64 (k2 + 1)) + 1)) + 1) } : Fiber)).length c)), (34, (.int .i64 i)), (35, (.int .i64 (w64 ((w64 ((w64 (k2 + 1)) + 1)) + 1)))), (36, (.pointer (some ⟨p4, o4 + 0, none⟩))), (37, (.pointer (some ⟨p4, o4 + 3, none⟩)))] := by simpa only [List.length_set, Nat.add_zero] using hf
   have hf := hf.prune [0, 1, 5] rfl
   refine wl_end (then_n (reg (pr 3 hf rfl rfl fun a hf => ?_)))
   refine wl_end (blk_n (then_n (reg (pr 3 hf rfl rfl fun a hf => ?_))))
   refine wl_end ?_
   have hf := hf.prune [0, 1, 5] rfl
   have hf : Fr a 41 [(0, (.slice A a'.length c)), (1, (.int .i64 (w64 ((w64 ((w64 ((w64 (k2 + 1)) + 1)) + 1)) + 1)))), (5, (.int .i64 (w64 (i + 1))))] := by first | exact hf | (simp only [List.length_set, hlen] at hf; exact hf)
   have H := H.let [] [true] [] [] rfl rfl rfl rfl
   exact then_n ⟨((((a2.set (i).toNat ({ A := k2, B := e.B, Length := e.Length, Risk := e.Risk } : Fiber)).set (i).toNat ({ A := e2.A, B := w64 (k2 + 1), Length := e2.Length, Risk := e2.Risk } : Fiber)).set (i).toNat ({ A := e3.A, B := e3.B, Length := w64 ((w64 (k2 + 1)) + 1), Risk := e3.Risk } : Fiber)).set (i).toNat ({ A := e4.A, B := e4.B, Length := e4.Length, Risk := w64 ((w64 ((w64 (k2 + 1)) + 1)) + 1) } : Fiber), w64 ((w64 ((w64 ((w64 (k2 + 1)) + 1)) + 1)) + 1), w64 (i + 1)), hR1, (by simp only [List.length_set, hlen]), hf, H⟩
  ·refine wp_exit (then_x (then_x (blk_e (?_))))
   have hf := hf.prune [0, 1, 5] rfl
   have hf : Fr a 41 [(0, (.slice A a'.length c)), (1, (.int .i64 k2)), (5, (.int .i64 i))] := by first | exact hf | (simp only [List.length_set, hlen] at hf; exact hf)
   have H := H.let [] [true] [] [] rfl rfl rfl rfl
   exact ⟨(a2, k2, i), (Option.some.inj hR1).symm, (by simp only [List.length_set, hlen]), hf, H⟩
 rintro a w ⟨⟨a3, k3, i2⟩, rfl, hlen, hf, H⟩
 try dsimp only at hlen
 have hf : Fr a 41 [(0, (.slice A a3.length c)), (1, (.int .i64 k3)), (5, (.int .i64 i2))] := by rw [hlen]; exact hf
 dsimp only at hF
 refine then_n (sq (reg (pr 2 hf rfl rfl fun a hf => ?_)))
 refine wl_end (then_n (wp_ret (?_)))
 have H := H.rowOwn 0 rfl rfl
 obtain ⟨F', H⟩ := H.freezeOwn 0 rfl
 rw [hlen] at H
 obtain rfl := Option.some.inj hF
 refine ret_1 (fn := Tryz.f146) (r := .tmp 4) hf rfl (rv_tmp hf rfl) ?_
 exact ⟨_, rfl, H.chg, mk_int, _, H.ownAt 0 rfl, H.back⟩

/- loop.example/g00897/laws.markNetwork -/
set_option maxHeartbeats 1000000 in
theorem laws_markNetwork_ok {fu : Nat} {w0 : World} {S : Nat → Prop} {F : List Nat} {cs : List Value} {v1_ : Value} {a' : Network} {k' : Int} {r : Int × Network} (hO : GoTy.own w0 F cs a') (hn : F.Nodup) (h1 : VR w0 S v1_ k') (hF : laws_markNetwork fu a' k' = some r) :
    Calls Tryz.prog 79 [(bif GoTy.agg (Network) then .agg cs.toArray else cs.headD undef), v1_].toArray w0 fun e w' => ∃ v, e = .returned v ∧ (Chg w0 w' F ∧ VR w' (fun _ => True) v r.1 ∧ ∃ F', GoTy.own w' F' cs r.2 ∧ Back w0 w' F F') := by
 obtain rfl := VR_int h1
 obtain ⟨A1, c1, F1, A2, c2, F2, rfl, hFe, l1, l2⟩ := Network_own hO
 have H := Mem.startG S hO hn
 have H := H.recast (X := [(⟨F, MP.own F [(.slice A1 a'.Nodes.length c1), (.slice A2 a'.Fibers.length c2)] (a' : Network)⟩ : DI)]) (Y := [(⟨F1, MP.own F1 [(.slice A1 a'.Nodes.length c1)] (a'.Nodes : List ByteArray)⟩ : DI), (⟨F2, MP.own F2 [(.slice A2 a'.Fibers.length c2)] (a'.Fibers : List Fiber)⟩ : DI)]) (D := []) (List.Perm.of_eq (by simp [hFe])) fun _ => (ps1 l1 (ps1 l2 ps0))
 have H := H.lend 0 rfl
 have H := H.lend 1 rfl
 refine enter Tryz.func79 rfl rfl (nle rfl) rfl fun a hf => ?_
 rw [laws_markNetwork] at hF
 refine sq (reg (wl0 rfl (op_box hf H rfl rfl (by decide) fun b' a w hf H => ?_)))
 refine pr 1 hf rfl rfl fun a hf => ?_
 refine wl_end (then_n (sq (reg (pr 1 hf rfl rfl fun a hf => ?_))))
 refine wl0 rfl (op_q hf (rq_loadB hf H TF.ls22 0 rfl rfl rfl) rfl (by decide) fun a hf => ?_)
 refine pr 1 hf rfl rfl fun a hf => ?_
 obtain ⟨y, hy, hF⟩ := bind_some hF
 refine wl0 rfl (op_call hf TF.cl145 rfl (by decide) (laws_markStringS_ok (S := fun _ => True) (F := F1) (cs := [(.slice A1 a'.Nodes.length c1)]) (H.ownAt 0 rfl) H.diNd.1 mk_int hy) fun v w a hp hf => ?_)
 obtain ⟨hch, hv, F4, ho, hbk⟩ := hp
 obtain rfl := VR_int hv
 have H := H.wrote rfl hch ho hbk
 have H := H.lend 0 rfl
 have H := H.lend 1 rfl
 refine pr 1 hf rfl rfl fun a hf => ?_
 refine wl_end (then_n (sq (reg (pr 1 hf rfl rfl fun a hf => ?_))))
 refine wl0 rfl (op_q hf (rq_loadB hf H TF.ls32 0 rfl rfl rfl) rfl (by decide) fun a hf => ?_)
 refine pr 1 hf rfl rfl fun a hf => ?_
 have H := H.frontD 1 rfl
 obtain ⟨y2, hy2, hF⟩ := bind_some hF
 refine wl0 rfl (op_call hf TF.cl146 rfl (by decide) (laws_markFiberS_ok (S := fun _ => True) (F := F2) (cs := [(.slice A2 a'.Fibers.length c2)]) (H.ownAt 0 rfl) H.diNd.1 mk_int hy2) fun v2 w a hp2 hf => ?_)
 obtain ⟨hch2, hv2, F5, ho2, hbk2⟩ := hp2
 obtain rfl := VR_int hv2
 have H := H.wrote rfl hch2 ho2 hbk2
 have H := H.lend 0 rfl
 have H := H.lend 1 rfl
 refine pr 1 hf rfl rfl fun a hf => ?_
 refine wl_end (then_n (sq (reg (pr 2 hf rfl rfl fun a hf => ?_))))
 refine wl_end (then_n (wp_ret (?_)))
 have H := H.frontD 1 rfl
 have H := H.recast (X := [(⟨F4, MP.own F4 [(.slice A1 a'.Nodes.length c1)] (y.2 : List ByteArray)⟩ : DI), (⟨F5, MP.own F5 [(.slice A2 a'.Fibers.length c2)] (y2.2 : List Fiber)⟩ : DI)]) (Y := [(⟨(F4 ++ F5), MP.own (F4 ++ F5) [(.slice A1 a'.Nodes.length c1), (.slice A2 a'.Fibers.length c2)] (({ Nodes := y.2, Fibers := y2.2 } : Network) : Network)⟩ : DI)]) (List.Perm.of_eq (by simp)) fun _ => ps1 (Network_ownmk (x := ({ Nodes := y.2, Fibers := y2.2 } : Network)) (H.ownAt 0 rfl) (H.ownAt 1 rfl)) ps0
 obtain rfl := Option.some.inj hF
 refine ret_1 (fn := Tryz.f79) (r := .tmp 4) hf rfl (rv_tmp hf rfl) ?_
 exact ⟨_, rfl, H.chg, mk_int, _, H.ownAt 0 rfl, H.back⟩

/- loop.example/g00897/laws.markIntS -/
set_option maxHeartbeats 1000000 in
theorem laws_markIntS_ok {fu : Nat} {w0 : World} {S : Nat → Prop} {F : List Nat} {cs : List Value} {v1_ : Value} {a' : List Int} {k' : Int} {r : Int × List Int} (hO : GoTy.own w0 F cs a') (hn : F.Nodup) (h1 : VR w0 S v1_ k') (hF : laws_markIntS fu a' k' = some r) :
    Calls Tryz.prog 26 [(bif GoTy.agg (List Int) then .agg cs.toArray else cs.headD undef), v1_].toArray w0 fun e w' => ∃ v, e = .returned v ∧ (Chg w0 w' F ∧ VR w' (fun _ => True) v r.1 ∧ ∃ F', GoTy.own w' F' cs r.2 ∧ Back w0 w' F F') := by
 obtain rfl := VR_int h1
 obtain ⟨A, c, rfl, hO⟩ := own_list hO
 have H := Mem.startG S hO hn
 obtain ⟨Fs, E, H, -⟩ := H.thaw rfl
 have H := H.rowSh 0 rfl
 refine enter Tryz.func26 rfl rfl (nle rfl) rfl fun a hf => ?_
 rw [laws_markIntS] at hF
 refine sq (reg (pr 1 hf rfl rfl fun a hf => ?_))
 refine wl_end (then_n (sq (sq (reg (pr 1 hf rfl rfl fun a hf => ?_)))))
 refine wl_end (then_n ?_)
 obtain ⟨out', hB1, hF⟩ := bind_some hF
 have hf := hf.prune [0, 1, 5] rfl
 have hf : Fr a 19 [(0, (.slice A a'.length c)), (1, (.int .i64 k')), (5, (.int .i64 0))] := by first | exact hf | (simp only [List.length_set] at hf; exact hf)
 have H := H.let [] [true] [] [] rfl rfl rfl rfl
 refine loopC (fun (s : List Int × Int × Int) (a : Act) (w : World) => match s with | (a2, k2, i) => a2.length = a'.length ∧ Fr a 19 [(0, (.slice A a'.length c)), (1, (.int .i64 k2)), (5, (.int .i64 i))] ∧ Mem ⟨w0, F⟩ S [] [⟨.sh true, E, A, c, (a2 : List Int)⟩] [] [] w) (fun k (s : List Int × Int × Int) => laws_markIntS_L1 fu k s.1 s.2.1 s.2.2 = some out') (fun s => out' = s) (a', k', 0) fu hB1 ⟨rfl, hf, H⟩ (fun s h => by cases h) ?_ ?_
 ·rintro fk ⟨a2, k2, i⟩ a w hR1 hI
  replace hR1 : laws_markIntS_L1 fu (fk + 1) a2 k2 i = some out' := hR1
  rw [laws_markIntS_L1] at hR1
  obtain ⟨hlen, hf, H⟩ := hI
  have hf : Fr a 19 [(0, (.slice A a2.length c)), (1, (.int .i64 k2)), (5, (.int .i64 i))] := by rw [hlen]; exact hf
  refine sq (sq (reg (pr 4 hf rfl rfl fun a hf => ?_)))
  refine wl_end (then_n (iteB hR1 (fun hc hR1 => cd_t hf rfl hc ?_) fun hc hR1 => cd_f hf rfl hc ?_))
  ·refine wp_skip (then_n (sq (wp_block (sq (reg (pr 3 hf rfl rfl fun a hf => ?_))))))
   obtain ⟨e, he, hR1⟩ := bind_some hR1
   refine wl0 rfl (op_iaddrR hf H Tryz.underlying44 TF.sz3 0 rfl rfl rfl he (by decide) fun p o cs a hf hA hr hk => ?_)
   obtain rfl := hr
   refine wl0 rfl (op_storeR (e' := k2) (o := o) (off := 0) hf H TF.sz3 0 rfl rfl rfl rfl rfl (nle rfl) rfl hA he (st_full rfl) fun w H => ?_)
   replace hf : Fr a 19 [(0, (.slice A a2.length c)), (1, (.int .i64 k2)), (5, (.int .i64 i)), (6, (.int .i64 i)), (7, (.slice A a2.length c)), (8, (.int .i64 (a2.length : Int))), (9, (.bool (decide (i < (a2.length : Int))))), (12, (.slice A a2.length c)), (13, (.int .i64 i)), (14, (.int .i64 k2)), (15, (.pointer (some ⟨p, o + 0, none⟩)))] := hf.prune [0, 1, 5, 6, 7, 8, 9, 12, 13, 14, 15] rfl
   replace hf : Fr a 19 [(0, (.slice A (a2.set (i).toNat k2).length c)), (1, (.int .i64 k2)), (5, (.int .i64 i)), (6, (.int .i64 i)), (7, (.slice A (a2.set (i).toNat k2).length c)), (8, (.int .i64 (a2.length : Int))), (9, (.bool (decide (i < (a2.length : Int))))), (12, (.slice A (a2.set (i).toNat k2).length c)), (13, (.int .i64 i)), (14, (.int .i64 k2)), (15, (.pointer (some ⟨p, o + 0, none⟩)))] := by simpa only [List.length_set, Nat.add_zero] using hf
   refine wl_end (then_n (reg (pr 3 hf rfl rfl fun a hf => ?_)))
   refine wl_end (blk_n (then_n (reg (pr 3 hf rfl rfl fun a hf => ?_))))
   refine wl_end ?_
   have hf := hf.prune [0, 1, 5] rfl
   have hf : Fr a 19 [(0, (.slice A a'.length c)), (1, (.int .i64 (w64 (k2 + 1)))), (5, (.int .i64 (w64 (i + 1))))] := by first | exact hf | (simp only [List.length_set, hlen] at hf; exact hf)
   have H := H.let [] [true] [] [] rfl rfl rfl rfl
   exact then_n ⟨(a2.set (i).toNat k2, w64 (k2 + 1), w64 (i + 1)), hR1, (by simp only [List.length_set, hlen]), hf, H⟩
  ·refine wp_exit (then_x (then_x (blk_e (?_))))
   have hf := hf.prune [0, 1, 5] rfl
   have hf : Fr a 19 [(0, (.slice A a'.length c)), (1, (.int .i64 k2)), (5, (.int .i64 i))] := by first | exact hf | (simp only [List.length_set, hlen] at hf; exact hf)
   have H := H.let [] [true] [] [] rfl rfl rfl rfl
   exact ⟨(a2, k2, i), (Option.some.inj hR1).symm, (by simp only [List.length_set, hlen]), hf, H⟩
 rintro a w ⟨⟨a3, k3, i2⟩, rfl, hlen, hf, H⟩
 try dsimp only at hlen
 have hf : Fr a 19 [(0, (.slice A a3.length c)), (1, (.int .i64 k3)), (5, (.int .i64 i2))] := by rw [hlen]; exact hf
 dsimp only at hF
 refine then_n (sq (reg (pr 2 hf rfl rfl fun a hf => ?_)))
 refine wl_end (then_n (wp_ret (?_)))
 have H := H.rowOwn 0 rfl rfl
 obtain ⟨F', H⟩ := H.freezeOwn 0 rfl
 rw [hlen] at H
 obtain rfl := Option.some.inj hF
 refine ret_1 (fn := Tryz.f26) (r := .tmp 4) hf rfl (rv_tmp hf rfl) ?_
 exact ⟨_, rfl, H.chg, mk_int, _, H.ownAt 0 rfl, H.back⟩

/- loop.example/g00897/laws.markLightS -/
set_option maxHeartbeats 1000000 in
theorem laws_markLightS_ok {fu : Nat} {w0 : World} {S : Nat → Prop} {F : List Nat} {cs : List Value} {v1_ : Value} {a' : List Light} {k' : Int} {r : Int × List Light} (hO : GoTy.own w0 F cs a') (hn : F.Nodup) (h1 : VR w0 S v1_ k') (hF : laws_markLightS fu a' k' = some r) :
    Calls Tryz.prog 80 [(bif GoTy.agg (List Light) then .agg cs.toArray else cs.headD undef), v1_].toArray w0 fun e w' => ∃ v, e = .returned v ∧ (Chg w0 w' F ∧ VR w' (fun _ => True) v r.1 ∧ ∃ F', GoTy.own w' F' cs r.2 ∧ Back w0 w' F F') := by
 obtain rfl := VR_int h1
 obtain ⟨A, c, rfl, hO⟩ := own_list hO
 have H := Mem.startG S hO hn
 obtain ⟨Fs, E, H, -⟩ := H.thaw rfl
 refine enter Tryz.func80 rfl rfl (nle rfl) rfl fun a hf => ?_
 rw [laws_markLightS] at hF
 refine sq (reg (pr 1 hf rfl rfl fun a hf => ?_))
 refine wl_end (then_n (sq (sq (reg (pr 1 hf rfl rfl fun a hf => ?_)))))
 refine wl_end (then_n ?_)
 obtain ⟨out', hB1, hF⟩ := bind_some hF
 have hf := hf.prune [0, 1, 5] rfl
 have hf : Fr a 52 [(0, (.slice A a'.length c)), (1, (.int .i64 k')), (5, (.int .i64 0))] := by first | exact hf | (simp only [List.length_set] at hf; exact hf)
 have H := H.let [] [true] [] [] rfl rfl rfl rfl
 refine loopC (fun (s : List Light × Int × Int) (a : Act) (w : World) => match s with | (a2, k2, i) => ∃ (Fs2 : List (List Nat)), a2.length = a'.length ∧ Fr a 52 [(0, (.slice A a'.length c)), (1, (.int .i64 k2)), (5, (.int .i64 i))] ∧ Mem ⟨w0, F⟩ S [] [⟨.ow Fs2, E, A, c, (a2 : List Light)⟩] [] [] w) (fun k (s : List Light × Int × Int) => laws_markLightS_L1 fu k s.1 s.2.1 s.2.2 = some out') (fun s => out' = s) (a', k', 0) fu hB1 ⟨Fs, rfl, hf, H⟩ (fun s h => by cases h) ?_ ?_
 ·rintro fk ⟨a2, k2, i⟩ a w hR1 hI
  replace hR1 : laws_markLightS_L1 fu (fk + 1) a2 k2 i = some out' := hR1
  rw [laws_markLightS_L1] at hR1
  obtain ⟨Fs2, hlen, hf, H⟩ := hI
  have hf : Fr a 52 [(0, (.slice A a2.length c)), (1, (.int .i64 k2)), (5, (.int .i64 i))] := by rw [hlen]; exact hf
  refine sq (sq (reg (pr 4 hf rfl rfl fun a hf => ?_)))
  refine wl_end (then_n (iteB hR1 (fun hc hR1 => cd_t hf rfl hc ?_) fun hc hR1 => cd_f hf rfl hc ?_))
  ·refine wp_skip (then_n (sq (wp_block (sq (reg (pr 3 hf rfl rfl fun a hf => ?_))))))
   obtain ⟨e, he, hR1⟩ := bind_some hR1
   refine wl0 rfl (op_iaddrR hf H Tryz.underlying35 TF.sz112 0 rfl rfl rfl he (by decide) fun p o cs a hf hA hr hk => ?_)
   have hrk := hr
   obtain ⟨A2, c2, rfl, hl⟩ := Light_cells hr
   have H := H.push (true, MP.val [(.slice A2 e.Route.Fibers.length c2)] e.Route.Fibers) hl
   refine pr 1 hf rfl rfl fun a hf => ?_
   refine wl0 rfl (op_storeR (e' := ({ Id := k2, Route := e.Route, Block := e.Block } : Light)) (o := o) (off := 0) hf H TF.sz3 0 rfl rfl rfl rfl rfl (nle rfl) rfl hA he (st_own fun F cs h => by obtain ⟨A0, c0, F0, rfl, rfl, l0⟩ := Light_own h; exact Light_ownmk (x := ({ Id := k2, Route := e.Route, Block := e.Block } : Light)) l0) fun w H => ?_)
   replace hf : Fr a 52 [(0, (.slice A a2.length c)), (1, (.int .i64 k2)), (5, (.int .i64 i)), (6, (.int .i64 i)), (7, (.slice A a2.length c)), (8, (.int .i64 (a2.length : Int))), (9, (.bool (decide (i < (a2.length : Int))))), (12, (.slice A a2.length c)), (13, (.int .i64 i)), (14, (.int .i64 k2)), (15, (.pointer (some ⟨p, o + 0, none⟩))), (16, (.pointer (some ⟨p, o + 0, none⟩)))] := hf.prune [0, 1, 5, 6, 7, 8, 9, 12, 13, 14, 15, 16] rfl
   replace hf : Fr a 52 [(0, (.slice A (a2.set (i).toNat ({ Id := k2, Route := e.Route, Block := e.Block } : Light)).length c)), (1, (.int .i64 k2)), (5, (.int .i64 i)), (6, (.int .i64 i)), (7, (.slice A (a2.set (i).toNat ({ Id := k2, Route := e.Route, Block := e.Block } : Light)).length c)), (8, (.int .i64 (a2.length : Int))), (9, (.bool (decide (i < (a2.length : Int))))), (12, (.slice A (a2.set (i).toNat ({ Id := k2, Route := e.Route, Block := e.Block } : Light)).length c)), (13, (.int .i64 i)), (14, (.int .i64 k2)), (15, (.pointer (some ⟨p, o + 0, none⟩))), (16, (.pointer (some ⟨p, o + 0, none⟩)))] := by simpa only [List.length_set, Nat.add_zero] using hf
   refine wl_end (then_n (sq (reg (pr 3 hf rfl rfl fun a hf => ?_))))
   refine wl_end (then_n (sq (reg (pr 3 hf rfl rfl fun a hf => ?_))))
   obtain ⟨e2, he2, hR1⟩ := bind_some hR1
   refine wl0 rfl (op_iaddrR hf H Tryz.underlying35 TF.sz112 0 rfl rfl rfl he2 (by decide) fun p2 o2 cs2 a hf hA2 hr2 hk2 => ?_)
   have hrk2 := hr2
   obtain ⟨A3, c3, rfl, hl2⟩ := Light_cells hr2
   have H := H.push (true, MP.val [(.slice A3 e2.Route.Fibers.length c3)] e2.Route.Fibers) hl2
   refine pr 2 hf rfl rfl fun a hf => ?_
   refine wl0 rfl (op_storeR (e' := ({ Id := e2.Id, Route := ({ Start := w64 (k2 + 1), Fibers := e2.Route.Fibers } : Route), Block := e2.Block } : Light)) (o := o2) (off := 1) hf H TF.sz3 0 rfl rfl rfl rfl rfl (nle rfl) rfl hA2 he2 (st_own fun F cs h => by obtain ⟨A0, c0, F0, rfl, rfl, l0⟩ := Light_own h; exact Light_ownmk (x := ({ Id := e2.Id, Route := ({ Start := w64 (k2 + 1), Fibers := e2.Route.Fibers } : Route), Block := e2.Block } : Light)) l0) fun w H => ?_)
   replace hf : Fr a 52 [(0, (.slice A (a2.set (i).toNat ({ Id := k2, Route := e.Route, Block := e.Block } : Light)).length c)), (1, (.int .i64 (w64 (k2 + 1)))), (5, (.int .i64 i)), (6, (.int .i64 i)), (7, (.slice A (a2.set (i).toNat ({ Id := k2, Route := e.Route, Block := e.Block } : Light)).length c)), (8, (.int .i64 (a2.length : Int))), (9, (.bool (decide (i < (a2.length : Int))))), (12, (.slice A (a2.set (i).toNat ({ Id := k2, Route := e.Route, Block := e.Block } : Light)).length c)), (13, (.int .i64 i)), (14, (.int .i64 k2)), (15, (.pointer (some ⟨p, o + 0, none⟩))), (16, (.pointer (some ⟨p, o + 0, none⟩))), (17, (.int .i64 k2)), (18, (.int .i64 (w64 (k2 + 1)))), (19, (.slice A (a2.set (i).toNat ({ Id := k2, Route := e.Route, Block := e.Block } : Light)).length c)), (20, (.int .i64 i)), (21, (.int .i64 (w64 (k2 + 1)))), (22, (.pointer (some ⟨p2, o2 + 0, none⟩))), (23, (.pointer (some ⟨p2, o2 + 1, none⟩))), (24, (.pointer (some ⟨p2, o2 + 1, none⟩)))] := hf.prune [0, 1, 5, 6, 7, 8, 9, 12, 13, 14, 15, 16, 17, 18, 19, 20, 21, 22, 23, 24] rfl
   replace hf : Fr a 52 [(0, (.slice A ((a2.set (i).toNat ({ Id := k2, Route := e.Route, Block := e.Block } : Light)).set (i).toNat ({ Id := e2.Id, Route := ({ Start := w64 (k2 + 1), Fibers := e2.Route.Fibers } : Route), Block := e2.Block } : Light)).length c)), (1, (.int .i64 (w64 (k2 + 1)))), (5, (.int .i64 i)), (6, (.int .i64 i)), (7, (.slice A ((a2.set (i).toNat ({ Id := k2, Route := e.Route, Block := e.Block } : Light)).set (i).toNat ({ Id := e2.Id, Route := ({ Start := w64 (k2 + 1), Fibers := e2.Route.Fibers } : Route), Block := e2.Block } : Light)).length c)), (8, (.int .i64 (a2.length : Int))), (9, (.bool (decide (i < (a2.length : Int))))), (12, (.slice A ((a2.set (i).toNat ({ Id := k2, Route := e.Route, Block := e.Block } : Light)).set (i).toNat ({ Id := e2.Id, Route := ({ Start := w64 (k2 + 1), Fibers := e2.Route.Fibers } : Route), Block := e2.Block } : Light)).length c)), (13, (.int .i64 i)), (14, (.int .i64 k2)), (15, (.pointer (some ⟨p, o + 0, none⟩))), (16, (.pointer (some ⟨p, o + 0, none⟩))), (17, (.int .i64 k2)), (18, (.int .i64 (w64 (k2 + 1)))), (19, (.slice A ((a2.set (i).toNat ({ Id := k2, Route := e.Route, Block := e.Block } : Light)).set (i).toNat ({ Id := e2.Id, Route := ({ Start := w64 (k2 + 1), Fibers := e2.Route.Fibers } : Route), Block := e2.Block } : Light)).length c)), (20, (.int .i64 i)), (21, (.int .i64 (w64 (k2 + 1)))), (22, (.pointer (some ⟨p2, o2 + 0, none⟩))), (23, (.pointer (some ⟨p2, o2 + 1, none⟩))), (24, (.pointer (some ⟨p2, o2 + 1, none⟩)))] := by simpa only [List.length_set, Nat.add_zero] using hf
   have hf := hf.prune [0, 1, 5] rfl
   refine wl_end (then_n (sq (reg (pr 3 hf rfl rfl fun a hf => ?_))))
   refine wl_end (then_n (sq (reg (pr 2 hf rfl rfl fun a hf => ?_))))
   obtain ⟨e3, he3, hR1⟩ := bind_some hR1
   refine wl0 rfl (op_iaddrR hf H Tryz.underlying35 TF.sz112 0 rfl rfl rfl he3 (by decide) fun p3 o3 cs3 a hf hA3 hr3 hk3 => ?_)
   have hrk3 := hr3
   obtain ⟨A4, c4, rfl, hl3⟩ := Light_cells hr3
   have H := H.push (true, MP.val [(.slice A4 e3.Route.Fibers.length c4)] e3.Route.Fibers) hl3
   refine pr 2 hf rfl rfl fun a hf => ?_
   refine wl0 rfl (op_q hf (rq_load1 hf TF.ls44 rfl (hk3 2 _ rfl)) rfl (by decide) fun a hf => ?_)
   refine pr 1 hf rfl rfl fun a hf => ?_
   obtain ⟨y, hy, hR1⟩ := bind_some hR1
   obtain ⟨F2, hO, hNd, hnx⟩ := H.mutEl rfl he3 hA3 hrk3 hk3 Light_lens_Route_Fibers rfl
   refine wl0 rfl (op_call hf TF.cl26 rfl (by decide) (laws_markIntS_ok (S := fun _ => True) (cs := [(.slice A4 e3.Route.Fibers.length c4)]) hO hNd mk_int hy) fun v w a hp hf => ?_)
   obtain ⟨hch, hv, F3, ho, hbk⟩ := hp
   obtain rfl := VR_int hv
   obtain ⟨Fs3, H⟩ := hnx _ _ _ hch ho hbk
   replace hf : Fr a 52 [(0, (.slice A ((a2.set (i).toNat ({ Id := k2, Route := e.Route, Block := e.Block } : Light)).set (i).toNat ({ Id := e2.Id, Route := ({ Start := w64 (k2 + 1), Fibers := e2.Route.Fibers } : Route), Block := e2.Block } : Light)).length c)), (1, (.int .i64 (w64 ((w64 (k2 + 1)) + 1)))), (5, (.int .i64 i)), (25, (.int .i64 (w64 (k2 + 1)))), (26, (.int .i64 (w64 ((w64 (k2 + 1)) + 1)))), (27, (.slice A ((a2.set (i).toNat ({ Id := k2, Route := e.Route, Block := e.Block } : Light)).set (i).toNat ({ Id := e2.Id, Route := ({ Start := w64 (k2 + 1), Fibers := e2.Route.Fibers } : Route), Block := e2.Block } : Light)).length c)), (28, (.int .i64 i)), (29, (.pointer (some ⟨p3, o3 + 0, none⟩))), (30, (.pointer (some ⟨p3, o3 + 1, none⟩))), (31, (.pointer (some ⟨p3, o3 + 2, none⟩))), (32, (.slice A4 e3.Route.Fibers.length c4)), (33, (.int .i64 (w64 ((w64 (k2 + 1)) + 1)))), (34, (.int .i64 y.1))] := hf.prune [0, 1, 5, 25, 26, 27, 28, 29, 30, 31, 32, 33, 34] rfl
   replace hf : Fr a 52 [(0, (.slice A (((a2.set (i).toNat ({ Id := k2, Route := e.Route, Block := e.Block } : Light)).set (i).toNat ({ Id := e2.Id, Route := ({ Start := w64 (k2 + 1), Fibers := e2.Route.Fibers } : Route), Block := e2.Block } : Light)).set (i).toNat ({ e3 with Route := { e3.Route with Fibers := y.2 } })).length c)), (1, (.int .i64 (w64 ((w64 (k2 + 1)) + 1)))), (5, (.int .i64 i)), (25, (.int .i64 (w64 (k2 + 1)))), (26, (.int .i64 (w64 ((w64 (k2 + 1)) + 1)))), (27, (.slice A (((a2.set (i).toNat ({ Id := k2, Route := e.Route, Block := e.Block } : Light)).set (i).toNat ({ Id := e2.Id, Route := ({ Start := w64 (k2 + 1), Fibers := e2.Route.Fibers } : Route), Block := e2.Block } : Light)).set (i).toNat ({ e3 with Route := { e3.Route with Fibers := y.2 } })).length c)), (28, (.int .i64 i)), (29, (.pointer (some ⟨p3, o3 + 0, none⟩))), (30, (.pointer (some ⟨p3, o3 + 1, none⟩))), (31, (.pointer (some ⟨p3, o3 + 2, none⟩))), (32, (.slice A4 e3.Route.Fibers.length c4)), (33, (.int .i64 (w64 ((w64 (k2 + 1)) + 1)))), (34, (.int .i64 y.1))] := by simpa only [List.length_set, Nat.add_zero] using hf
   refine pr 1 hf rfl rfl fun a hf => ?_
   refine wl_end (then_n (sq (reg (pr 3 hf rfl rfl fun a hf => ?_))))
   obtain ⟨e4, he4, hR1⟩ := bind_some hR1
   refine wl0 rfl (op_iaddrR hf H Tryz.underlying35 TF.sz112 0 rfl rfl rfl he4 (by decide) fun p4 o4 cs4 a hf hA4 hr4 hk4 => ?_)
   have hrk4 := hr4
   obtain ⟨A5, c5, rfl, hl4⟩ := Light_cells hr4
   have H := H.push (true, MP.val [(.slice A5 e4.Route.Fibers.length c5)] e4.Route.Fibers) hl4
   refine pr 2 hf rfl rfl fun a hf => ?_
   refine wl0 rfl (op_storeR (e' := ({ Id := e4.Id, Route := e4.Route, Block := ({ First := y.1, Count := e4.Block.Count } : Block) } : Light)) (o := o4) (off := 3) hf H TF.sz3 0 rfl rfl rfl rfl rfl (nle rfl) rfl hA4 he4 (st_own fun F cs h => by obtain ⟨A0, c0, F0, rfl, rfl, l0⟩ := Light_own h; exact Light_ownmk (x := ({ Id := e4.Id, Route := e4.Route, Block := ({ First := y.1, Count := e4.Block.Count } : Block) } : Light)) l0) fun w H => ?_)
   replace hf : Fr a 52 [(0, (.slice A (((a2.set (i).toNat ({ Id := k2, Route := e.Route, Block := e.Block } : Light)).set (i).toNat ({ Id := e2.Id, Route := ({ Start := w64 (k2 + 1), Fibers := e2.Route.Fibers } : Route), Block := e2.Block } : Light)).set (i).toNat ({ e3 with Route := { e3.Route with Fibers := y.2 } })).length c)), (1, (.int .i64 y.1)), (5, (.int .i64 i)), (25, (.int .i64 (w64 (k2 + 1)))), (26, (.int .i64 (w64 ((w64 (k2 + 1)) + 1)))), (27, (.slice A (((a2.set (i).toNat ({ Id := k2, Route := e.Route, Block := e.Block } : Light)).set (i).toNat ({ Id := e2.Id, Route := ({ Start := w64 (k2 + 1), Fibers := e2.Route.Fibers } : Route), Block := e2.Block } : Light)).set (i).toNat ({ e3 with Route := { e3.Route with Fibers := y.2 } })).length c)), (28, (.int .i64 i)), (29, (.pointer (some ⟨p3, o3 + 0, none⟩))), (30, (.pointer (some ⟨p3, o3 + 1, none⟩))), (31, (.pointer (some ⟨p3, o3 + 2, none⟩))), (32, (.slice A4 e3.Route.Fibers.length c4)), (33, (.int .i64 (w64 ((w64 (k2 + 1)) + 1)))), (34, (.int .i64 y.1)), (35, (.slice A (((a2.set (i).toNat ({ Id := k2, Route := e.Route, Block := e.Block } : Light)).set (i).toNat ({ Id := e2.Id, Route := ({ Start := w64 (k2 + 1), Fibers := e2.Route.Fibers } : Route), Block := e2.Block } : Light)).set (i).toNat ({ e3 with Route := { e3.Route with Fibers := y.2 } })).length c)), (36, (.int .i64 i)), (37, (.int .i64 y.1)), (38, (.pointer (some ⟨p4, o4 + 0, none⟩))), (39, (.pointer (some ⟨p4, o4 + 3, none⟩))), (40, (.pointer (some ⟨p4, o4 + 3, none⟩)))] := hf.prune [0, 1, 5, 25, 26, 27, 28, 29, 30, 31, 32, 33, 34, 35, 36, 37, 38, 39, 40] rfl
   replace hf : Fr a 52 [(0, (.slice A ((((a2.set (i).toNat ({ Id := k2, Route := e.Route, Block := e.Block } : Light)).set (i).toNat ({ Id := e2.Id, Route := ({ Start := w64 (k2 + 1), Fibers := e2.Route.Fibers } : Route), Block := e2.Block } : Light)).set (i).toNat ({ e3 with Route := { e3.Route with Fibers := y.2 } })).set (i).toNat ({ Id := e4.Id, Route := e4.Route, Block := ({ First := y.1, Count := e4.Block.Count } : Block) } : Light)).length c)), (1, (.int .i64 y.1)), (5, (.int .i64 i)), (25, (.int .i64 (w64 (k2 + 1)))), (26, (.int .i64 (w64 ((w64 (k2 + 1)) + 1)))), (27, (.slice A ((((a2.set (i).toNat ({ Id := k2, Route := e.Route, Block := e.Block } : Light)).set (i).toNat ({ Id := e2.Id, Route := ({ Start := w64 (k2 + 1), Fibers := e2.Route.Fibers } : Route), Block := e2.Block } : Light)).set (i).toNat ({ e3 with Route := { e3.Route with Fibers := y.2 } })).set (i).toNat ({ Id := e4.Id, Route := e4.Route, Block := ({ First := y.1, Count := e4.Block.Count } : Block) } : Light)).length c)), (28, (.int .i64 i)), (29, (.pointer (some ⟨p3, o3 + 0, none⟩))), (30, (.pointer (some ⟨p3, o3 + 1, none⟩))), (31, (.pointer (some ⟨p3, o3 + 2, none⟩))), (32, (.slice A4 e3.Route.Fibers.length c4)), (33, (.int .i64 (w64 ((w64 (k2 + 1)) + 1)))), (34, (.int .i64 y.1)), (35, (.slice A ((((a2.set (i).toNat ({ Id := k2, Route := e.Route, Block := e.Block } : Light)).set (i).toNat ({ Id := e2.Id, Route := ({ Start := w64 (k2 + 1), Fibers := e2.Route.Fibers } : Route), Block := e2.Block } : Light)).set (i).toNat ({ e3 with Route := { e3.Route with Fibers := y.2 } })).set (i).toNat ({ Id := e4.Id, Route := e4.Route, Block := ({ First := y.1, Count := e4.Block.Count } : Block) } : Light)).length c)), (36, (.int .i64 i)), (37, (.int .i64 y.1)), (38, (.pointer (some ⟨p4, o4 + 0, none⟩))), (39, (.pointer (some ⟨p4, o4 + 3, none⟩))), (40, (.pointer (some ⟨p4, o4 + 3, none⟩)))] := by simpa only [List.length_set, Nat.add_zero] using hf
   have hf := hf.prune [0, 1, 5] rfl
   refine wl_end (then_n (sq (reg (pr 3 hf rfl rfl fun a hf => ?_))))
   refine wl_end (then_n (sq (reg (pr 3 hf rfl rfl fun a hf => ?_))))
   obtain ⟨e5, he5, hR1⟩ := bind_some hR1
   refine wl0 rfl (op_iaddrR hf H Tryz.underlying35 TF.sz112 0 rfl rfl rfl he5 (by decide) fun p5 o5 cs5 a hf hA5 hr5 hk5 => ?_)
   have hrk5 := hr5
   obtain ⟨A6, c6, rfl, hl5⟩ := Light_cells hr5
   have H := H.push (true, MP.val [(.slice A6 e5.Route.Fibers.length c6)] e5.Route.Fibers) hl5
   refine pr 2 hf rfl rfl fun a hf => ?_
   refine wl0 rfl (op_storeR (e' := ({ Id := e5.Id, Route := e5.Route, Block := ({ First := e5.Block.First, Count := w64 (y.1 + 1) } : Block) } : Light)) (o := o5) (off := 4) hf H TF.sz3 0 rfl rfl rfl rfl rfl (nle rfl) rfl hA5 he5 (st_own fun F cs h => by obtain ⟨A0, c0, F0, rfl, rfl, l0⟩ := Light_own h; exact Light_ownmk (x := ({ Id := e5.Id, Route := e5.Route, Block := ({ First := e5.Block.First, Count := w64 (y.1 + 1) } : Block) } : Light)) l0) fun w H => ?_)
   replace hf : Fr a 52 [(0, (.slice A ((((a2.set (i).toNat ({ Id := k2, Route := e.Route, Block := e.Block } : Light)).set (i).toNat ({ Id := e2.Id, Route := ({ Start := w64 (k2 + 1), Fibers := e2.Route.Fibers } : Route), Block := e2.Block } : Light)).set (i).toNat ({ e3 with Route := { e3.Route with Fibers := y.2 } })).set (i).toNat ({ Id := e4.Id, Route := e4.Route, Block := ({ First := y.1, Count := e4.Block.Count } : Block) } : Light)).length c)), (1, (.int .i64 (w64 (y.1 + 1)))), (5, (.int .i64 i)), (41, (.int .i64 y.1)), (42, (.int .i64 (w64 (y.1 + 1)))), (43, (.slice A ((((a2.set (i).toNat ({ Id := k2, Route := e.Route, Block := e.Block } : Light)).set (i).toNat ({ Id := e2.Id, Route := ({ Start := w64 (k2 + 1), Fibers := e2.Route.Fibers } : Route), Block := e2.Block } : Light)).set (i).toNat ({ e3 with Route := { e3.Route with Fibers := y.2 } })).set (i).toNat ({ Id := e4.Id, Route := e4.Route, Block := ({ First := y.1, Count := e4.Block.Count } : Block) } : Light)).length c)), (44, (.int .i64 i)), (45, (.int .i64 (w64 (y.1 + 1)))), (46, (.pointer (some ⟨p5, o5 + 0, none⟩))), (47, (.pointer (some ⟨p5, o5 + 3, none⟩))), (48, (.pointer (some ⟨p5, o5 + 4, none⟩)))] := hf.prune [0, 1, 5, 41, 42, 43, 44, 45, 46, 47, 48] rfl
   replace hf : Fr a 52 [(0, (.slice A (((((a2.set (i).toNat ({ Id := k2, Route := e.Route, Block := e.Block } : Light)).set (i).toNat ({ Id := e2.Id, Route := ({ Start := w64 (k2 + 1), Fibers := e2.Route.Fibers } : Route), Block := e2.Block } : Light)).set (i).toNat ({ e3 with Route := { e3.Route with Fibers := y.2 } })).set (i).toNat ({ Id := e4.Id, Route := e4.Route, Block := ({ First := y.1, Count := e4.Block.Count } : Block) } : Light)).set (i).toNat ({ Id := e5.Id, Route := e5.Route, Block := ({ First := e5.Block.First, Count := w64 (y.1 + 1) } : Block) } : Light)).length c)), (1, (.int .i64 (w64 (y.1 + 1)))), (5, (.int .i64 i)), (41, (.int .i64 y.1)), (42, (.int .i64 (w64 (y.1 + 1)))), (43, (.slice A (((((a2.set (i).toNat ({ Id := k2, Route := e.Route, Block := e.Block } : Light)).set (i).toNat ({ Id := e2.Id, Route := ({ Start := w64 (k2 + 1), Fibers := e2.Route.Fibers } : Route), Block := e2.Block } : Light)).set (i).toNat ({ e3 with Route := { e3.Route with Fibers := y.2 } })).set (i).toNat ({ Id := e4.Id, Route := e4.Route, Block := ({ First := y.1, Count := e4.Block.Count } : Block) } : Light)).set (i).toNat ({ Id := e5.Id, Route := e5.Route, Block := ({ First := e5.Block.First, Count := w64 (y.1 + 1) } : Block) } : Light)).length c)), (44, (.int .i64 i)), (45, (.int .i64 (w64 (y.1 + 1)))), (46, (.pointer (some ⟨p5, o5 + 0, none⟩))), (47, (.pointer (some ⟨p5, o5 + 3, none⟩))), (48, (.pointer (some ⟨p5, o5 + 4, none⟩)))] := by simpa only [List.length_set, Nat.add_zero] using hf
   refine wl_end (then_n (reg (pr 3 hf rfl rfl fun a hf => ?_)))
   refine wl_end (blk_n (then_n (reg (pr 3 hf rfl rfl fun a hf => ?_))))
   refine wl_end ?_
   have hf := hf.prune [0, 1, 5] rfl
   have hf : Fr a 52 [(0, (.slice A a'.length c)), (1, (.int .i64 (w64 ((w64 (y.1 + 1)) + 1)))), (5, (.int .i64 (w64 (i + 1))))] := by first | exact hf | (simp only [List.length_set, hlen] at hf; exact hf)
   have H := H.let [] [true] [] [] rfl rfl rfl rfl
   exact then_n ⟨(((((a2.set (i).toNat ({ Id := k2, Route := e.Route, Block := e.Block } : Light)).set (i).toNat ({ Id := e2.Id, Route := ({ Start := w64 (k2 + 1), Fibers := e2.Route.Fibers } : Route), Block := e2.Block } : Light)).set (i).toNat ({ e3 with Route := { e3.Route with Fibers := y.2 } })).set (i).toNat ({ Id := e4.Id, Route := e4.Route, Block := ({ First := y.1, Count := e4.Block.Count } : Block) } : Light)).set (i).toNat ({ Id := e5.Id, Route := e5.Route, Block := ({ First := e5.Block.First, Count := w64 (y.1 + 1) } : Block) } : Light), w64 ((w64 (y.1 + 1)) + 1), w64 (i + 1)), hR1, Fs3, (by simp only [List.length_set, hlen]), hf, H⟩
  ·refine wp_exit (then_x (then_x (blk_e (?_))))
   have hf := hf.prune [0, 1, 5] rfl
   have hf : Fr a 52 [(0, (.slice A a'.length c)), (1, (.int .i64 k2)), (5, (.int .i64 i))] := by first | exact hf | (simp only [List.length_set, hlen] at hf; exact hf)
   have H := H.let [] [true] [] [] rfl rfl rfl rfl
   exact ⟨(a2, k2, i), (Option.some.inj hR1).symm, Fs2, (by simp only [List.length_set, hlen]), hf, H⟩
 rintro a w ⟨⟨a3, k3, i2⟩, rfl, Fs4, hlen, hf, H⟩
 try dsimp only at hlen
 have hf : Fr a 52 [(0, (.slice A a3.length c)), (1, (.int .i64 k3)), (5, (.int .i64 i2))] := by rw [hlen]; exact hf
 dsimp only at hF
 refine then_n (sq (reg (pr 2 hf rfl rfl fun a hf => ?_)))
 refine wl_end (then_n (wp_ret (?_)))
 obtain ⟨F', H⟩ := H.freezeOwn 0 rfl
 rw [hlen] at H
 obtain rfl := Option.some.inj hF
 refine ret_1 (fn := Tryz.f80) (r := .tmp 4) hf rfl (rv_tmp hf rfl) ?_
 exact ⟨_, rfl, H.chg, mk_int, _, H.ownAt 0 rfl, H.back⟩

/- loop.example/g00897/laws.markPlan -/
set_option maxHeartbeats 1000000 in
theorem laws_markPlan_ok {fu : Nat} {w0 : World} {S : Nat → Prop} {F : List Nat} {cs : List Value} {v1_ : Value} {a' : Plan} {k' : Int} {r : Int × Plan} (hO : GoTy.own w0 F cs a') (hn : F.Nodup) (h1 : VR w0 S v1_ k') (hF : laws_markPlan fu a' k' = some r) :
    Calls Tryz.prog 25 [(bif GoTy.agg (Plan) then .agg cs.toArray else cs.headD undef), v1_].toArray w0 fun e w' => ∃ v, e = .returned v ∧ (Chg w0 w' F ∧ VR w' (fun _ => True) v r.1 ∧ ∃ F', GoTy.own w' F' cs r.2 ∧ Back w0 w' F F') := by
 obtain rfl := VR_int h1
 obtain ⟨A1, c1, F1, A2, c2, F2, A3, c3, F3, rfl, hFe, l1, l2, l3⟩ := Plan_own hO
 have H := Mem.startG S hO hn
 have H := H.recast (X := [(⟨F, MP.own F [(.slice A1 a'.Network.Nodes.length c1), (.slice A2 a'.Network.Fibers.length c2), (.slice A3 a'.Lights.length c3)] (a' : Plan)⟩ : DI)]) (Y := [(⟨F1, MP.own F1 [(.slice A1 a'.Network.Nodes.length c1)] (a'.Network.Nodes : List ByteArray)⟩ : DI), (⟨F2, MP.own F2 [(.slice A2 a'.Network.Fibers.length c2)] (a'.Network.Fibers : List Fiber)⟩ : DI), (⟨F3, MP.own F3 [(.slice A3 a'.Lights.length c3)] (a'.Lights : List Light)⟩ : DI)]) (D := []) (List.Perm.of_eq (by simp [hFe])) fun _ => (ps1 l1 (ps1 l2 (ps1 l3 ps0)))
 have H := H.lend 0 rfl
 have H := H.lend 1 rfl
 have H := H.lend 2 rfl
 refine enter Tryz.func25 rfl rfl (nle rfl) rfl fun a hf => ?_
 rw [laws_markPlan] at hF
 refine sq (reg (wl0 rfl (op_box hf H rfl rfl (by decide) fun b' a w hf H => ?_)))
 refine pr 1 hf rfl rfl fun a hf => ?_
 refine wl_end (then_n (sq (reg (pr 1 hf rfl rfl fun a hf => ?_))))
 refine wl0 rfl (op_q hf (rq_loadBN hf H TF.la34 0 rfl rfl rfl rfl) rfl (by decide) fun a hf => ?_)
 refine pr 1 hf rfl rfl fun a hf => ?_
 have H := H.frontD 1 rfl
 have H := H.frontD 1 rfl
 have H := H.recast (X := [(⟨F1, MP.own F1 [(.slice A1 a'.Network.Nodes.length c1)] (a'.Network.Nodes : List ByteArray)⟩ : DI), (⟨F2, MP.own F2 [(.slice A2 a'.Network.Fibers.length c2)] (a'.Network.Fibers : List Fiber)⟩ : DI)]) (Y := [(⟨(F1 ++ F2), MP.own (F1 ++ F2) [(.slice A1 a'.Network.Nodes.length c1), (.slice A2 a'.Network.Fibers.length c2)] (a'.Network : Network)⟩ : DI)]) (List.Perm.of_eq (by simp)) fun _ => ps1 (Network_ownmk (x := a'.Network) (H.ownAt 0 rfl) (H.ownAt 1 rfl)) ps0
 obtain ⟨y, hy, hF⟩ := bind_some hF
 refine wl0 rfl (op_call hf TF.cl79 rfl (by decide) (laws_markNetwork_ok (S := fun _ => True) (F := (F1 ++ F2)) (cs := [(.slice A1 a'.Network.Nodes.length c1), (.slice A2 a'.Network.Fibers.length c2)]) (H.ownAt 0 rfl) H.diNd.1 mk_int hy) fun v w a hp hf => ?_)
 obtain ⟨hch, hv, F5, ho, hbk⟩ := hp
 obtain rfl := VR_int hv
 have H := H.wrote rfl hch ho hbk
 obtain ⟨F6, F7, hFe, hl, hl2⟩ := Network_ownc (H.ownAt 0 rfl)
 have H := H.recast (X := [(⟨F5, MP.own F5 [(.slice A1 a'.Network.Nodes.length c1), (.slice A2 a'.Network.Fibers.length c2)] (y.2 : Network)⟩ : DI)]) (Y := [(⟨F6, MP.own F6 [(.slice A1 a'.Network.Nodes.length c1)] (y.2.Nodes : List ByteArray)⟩ : DI), (⟨F7, MP.own F7 [(.slice A2 a'.Network.Fibers.length c2)] (y.2.Fibers : List Fiber)⟩ : DI)]) (List.Perm.of_eq (by simp [hFe])) fun _ => (ps1 hl (ps1 hl2 ps0))
 have H := H.lend 0 rfl
 have H := H.lend 1 rfl
 have H := H.lend 2 rfl
 refine pr 1 hf rfl rfl fun a hf => ?_
 refine wl_end (then_n (sq (reg (pr 1 hf rfl rfl fun a hf => ?_))))
 refine wl0 rfl (op_q hf (rq_loadB hf H TF.ls35 0 rfl rfl rfl) rfl (by decide) fun a hf => ?_)
 refine pr 1 hf rfl rfl fun a hf => ?_
 have H := H.frontD 2 rfl
 obtain ⟨y2, hy2, hF⟩ := bind_some hF
 refine wl0 rfl (op_call hf TF.cl80 rfl (by decide) (laws_markLightS_ok (S := fun _ => True) (F := F3) (cs := [(.slice A3 a'.Lights.length c3)]) (H.ownAt 0 rfl) H.diNd.1 mk_int hy2) fun v2 w a hp2 hf => ?_)
 obtain ⟨hch2, hv2, F8, ho2, hbk2⟩ := hp2
 obtain rfl := VR_int hv2
 have H := H.wrote rfl hch2 ho2 hbk2
 have H := H.lend 0 rfl
 have H := H.lend 1 rfl
 have H := H.lend 2 rfl
 refine pr 1 hf rfl rfl fun a hf => ?_
 refine wl_end (then_n (sq (reg (pr 2 hf rfl rfl fun a hf => ?_))))
 refine wl_end (then_n (wp_ret (?_)))
 have H := H.frontD 2 rfl
 have H := H.frontD 2 rfl
 have H := H.recast (X := [(⟨F6, MP.own F6 [(.slice A1 a'.Network.Nodes.length c1)] (y.2.Nodes : List ByteArray)⟩ : DI), (⟨F7, MP.own F7 [(.slice A2 a'.Network.Fibers.length c2)] (y.2.Fibers : List Fiber)⟩ : DI), (⟨F8, MP.own F8 [(.slice A3 a'.Lights.length c3)] (y2.2 : List Light)⟩ : DI)]) (Y := [(⟨(F6 ++ (F7 ++ F8)), MP.own (F6 ++ (F7 ++ F8)) [(.slice A1 a'.Network.Nodes.length c1), (.slice A2 a'.Network.Fibers.length c2), (.slice A3 a'.Lights.length c3)] (({ Network := y.2, Lights := y2.2 } : Plan) : Plan)⟩ : DI)]) (List.Perm.of_eq (by simp)) fun _ => ps1 (Plan_ownmk (x := ({ Network := y.2, Lights := y2.2 } : Plan)) (H.ownAt 0 rfl) (H.ownAt 1 rfl) (H.ownAt 2 rfl)) ps0
 obtain rfl := Option.some.inj hF
 refine ret_1 (fn := Tryz.f25) (r := .tmp 4) hf rfl (rv_tmp hf rfl) ?_
 exact ⟨_, rfl, H.chg, mk_int, _, H.ownAt 0 rfl, H.back⟩

/- loop.example/g00897/spec.l4Nodes -/
set_option maxHeartbeats 1000000 in
theorem spec_l4Nodes_ok {fu : Nat} {w0 : World} {S : Nat → Prop} {v0_ : Value} {v1_ : Value} {n' : Network} {r' : Route} {r : List Int} (h0 : VR w0 S v0_ n') (h1 : VR w0 S v1_ r') (hF : spec_l4Nodes fu n' r' = some r) :
    Calls Tryz.prog 154 [v0_, v1_].toArray w0 fun e w' => ∃ v, e = .returned v ∧ (Below w0.heap.size w0 w' ∧ ∃ F0, VO w' F0 v r ∧ New w0 w' F0) := by
 obtain ⟨A, c, A2, c2, rfl, hl, hl2⟩ := Network_open h0
 obtain ⟨A3, c3, rfl, hl3⟩ := Route_open h1
 have H := Mem.start ⟨w0, []⟩ S
 have H := H.pushArg (MP.val [(.slice A n'.Nodes.length c)] n'.Nodes) hl
 have H := H.pushArg (MP.val [(.slice A2 n'.Fibers.length c2)] n'.Fibers) hl2
 have H := H.pushArg (MP.val [(.slice A3 r'.Fibers.length c3)] r'.Fibers) hl3
 refine enter Tryz.func154 rfl rfl (nle rfl) rfl fun a hf => ?_
 rw [spec_l4Nodes] at hF
 refine sq (reg (wl0 rfl (op_box hf H rfl rfl (by decide) fun b' a w hf H => ?_)))
 refine wl0 rfl (op_box hf H rfl rfl (by decide) fun b2 a w hf H => ?_)
 refine pr 1 hf rfl rfl fun a hf => ?_
 refine wl_end (then_n (sq (reg (wl0 rfl (op_q hf (rq_loadBN hf H TF.la34 1 rfl rfl rfl rfl) rfl (by decide) fun a hf => ?_)))))
 refine wl0 rfl (op_q hf (rq_loadBN hf H TF.la108 0 rfl rfl rfl rfl) rfl (by decide) fun a hf => ?_)
 obtain ⟨y, hy, hF⟩ := bind_some hF
 refine wl0 rfl (op_call hf TF.cl201 rfl (by decide) (spec_l4Walk_ok (S := fun _ => True) (Network_mkv (x := n') (rep_true (α := List ByteArray) (H.get 2 rfl)) (rep_true (α := List Fiber) (H.get 1 rfl))) (Route_mkv (x := r') (rep_true (α := List Int) (H.get 0 rfl))) hy) fun v w a hp hf => ?_)
 obtain ⟨hb, F, v2, v3, rfl, hp2, hp3, hN⟩ := hp
 obtain ⟨A4, c4, rfl, hl4⟩ := VO_list hp2
 obtain rfl := VR_bool hp3
 have H := H.addOwn hb (X := [(⟨F, MP.own F [(.slice A4 y.1.length c4)] (y.1 : List Int)⟩ : DI)]) (by simpa using hN.1) (ps1 hl4 ps0) (by simpa using hN.2)
 have H := H.lend 0 rfl
 refine pr 5 hf rfl rfl fun a hf => ?_
 refine wl_end (then_n (sq (reg (pr 2 hf rfl rfl fun a hf => ?_))))
 have hf := hf.prune [4] rfl
 refine wl_end (then_n (wp_ret (?_)))
 obtain rfl := Option.some.inj hF
 refine ret_1 (fn := Tryz.f154) (r := .tmp 4) hf rfl (rv_tmp hf rfl) ?_
 have hN := H.ends (X := [(⟨F, MP.own F [(.slice A4 y.1.length c4)] (y.1 : List Int)⟩ : DI)])
 simp only [List.flatMap_cons, List.flatMap_nil, List.append_nil, List.append_assoc] at hN
 exact ⟨_, rfl, H.bel, F, (mko_list (H.ownAt 0 rfl)), by first | exact hN | simpa using hN⟩

/- loop.example/g00897/spec.RegeneratorsFor -/
set_option maxHeartbeats 1000000 in
theorem spec_RegeneratorsFor_ok {fu : Nat} {w0 : World} {S : Nat → Prop} {v0_ : Value} {v1_ : Value} {v2_ : Value} {n' : Network} {r' : Route} {reach : Int} {r : List Int × Bool} (h0 : VR w0 S v0_ n') (h1 : VR w0 S v1_ r') (h2 : VR w0 S v2_ reach) (hF : spec_RegeneratorsFor fu n' r' reach = some r) :
    Calls Tryz.prog 87 [v0_, v1_, v2_].toArray w0 fun e w' => ∃ v, e = .returned v ∧ (Below w0.heap.size w0 w' ∧ ∃ F0, ∃ u0 u1, v = .tuple #[u0, u1] ∧ VO w' F0 u0 r.1 ∧ VR w' (St ⟨w0, []⟩ S [] [] [] true) u1 r.2 ∧ New w0 w' F0) := by
 obtain ⟨A, c, A2, c2, rfl, hl, hl2⟩ := Network_open h0
 obtain ⟨A3, c3, rfl, hl3⟩ := Route_open h1
 obtain rfl := VR_int h2
 have H := Mem.start ⟨w0, []⟩ S
 have H := H.pushArg (MP.val [(.slice A n'.Nodes.length c)] n'.Nodes) hl
 have H := H.pushArg (MP.val [(.slice A2 n'.Fibers.length c2)] n'.Fibers) hl2
 have H := H.pushArg (MP.val [(.slice A3 r'.Fibers.length c3)] r'.Fibers) hl3
 refine enter Tryz.func87 rfl rfl (nle rfl) rfl fun a hf => ?_
 rw [spec_RegeneratorsFor] at hF
 refine sq (reg (wl0 rfl (op_box hf H rfl rfl (by decide) fun b' a w hf H => ?_)))
 refine wl0 rfl (op_box hf H rfl rfl (by decide) fun b2 a w hf H => ?_)
 refine pr 2 hf rfl rfl fun a hf => ?_
 refine wl_end (then_n (sq (reg (wl0 rfl (op_bslice hf H (.sh true) rfl 3 ([] : List Int) [] rfl (fun w => by kernel_rfl) rfl (by decide) rfl trivial el0 (by decide) fun A4 a w hf H => ?_)))))
 refine pr 1 hf rfl rfl fun a hf => ?_
 refine wl_end (then_n (sq (sq ?_)))
 obtain ⟨c4, hGc4, hF⟩ := bind_some hF
 have fh := hf.prune [2, 3, 4, 8] rfl
 have Hm := H.let [true, true] [true] [] [0, 1, 2] rfl rfl rfl rfl
 refine midF 22 (.bool c4) fh Hm ?_ fun a w hf H => ?_
 ·refine reg (wl0 rfl (op_q hf (rq_loadBN hf H TF.la34 1 rfl rfl rfl rfl) rfl (by decide) fun a hf => ?_))
  refine wl0 rfl (op_q hf (rq_loadBN hf H TF.la108 0 rfl rfl rfl rfl) rfl (by decide) fun a hf => ?_)
  obtain ⟨y, hy, hGc4⟩ := bind_some hGc4
  refine wl0 rfl (op_call hf TF.cl153 rfl (by decide) (spec_l4Good_ok (S := fun _ => True) (Network_mkv (x := n') (rep_true (α := List ByteArray) (H.get 2 rfl)) (rep_true (α := List Fiber) (H.get 1 rfl))) (Route_mkv (x := r') (rep_true (α := List Int) (H.get 0 rfl))) hy) fun v w a hp hf => ?_)
  obtain ⟨hb, hp⟩ := hp
  obtain rfl := VR_bool hp
  have H := H.keep hb
  refine pr 2 hf rfl rfl fun a hf => ?_
  refine iteB hGc4 (fun hc hGc4 => ?_) fun hc hGc4 => ?_
  ·have hf := hf.lit 18 rfl hc
   refine pr 4 hf rfl rfl fun a hf => ?_
   obtain rfl := Option.some.inj hGc4
   have hf := hf.prune [22, 2, 3, 4, 8] rfl
   have H := H.let [true, true] [true] [] [0, 1, 2] rfl rfl rfl rfl
   exact wl_end ⟨hf, H⟩
  ·have hf := hf.lit 18 rfl hc
   refine pr 1 hf rfl rfl fun a hf => ?_
   obtain ⟨y2, hy2, hGc4⟩ := bind_some hGc4
   refine wlg hf rfl rfl rfl (op_call hf TF.cl83 rfl (by decide) (spec_l1In_ok (S := fun _ => True) mk_int mk_int mk_int hy2) fun v2 w a hp2 hf => ?_)
   obtain ⟨hb2, hp2⟩ := hp2
   obtain rfl := VR_bool hp2
   have H := H.keep hb2
   refine pr 2 hf rfl rfl fun a hf => ?_
   obtain rfl := Option.some.inj hGc4
   have hf := hf.prune [22, 2, 3, 4, 8] rfl
   have H := H.let [true, true] [true] [] [0, 1, 2] rfl rfl rfl rfl
   exact wl_end ⟨hf, H⟩
 refine then_n (iteB hF (fun hc2 hF => cd_t hf rfl hc2 ?_) fun hc2 hF => cd_f hf rfl hc2 ?_)
 ·refine sq (reg (pr 3 hf rfl rfl fun a hf => ?_))
  refine wl_end (then_n (wp_ret (then_r (?_))))
  have H := H.rowOwn 0 rfl rfl
  obtain ⟨F, H⟩ := H.freezeOwn 0 rfl
  have H := H.lend 0 rfl
  obtain rfl := Option.some.inj hF
  refine ret_2 (fn := Tryz.f87) (r := .tmp 6) (s := .tmp 7) hf rfl (rv_tmp hf rfl) (rv_tmp hf rfl) ?_
  have hN := H.ends (X := [(⟨F, MP.own F [(.slice A4 0 0)] (([] : List Int) : List Int)⟩ : DI)])
  simp only [List.flatMap_cons, List.flatMap_nil, List.append_nil, List.append_assoc] at hN
  exact ⟨_, rfl, H.bel, F, _, _, rfl, (mko_list (H.ownAt 0 rfl)), mk_bool, by first | exact hN | simpa using hN⟩
 ·refine wp_skip (then_n (sq (reg (wl0 rfl (op_q hf (rq_loadBN hf H TF.la34 1 rfl rfl rfl rfl) rfl (by decide) fun a hf => ?_)))))
  refine wl0 rfl (op_q hf (rq_loadBN hf H TF.la108 0 rfl rfl rfl rfl) rfl (by decide) fun a hf => ?_)
  obtain ⟨y3, hy3, hF⟩ := bind_some hF
  refine wl0 rfl (op_call hf TF.cl154 rfl (by decide) (spec_l4Nodes_ok (S := fun _ => True) (Network_mkv (x := n') (rep_true (α := List ByteArray) (H.get 2 rfl)) (rep_true (α := List Fiber) (H.get 1 rfl))) (Route_mkv (x := r') (rep_true (α := List Int) (H.get 0 rfl))) hy3) fun v3 w a hp3 hf => ?_)
  obtain ⟨hb3, F2, hp4, hN⟩ := hp3
  obtain ⟨A5, c5, rfl, hl4⟩ := VO_list hp4
  have H := H.addOwn hb3 (X := [(⟨F2, MP.own F2 [(.slice A5 y3.length c5)] (y3 : List Int)⟩ : DI)]) (by simpa using hN.1) (ps1 hl4 ps0) (by simpa using hN.2)
  have H := H.lend 0 rfl
  refine pr 1 hf rfl rfl fun a hf => ?_
  refine wl_end (then_n (sq (reg (pr 1 hf rfl rfl fun a hf => ?_))))
  refine wl_end (then_n (sq (sq (reg (pr 1 hf rfl rfl fun a hf => ?_)))))
  refine wl_end (then_n ?_)
  obtain ⟨out2, hB1, hF⟩ := bind_some hF
  have hf := hf.prune [2, 3, 4, 8, 9, 10, 11] rfl
  have H := H.let [true, true] [true] [true] [0, 1, 2, 3] rfl rfl rfl rfl
  refine loopC (fun (s : List Int × Int × Int) (a : Act) (w : World) => match s with | (out', sum, i) => ∃ (A6 : Option Addr) (c6 : Nat) (E : Go.TypeId), Fr a 64 [(2, (.int .i64 reach)), (3, (.pointer (some ⟨b', 0, none⟩))), (4, (.pointer (some ⟨b2, 0, none⟩))), (8, (.slice A6 out'.length c6)), (9, (.slice A5 y3.length c5)), (10, (.int .i64 sum)), (11, (.int .i64 i))] ∧ Mem ⟨w0, []⟩ S [⟨b2, 108, [(.int .i64 r'.Start), (.slice A3 r'.Fibers.length c3)]⟩, ⟨b', 34, [(.slice A n'.Nodes.length c), (.slice A2 n'.Fibers.length c2)]⟩] [⟨.sh true, E, A6, c6, (out' : List Int)⟩] [⟨F2, MP.own F2 [(.slice A5 y3.length c5)] (y3 : List Int)⟩] [(true, MP.val [(.slice A5 y3.length c5)] (y3 : List Int)), (false, MP.val [(.slice A3 r'.Fibers.length c3)] (r'.Fibers : List Int)), (false, MP.val [(.slice A2 n'.Fibers.length c2)] (n'.Fibers : List Fiber)), (false, MP.val [(.slice A n'.Nodes.length c)] (n'.Nodes : List ByteArray))] w) (fun k (s : List Int × Int × Int) => spec_RegeneratorsFor_L1 fu n' r' reach y3 k s.1 s.2.1 s.2.2 = some out2) (fun s => out2 = Out.next s) (([] : List Int), 0, 0) fu hB1 ⟨A4, 0, 3, hf, H⟩ (fun s h => by cases h) ?_ ?_
  ·rintro fk ⟨out', sum, i⟩ a w hR1 hI
   replace hR1 : spec_RegeneratorsFor_L1 fu n' r' reach y3 (fk + 1) out' sum i = some out2 := hR1
   rw [spec_RegeneratorsFor_L1] at hR1
   obtain ⟨A6, c6, E, hf, H⟩ := hI
   refine sq (sq (reg (pr 2 hf rfl rfl fun a hf => ?_)))
   refine wl0 rfl (op_q hf (rq_loadB hf H TF.ls44 0 rfl rfl rfl) rfl (by decide) fun a hf => ?_)
   refine pr 2 hf rfl rfl fun a hf => ?_
   refine wl_end (then_n (iteB hR1 (fun hc3 hR1 => cd_t hf rfl hc3 ?_) fun hc3 hR1 => cd_f hf rfl hc3 ?_))
   ·refine wp_skip (then_n (sq (wp_block (sq (drawn [] (bs := [false, false, false, false, false, false, false, false, false, false, false]) (fuel := 11) (Checked.mixed Tryz.checked) rfl rfl fun w hb => ?_)))))
    have H := H.keep hb
    refine tp 0 rfl rfl hf (by kernel_rfl) (fun _ => trivial) rfl fun a hf => ?_
    refine strT (H.let [false, true] [false] [false] [] rfl rfl rfl rfl) (fun w H => trivial) fun hS => ?_
    refine tS 1 [] rfl rfl rfl rfl hf (by kernel_rfl) (by kernel_rfl) hS (fun w H => rq_loadB hf H TF.ls32 0 rfl rfl rfl) fun a hf => ?_
    refine tp 2 rfl rfl hf (by kernel_rfl) (fun _ => hS) rfl fun a hf => ?_
    refine strT (H.let [true, true] [false] [false] [] rfl rfl rfl rfl) (fun w H => H.let [false, true] [] [] [] rfl rfl rfl rfl) fun hS => ?_
    refine tS 3 [] rfl rfl rfl rfl hf (by kernel_rfl) (by kernel_rfl) hS (fun w H => rq_loadB hf H TF.ls44 0 rfl rfl rfl) fun a hf => ?_
    refine tp 4 rfl rfl hf (by kernel_rfl) (fun _ => hS) rfl fun a hf => ?_
    obtain ⟨e, he, hR1⟩ := bind_some hR1
    obtain ⟨p, o, cs, hx, hr, H⟩ := pre_iaddr H Tryz.underlying44 TF.sz3 1 rfl he
    refine tP 5 rfl rfl rfl rfl hf (by kernel_rfl) (fun _ => hS) (fun w => rq_iaddrE hf rfl rfl rfl hx w) fun a hf => ?_
    obtain rfl := hr
    refine strT (H.let [true, true] [false] [false] [0] rfl rfl rfl rfl) (fun w H => H.let [true, true] [] [] [] rfl rfl rfl rfl) fun hS => ?_
    refine tS 6 [] rfl rfl rfl rfl hf (by kernel_rfl) (by kernel_rfl) hS (fun w H => rq_loadI hf H TF.ls3 0 0 rfl rfl rfl) fun a hf => ?_
    obtain ⟨e2, he2, hR1⟩ := bind_some hR1
    obtain ⟨p2, o2, cs2, hx2, hr2, H⟩ := pre_iaddr H Tryz.underlying32 TF.sz120 3 rfl he2
    refine tP 7 rfl rfl rfl rfl hf (by kernel_rfl) (fun _ => hS) (fun w => rq_iaddrE hf rfl rfl rfl hx2 w) fun a hf => ?_
    obtain rfl := Fiber_cells hr2
    refine tp 8 rfl rfl hf (by kernel_rfl) (fun _ => hS) rfl fun a hf => ?_
    refine strT (H.let [true, true] [false] [false] [0, 1] rfl rfl rfl rfl) (fun w H => H.let [true, true] [] [] [1] rfl rfl rfl rfl) fun hS => ?_
    refine tS 9 [] rfl rfl rfl rfl hf (by kernel_rfl) (by kernel_rfl) hS (fun w H => rq_loadI hf H TF.ls3 0 2 rfl rfl rfl) fun a hf => ?_
    refine tp 10 rfl rfl hf (by kernel_rfl) (fun _ => hS) rfl fun a hf => ?_
    refine dn (by kernel_rfl) ?_
    have hf := hf.prune [2, 3, 4, 8, 9, 10, 11, 12] rfl
    refine then_n (sq (sq (reg (pr 3 hf rfl rfl fun a hf => ?_))))
    refine wl_end (then_n (iteB hR1 (fun hc4 hR1 => cd_t hf rfl hc4 ?_) fun hc4 hR1 => cd_f hf rfl hc4 ?_))
    ·refine sq (reg (wl0 rfl (op_bslice hf H (.sh true) rfl 3 ([] : List Int) [] rfl (fun w => by kernel_rfl) rfl (by decide) rfl trivial el0 (by decide) fun A7 a w hf H => ?_)))
     refine pr 2 hf rfl rfl fun a hf => ?_
     refine wl_end (then_n (wp_ret (then_r (blk_r (then_r (then_r (blk_r (then_r (then_r (?_))))))))))
     have H := H.rowOwn 0 rfl rfl
     obtain ⟨F4, H⟩ := H.freezeOwn 0 rfl
     have H := H.lend 0 rfl
     obtain rfl := Option.some.inj hR1
     replace hF := on_ret hF
     obtain rfl := Option.some.inj hF
     refine ret_2 (fn := Tryz.f87) (r := .tmp 6) (s := .tmp 7) hf rfl (rv_tmp hf rfl) (rv_tmp hf rfl) ?_
     have hN := H.ends (X := [(⟨F4, MP.own F4 [(.slice A7 0 0)] (([] : List Int) : List Int)⟩ : DI)])
     simp only [List.flatMap_cons, List.flatMap_nil, List.append_nil, List.append_assoc] at hN
     exact ⟨_, rfl, H.bel, F4, _, _, rfl, (mko_list (H.ownAt 0 rfl)), mk_bool, by first | exact hN | simpa using hN⟩
    ·refine wp_skip (then_n (sq (sq (reg (pr 5 hf rfl rfl fun a hf => ?_)))))
     refine wl_end (then_n (iteB hR1 (fun hc5 hR1 => cd_t hf rfl hc5 ?_) fun hc5 hR1 => cd_f hf rfl hc5 ?_))
     ·refine sq (reg (pr 3 hf rfl rfl fun a hf => ?_))
      obtain ⟨e3, he3, hR1⟩ := bind_some hR1
      refine wl0 rfl (op_iaddr hf H Tryz.underlying44 TF.sz3 2 rfl rfl rfl he3 (by decide) fun p3 o3 cs3 a hf hr3 H => ?_)
      obtain rfl := hr3
      refine wl0 rfl (op_q hf (rq_loadI hf H TF.ls3 0 0 rfl rfl rfl) rfl (by decide) fun a hf => ?_)
      refine wl0 rfl (op_bslice hf H (.sh true) rfl 3 ([e3] : List Int) [(.int .i64 e3)] rfl (fun w => by kernel_rfl) rfl (by decide) rfl trivial (el1 (y := e3) (rfl)) (by decide) fun A8 a w hf H => ?_)
      obtain ⟨l, hl, hR1⟩ := bind_some hR1
      refine wl0 rfl (op_appR hf H Tryz.underlying44 TF.ai3 rfl (by decide) 1 0 rfl rfl rfl rfl (.inr rfl) hl (by decide) fun E2 A9 c7 a w hf H => ?_)
      refine pr 1 hf rfl rfl fun a hf => ?_
      have hf := hf.prune [2, 3, 4, 8, 9, 11, 12] rfl
      refine wl_end (then_n (reg (pr 1 hf rfl rfl fun a hf => ?_)))
      refine wl_end (then_n (reg (pr 4 hf rfl rfl fun a hf => ?_)))
      refine wl_end (blk_n (then_n (reg (pr 3 hf rfl rfl fun a hf => ?_))))
      refine wl_end ?_
      have hf := hf.prune [2, 3, 4, 8, 9, 10, 11] rfl
      have H := H.let [true, true] [false, true] [true] [3, 4, 5, 6] rfl rfl rfl rfl
      exact then_n ⟨(l, w64 (0 + e2.Length), w64 (i + 1)), hR1, A9, c7, E2, hf, H⟩
     ·refine wp_skip (then_n (reg (pr 4 hf rfl rfl fun a hf => ?_)))
      refine wl_end (blk_n (then_n (reg (pr 3 hf rfl rfl fun a hf => ?_))))
      have hf := hf.prune [2, 3, 4, 8, 9, 10, 11] rfl
      refine wl_end ?_
      have hf := hf.prune [2, 3, 4, 8, 9, 10, 11] rfl
      have H := H.let [true, true] [true] [true] [2, 3, 4, 5] rfl rfl rfl rfl
      exact then_n ⟨(out', w64 (sum + e2.Length), w64 (i + 1)), hR1, A6, c6, E, hf, H⟩
   ·refine wp_exit (then_x (then_x (blk_e (?_))))
    have hf := hf.prune [2, 3, 4, 8, 9, 10, 11] rfl
    have H := H.let [true, true] [true] [true] [0, 1, 2, 3] rfl rfl rfl rfl
    exact ⟨(out', sum, i), (Option.some.inj hR1).symm, A6, c6, E, hf, H⟩
  rintro a w ⟨⟨out3, sum2, i2⟩, rfl, A10, c8, E3, hf, H⟩
  replace hF := on_next hF
  dsimp only at hF
  refine then_n (sq (reg (pr 3 hf rfl rfl fun a hf => ?_)))
  refine wl_end (then_n (wp_ret (?_)))
  have H := H.rowOwn 0 rfl rfl
  obtain ⟨F5, H⟩ := H.freezeOwn 0 rfl
  have H := H.lend 0 rfl
  obtain rfl := Option.some.inj hF
  refine ret_2 (fn := Tryz.f87) (r := .tmp 6) (s := .tmp 7) hf rfl (rv_tmp hf rfl) (rv_tmp hf rfl) ?_
  have hN := H.ends (X := [(⟨F5, MP.own F5 [(.slice A10 out3.length c8)] (out3 : List Int)⟩ : DI)])
  simp only [List.flatMap_cons, List.flatMap_nil, List.append_nil, List.append_assoc] at hN
  exact ⟨_, rfl, H.bel, F5, _, _, rfl, (mko_list (H.ownAt 0 rfl)), mk_bool, by first | exact hN | simpa using hN⟩

/- loop.example/g00897/spec.l19Before -/
set_option maxHeartbeats 1000000 in
theorem spec_l19Before_ok {fu : Nat} {w0 : World} {S : Nat → Prop} {v0_ : Value} {v1_ : Value} {a' : Item} {b' : Item} {r : Bool} (h0 : VR w0 S v0_ a') (h1 : VR w0 S v1_ b') (hF : spec_l19Before fu a' b' = some r) :
    Calls Tryz.prog 155 [v0_, v1_].toArray w0 fun e w' => ∃ v, e = .returned v ∧ (Below w0.heap.size w0 w' ∧ VR w' (St ⟨w0, []⟩ S [] [] [] true) v r) := by
 obtain rfl := Item_open h0
 obtain rfl := Item_open h1
 have H := Mem.start ⟨w0, []⟩ S
 refine enter Tryz.func155 rfl rfl (nle rfl) rfl fun a hf => ?_
 rw [spec_l19Before] at hF
 refine sq (reg (wl0 rfl (op_box hf H rfl rfl (by decide) fun b2 a w hf H => ?_)))
 refine wl0 rfl (op_box hf H rfl rfl (by decide) fun b3 a w hf H => ?_)
 refine pr 1 hf rfl rfl fun a hf => ?_
 refine wl_end (then_n (sq ?_))
 obtain ⟨c, hGc, hF⟩ := bind_some hF
 have fh := hf.prune [] rfl
 have Hm := H.let [false, false] [] [] [] rfl rfl rfl rfl
 refine midF 4 (.bool c) fh Hm ?_ fun a w hf H => ?_
 ·refine reg (pr 1 hf rfl rfl fun a hf => ?_)
  refine wl0 rfl (op_q hf (rq_loadB hf H TF.ls3 1 rfl rfl rfl) rfl (by decide) fun a hf => ?_)
  refine pr 1 hf rfl rfl fun a hf => ?_
  refine wl0 rfl (op_q hf (rq_loadB hf H TF.ls3 0 rfl rfl rfl) rfl (by decide) fun a hf => ?_)
  refine pr 2 hf rfl rfl fun a hf => ?_
  refine iteB hGc (fun hc hGc => ?_) fun hc hGc => ?_
  ·have hf := hf.lit 10 rfl hc
   refine pr 6 hf rfl rfl fun a hf => ?_
   refine wlsu hf rfl rfl rfl rfl (by decide) fun a hf => ?_
   refine wlsu hf rfl rfl rfl rfl (by decide) fun a hf => ?_
   refine wlsu hf rfl rfl rfl rfl (by decide) fun a hf => ?_
   refine wlsu hf rfl rfl rfl rfl (by decide) fun a hf => ?_
   refine wlsu hf rfl rfl rfl rfl (by decide) fun a hf => ?_
   refine pr 3 hf rfl rfl fun a hf => ?_
   obtain rfl := Option.some.inj hGc
   have hf := hf.prune [4] rfl
   have H := H.let [false, false] [] [] [] rfl rfl rfl rfl
   exact wl_end ⟨hf, H⟩
  ·have hf := hf.lit 10 rfl hc
   refine pr 1 hf rfl rfl fun a hf => ?_
   refine wlg hf rfl rfl rfl (op_q hf (rq_loadB hf H TF.ls3 1 rfl rfl rfl) rfl (by decide) fun a hf => ?_)
   refine pr 1 hf rfl rfl fun a hf => ?_
   refine wlg hf rfl rfl rfl (op_q hf (rq_loadB hf H TF.ls3 0 rfl rfl rfl) rfl (by decide) fun a hf => ?_)
   refine pr 2 hf rfl rfl fun a hf => ?_
   refine iteB hGc (fun hc2 hGc => ?_) fun hc2 hGc => ?_
   ·have hf := hf.lit 16 rfl hc2
    refine pr 1 hf rfl rfl fun a hf => ?_
    refine wlg hf rfl rfl rfl (op_q hf (rq_loadB hf H TF.ls3 1 rfl rfl rfl) rfl (by decide) fun a hf => ?_)
    refine pr 1 hf rfl rfl fun a hf => ?_
    refine wlg hf rfl rfl rfl (op_q hf (rq_loadB hf H TF.ls3 0 rfl rfl rfl) rfl (by decide) fun a hf => ?_)
    refine pr 4 hf rfl rfl fun a hf => ?_
    obtain rfl := Option.some.inj hGc
    have hf := hf.prune [4] rfl
    have H := H.let [false, false] [] [] [] rfl rfl rfl rfl
    exact wl_end ⟨hf, H⟩
   ·have hf := hf.lit 16 rfl hc2
    refine pr 8 hf rfl rfl fun a hf => ?_
    obtain rfl := Option.some.inj hGc
    have hf := hf.prune [4] rfl
    have H := H.let [false, false] [] [] [] rfl rfl rfl rfl
    exact wl_end ⟨hf, H⟩
 refine then_n (wp_ret (?_))
 obtain rfl := Option.some.inj hF
 refine ret_1 (fn := Tryz.f155) (r := .tmp 4) hf rfl (rv_tmp hf rfl) ?_
 exact ⟨_, rfl, H.bel, mk_bool⟩

/- loop.example/g00897/spec.l19Add -/
set_option maxHeartbeats 1000000 in
theorem spec_l19Add_ok {fu : Nat} {w0 : World} {S : Nat → Prop} {v0_ : Value} {v1_ : Value} {bill : List Item} {x1 : Item} {r : List Item} (h0 : VR w0 S v0_ bill) (h1 : VR w0 S v1_ x1) (hF : spec_l19Add fu bill x1 = some r) :
    Calls Tryz.prog 88 [v0_, v1_].toArray w0 fun e w' => ∃ v, e = .returned v ∧ (Below w0.heap.size w0 w' ∧ VR w' (St ⟨w0, []⟩ S [] [] [] false) v r) := by
 obtain ⟨A, c, rfl, hl⟩ := VR_list h0
 obtain rfl := Item_open h1
 have H := Mem.start ⟨w0, []⟩ S
 have H := H.pushArg (MP.val [(.slice A bill.length c)] bill) hl
 refine enter Tryz.func88 rfl rfl (nle rfl) rfl fun a hf => ?_
 rw [spec_l19Add] at hF
 refine sq (reg (wl0 rfl (op_box hf H rfl rfl (by decide) fun b' a w hf H => ?_)))
 refine pr 1 hf rfl rfl fun a hf => ?_
 refine wl_end (then_n (sq (sq (reg (pr 1 hf rfl rfl fun a hf => ?_)))))
 refine wl0 rfl (op_q hf (rq_loadB hf H TF.ls3 0 rfl rfl rfl) rfl (by decide) fun a hf => ?_)
 refine pr 1 hf rfl rfl fun a hf => ?_
 refine wl_end (then_n (iteB hF (fun hc hF => cd_t hf rfl hc ?_) fun hc hF => cd_f hf rfl hc ?_))
 ·refine sq (reg (pr 2 hf rfl rfl fun a hf => ?_))
  refine wl_end (then_n (wp_ret (then_r (?_))))
  obtain rfl := Option.some.inj hF
  refine ret_1 (fn := Tryz.f88) (r := .tmp 4) hf rfl (rv_tmp hf rfl) ?_
  exact ⟨_, rfl, H.bel, (mk_list (rep_end (α := List Item) (H.get 0 rfl)))⟩
 ·refine wp_skip (then_n (sq (reg (pr 1 hf rfl rfl fun a hf => ?_))))
  refine wl_end (then_n (sq ?_))
  obtain ⟨out', hB1, hF⟩ := bind_some hF
  have hf := hf.prune [0, 3, 5] rfl
  have H := H.let [true] [] [] [0] rfl rfl rfl rfl
  refine loopC (fun (s : Int) (a : Act) (w : World) => match s with | i => Fr a 62 [(0, (.slice A bill.length c)), (3, (.pointer (some ⟨b', 0, none⟩))), (5, (.int .i64 i))] ∧ Mem ⟨w0, []⟩ S [⟨b', 117, [(.int .i64 x1.Kind), (.int .i64 x1.Node), (.int .i64 x1.Count)]⟩] [] [] [(false, MP.val [(.slice A bill.length c)] (bill : List Item))] w) (fun k (s : Int) => spec_l19Add_L1 fu bill x1 k s = some out') (fun s => out' = s) 0 fu hB1 ⟨hf, H⟩ (fun s h => by cases h) ?_ ?_
  ·rintro fk i a w hR1 hI
   replace hR1 : spec_l19Add_L1 fu bill x1 (fk + 1) i = some out' := hR1
   rw [spec_l19Add_L1] at hR1
   obtain ⟨hf, H⟩ := hI
   refine sq (sq ?_)
   obtain ⟨c2, hGc2, hR1⟩ := bind_some hR1
   have fh := hf.prune [0, 3, 5] rfl
   have Hm := H.let [true] [] [] [0] rfl rfl rfl rfl
   refine midF 22 (.bool c2) fh Hm ?_ fun a w hf H => ?_
   ·refine drawn [] (bs := [false, false, false, false, false, false, false, false, false, false, false, false]) (fuel := 12) (Checked.mixed Tryz.checked) rfl rfl fun w hb => ?_
    have H := H.keep hb
    refine tp 0 rfl rfl hf (by kernel_rfl) (fun _ => trivial) rfl fun a hf => ?_
    refine tp 1 rfl rfl hf (by kernel_rfl) (fun _ => trivial) rfl fun a hf => ?_
    refine tp 2 rfl rfl hf (by kernel_rfl) (fun _ => trivial) rfl fun a hf => ?_
    refine tp 3 rfl rfl hf (by kernel_rfl) (fun _ => trivial) rfl fun a hf => ?_
    refine tp 4 rfl rfl hf (by kernel_rfl) (fun _ => trivial) rfl fun a hf => ?_
    refine iteB hGc2 (fun hc2 hGc2 => ?_) fun hc2 hGc2 => ?_
    ·have hf := hf.lit 15 rfl hc2
     refine tpg 5 rfl rfl rfl rfl hf (by kernel_rfl) (fun _ => trivial) rfl fun a hf => ?_
     refine tpg 6 rfl rfl rfl rfl hf (by kernel_rfl) (fun _ => trivial) rfl fun a hf => ?_
     obtain ⟨e, he, hGc2⟩ := bind_some hGc2
     obtain ⟨p, o, cs, hx, hr, H⟩ := pre_iaddr H Tryz.underlying56 TF.sz117 0 rfl he
     refine tPg 7 rfl rfl rfl rfl rfl rfl hf (by kernel_rfl) (fun _ => trivial) (fun w => rq_iaddrE hf rfl rfl rfl hx w) fun a hf => ?_
     obtain rfl := Item_cells hr
     refine strT (H.let [false] [] [] [0] rfl rfl rfl rfl) (fun w H => trivial) fun hS => ?_
     refine tSg 8 [] rfl rfl rfl rfl rfl rfl hf (by kernel_rfl) (by kernel_rfl) hS (fun w H => rq_loadIN hf H TF.la117 0 0 rfl rfl rfl rfl) fun a hf => ?_
     refine strT (H.let [true] [] [] [0] rfl rfl rfl rfl) (fun w H => H.let [false] [] [] [0] rfl rfl rfl rfl) fun hS => ?_
     refine tSg 9 [] rfl rfl rfl rfl rfl rfl hf (by kernel_rfl) (by kernel_rfl) hS (fun w H => rq_loadBN hf H TF.la117 0 rfl rfl rfl rfl) fun a hf => ?_
     obtain ⟨y, hy, hGc2⟩ := bind_some hGc2
     refine n1g 10 (by kernel_rfl) rfl rfl rfl rfl hf (op_call hf TF.cl155 rfl (by decide) (spec_l19Before_ok (S := fun _ => True) Item_mkv Item_mkv hy) fun v w a hp hf => ?_)
     obtain ⟨hb, hp⟩ := hp
     obtain rfl := VR_bool hp
     have H := H.keep hb
     have hS := H.let [true] [] [] [0] rfl rfl rfl rfl
     refine ⟨fun _ => hS, ?_⟩
     refine tp 11 rfl rfl hf (by kernel_rfl) (fun _ => hS) rfl fun a hf => ?_
     refine dn (by kernel_rfl) ?_
     obtain rfl := Option.some.inj hGc2
     have hf := hf.prune [22, 0, 3, 5] rfl
     have H := H.let [true] [] [] [1] rfl rfl rfl rfl
     exact ⟨hf, H⟩
    ·have hf := hf.lit 15 rfl hc2
     refine tU 5 rfl rfl rfl rfl rfl rfl rfl hf (by kernel_rfl) (fun _ => trivial) fun a hf => ?_
     refine tU 6 rfl rfl rfl rfl rfl rfl rfl hf (by kernel_rfl) (fun _ => trivial) fun a hf => ?_
     refine tU 7 rfl rfl rfl rfl rfl rfl rfl hf (by kernel_rfl) (fun _ => trivial) fun a hf => ?_
     refine tU 8 rfl rfl rfl rfl rfl rfl rfl hf (by kernel_rfl) (fun _ => trivial) fun a hf => ?_
     refine tU 9 rfl rfl rfl rfl rfl rfl rfl hf (by kernel_rfl) (fun _ => trivial) fun a hf => ?_
     refine tU 10 rfl rfl rfl rfl rfl rfl rfl hf (by kernel_rfl) (fun _ => trivial) fun a hf => ?_
     refine tp 11 rfl rfl hf (by kernel_rfl) (fun _ => trivial) rfl fun a hf => ?_
     refine dn (by kernel_rfl) ?_
     obtain rfl := Option.some.inj hGc2
     have hf := hf.prune [22, 0, 3, 5] rfl
     have H := H.let [true] [] [] [0] rfl rfl rfl rfl
     exact ⟨hf, H⟩
   refine then_n (iteB hR1 (fun hc3 hR1 => cd_t hf rfl hc3 ?_) fun hc3 hR1 => cd_f hf rfl hc3 ?_)
   ·refine wp_skip (then_n (wp_block (reg (pr 3 hf rfl rfl fun a hf => ?_))))
    refine wl_end (blk_n ?_)
    have hf := hf.prune [0, 3, 5] rfl
    have H := H.let [true] [] [] [0] rfl rfl rfl rfl
    exact then_n ⟨w64 (i + 1), hR1, hf, H⟩
   ·refine wp_exit (then_x (then_x (blk_e (?_))))
    have hf := hf.prune [0, 3, 5] rfl
    have H := H.let [true] [] [] [0] rfl rfl rfl rfl
    exact ⟨i, (Option.some.inj hR1).symm, hf, H⟩
  rintro a w ⟨out', rfl, hf, H⟩
  refine then_n (sq (reg (wl0 rfl (op_bslice hf H (.sh true) rfl 117 ([] : List Item) [] rfl (fun w => by kernel_rfl) rfl (by decide) rfl trivial el0 (by decide) fun A2 a w hf H => ?_))))
  refine pr 2 hf rfl rfl fun a hf => ?_
  obtain ⟨l, hl, hF⟩ := bind_some hF
  refine wl0 rfl (op_sliceI hf H Tryz.underlying56 TF.sz117 0 rfl rfl rfl rfl hl (by decide) fun A3 c3 a hf H => ?_)
  obtain ⟨l2, hl2, hF⟩ := bind_some hF
  have H := H.rowWeak 0 rfl
  refine wl0 rfl (op_appI hf H Tryz.underlying56 TF.ai117 rfl (by decide) 0 0 rfl rfl rfl rfl (.inl rfl) hl2 (by decide) fun E A4 c4 a w hf H => ?_)
  have H := H.rowOwn 0 rfl rfl
  have H := H.rowSh 0 rfl
  refine pr 1 hf rfl rfl fun a hf => ?_
  refine wl_end (then_n (sq (sq ?_)))
  obtain ⟨c5, hGc5, hF⟩ := bind_some hF
  have fh2 := hf.prune [0, 3, 5, 6] rfl
  have Hm2 := H.let [true] [true] [] [1] rfl rfl rfl rfl
  refine midF 42 (.bool c5) fh2 Hm2 ?_ fun a w hf H => ?_
  ·refine drawn [] (bs := [false, false, false, false, false, false, false, false, false, false, false, false, false]) (fuel := 13) (Checked.mixed Tryz.checked) rfl rfl fun w hb => ?_
   have H := H.keep hb
   refine tp 0 rfl rfl hf (by kernel_rfl) (fun _ => trivial) rfl fun a hf => ?_
   refine tp 1 rfl rfl hf (by kernel_rfl) (fun _ => trivial) rfl fun a hf => ?_
   refine tp 2 rfl rfl hf (by kernel_rfl) (fun _ => trivial) rfl fun a hf => ?_
   refine tp 3 rfl rfl hf (by kernel_rfl) (fun _ => trivial) rfl fun a hf => ?_
   refine tp 4 rfl rfl hf (by kernel_rfl) (fun _ => trivial) rfl fun a hf => ?_
   refine iteB hGc5 (fun hc4 hGc5 => ?_) fun hc4 hGc5 => ?_
   ·have hf := hf.lit 34 rfl hc4
    refine strT (H.let [true] [false] [] [] rfl rfl rfl rfl) (fun w H => trivial) fun hS => ?_
    refine tSg 5 [] rfl rfl rfl rfl rfl rfl hf (by kernel_rfl) (by kernel_rfl) hS (fun w H => rq_loadBN hf H TF.la117 0 rfl rfl rfl rfl) fun a hf => ?_
    refine tpg 6 rfl rfl rfl rfl hf (by kernel_rfl) (fun _ => hS) rfl fun a hf => ?_
    refine tpg 7 rfl rfl rfl rfl hf (by kernel_rfl) (fun _ => hS) rfl fun a hf => ?_
    obtain ⟨e2, he2, hGc5⟩ := bind_some hGc5
    obtain ⟨p2, o2, cs2, hx2, hr2, H⟩ := pre_iaddr H Tryz.underlying56 TF.sz117 1 rfl he2
    refine tPg 8 rfl rfl rfl rfl rfl rfl hf (by kernel_rfl) (fun _ => hS) (fun w => rq_iaddrE hf rfl rfl rfl hx2 w) fun a hf => ?_
    obtain rfl := Item_cells hr2
    refine strT (H.let [true] [false] [] [0] rfl rfl rfl rfl) (fun w H => H.let [true] [] [] [] rfl rfl rfl rfl) fun hS => ?_
    refine tSg 9 [] rfl rfl rfl rfl rfl rfl hf (by kernel_rfl) (by kernel_rfl) hS (fun w H => rq_loadIN hf H TF.la117 0 0 rfl rfl rfl rfl) fun a hf => ?_
    obtain ⟨y2, hy2, hGc5⟩ := bind_some hGc5
    refine n1g 10 (by kernel_rfl) rfl rfl rfl rfl hf (op_call hf TF.cl155 rfl (by decide) (spec_l19Before_ok (S := fun _ => True) Item_mkv Item_mkv hy2) fun v2 w a hp2 hf => ?_)
    obtain ⟨hb2, hp2⟩ := hp2
    obtain rfl := VR_bool hp2
    have H := H.keep hb2
    have hS := H.let [true] [false] [] [0] rfl rfl rfl rfl
    refine ⟨fun _ => hS, ?_⟩
    refine tpg 11 rfl rfl rfl rfl hf (by kernel_rfl) (fun _ => hS) rfl fun a hf => ?_
    refine tp 12 rfl rfl hf (by kernel_rfl) (fun _ => hS) rfl fun a hf => ?_
    refine dn (by kernel_rfl) ?_
    obtain rfl := Option.some.inj hGc5
    have hf := hf.prune [42, 0, 3, 5, 6] rfl
    have H := H.let [true] [true] [] [2] rfl rfl rfl rfl
    exact ⟨hf, H⟩
   ·have hf := hf.lit 34 rfl hc4
    refine tU 5 rfl rfl rfl rfl rfl rfl rfl hf (by kernel_rfl) (fun _ => trivial) fun a hf => ?_
    refine tU 6 rfl rfl rfl rfl rfl rfl rfl hf (by kernel_rfl) (fun _ => trivial) fun a hf => ?_
    refine tU 7 rfl rfl rfl rfl rfl rfl rfl hf (by kernel_rfl) (fun _ => trivial) fun a hf => ?_
    refine tU 8 rfl rfl rfl rfl rfl rfl rfl hf (by kernel_rfl) (fun _ => trivial) fun a hf => ?_
    refine tU 9 rfl rfl rfl rfl rfl rfl rfl hf (by kernel_rfl) (fun _ => trivial) fun a hf => ?_
    refine tU 10 rfl rfl rfl rfl rfl rfl rfl hf (by kernel_rfl) (fun _ => trivial) fun a hf => ?_
    refine tU 11 rfl rfl rfl rfl rfl rfl rfl hf (by kernel_rfl) (fun _ => trivial) fun a hf => ?_
    refine tp 12 rfl rfl hf (by kernel_rfl) (fun _ => trivial) rfl fun a hf => ?_
    refine dn (by kernel_rfl) ?_
    obtain rfl := Option.some.inj hGc5
    have hf := hf.prune [42, 0, 3, 5, 6] rfl
    have H := H.let [true] [true] [] [1] rfl rfl rfl rfl
    exact ⟨hf, H⟩
  refine then_n (iteB hF (fun hc5 hF => cd_t hf rfl hc5 ?_) fun hc5 hF => cd_f hf rfl hc5 ?_)
  ·refine sq (drawn [9] (bs := [false, false, false, false, false, false, false, false, false, false]) (fuel := 10) (Checked.mixed Tryz.checked) rfl rfl fun w hb => ?_)
   have H := H.keep hb
   refine tp 0 rfl rfl hf (by kernel_rfl) (fun _ => trivial) rfl fun a hf => ?_
   refine strT (H.let [true] [false] [] [] rfl rfl rfl rfl) (fun w H => trivial) fun hS => ?_
   refine tS 1 [1, 7, 8, 9] rfl rfl rfl rfl hf (by kernel_rfl) (by kernel_rfl) hS (fun w H => rq_loadB hf H TF.ls3 0 rfl rfl rfl) fun a hf => ?_
   refine tp 2 rfl rfl hf (by kernel_rfl) (fun _ => hS) rfl fun a hf => ?_
   refine tp 3 rfl rfl hf (by kernel_rfl) (fun _ => hS) rfl fun a hf => ?_
   obtain ⟨e3, he3, hF⟩ := bind_some hF
   obtain ⟨p3, o3, cs3, hx3, hr3, H⟩ := pre_iaddr H Tryz.underlying56 TF.sz117 0 rfl he3
   refine tP 4 rfl rfl rfl rfl hf (by kernel_rfl) (fun _ => hS) (fun w => rq_iaddrE hf rfl rfl rfl hx3 w) fun a hf => ?_
   obtain rfl := Item_cells hr3
   refine tp 5 rfl rfl hf (by kernel_rfl) (fun _ => hS) rfl fun a hf => ?_
   refine strT (H.let [true] [false] [] [0] rfl rfl rfl rfl) (fun w H => H.let [true] [] [] [] rfl rfl rfl rfl) fun hS => ?_
   refine tS 6 [6, 7, 8, 9] rfl rfl rfl rfl hf (by kernel_rfl) (by kernel_rfl) hS (fun w H => rq_loadI hf H TF.ls3 0 2 rfl rfl rfl) fun a hf => ?_
   refine tp 7 rfl rfl hf (by kernel_rfl) (fun _ => hS) rfl fun a hf => ?_
   refine tp 8 rfl rfl hf (by kernel_rfl) (fun _ => hS) rfl fun a hf => ?_
   refine n1 9 (by kernel_rfl) rfl rfl (op_storeB hf H 0 TF.sz3 rfl rfl rfl rfl rfl rfl (nle rfl) fun w H => ?_)
   refine ⟨fun h => absurd h (by decide), ?_⟩
   refine dn (by kernel_rfl) ?_
   refine then_n (reg (pr 3 hf rfl rfl fun a hf => ?_))
   refine wl_end (then_n (sq (drawn [] (bs := [false, false, false, false, false, false, false, false, false]) (fuel := 9) (Checked.mixed Tryz.checked) rfl rfl fun w hb => ?_)))
   have H := H.keep hb
   refine tp 0 rfl rfl hf (by kernel_rfl) (fun _ => trivial) rfl fun a hf => ?_
   refine strT (H.let [true] [false] [] [] rfl rfl rfl rfl) (fun w H => trivial) fun hS => ?_
   refine tS 1 [] rfl rfl rfl rfl hf (by kernel_rfl) (by kernel_rfl) hS (fun w H => rq_loadBN hf H TF.la117 0 rfl rfl rfl rfl) fun a hf => ?_
   refine tp 4 rfl rfl hf (by kernel_rfl) (fun _ => hS) rfl fun a hf => ?_
   refine tp 5 rfl rfl hf (by kernel_rfl) (fun _ => hS) rfl fun a hf => ?_
   obtain ⟨l3, hl3, hF⟩ := bind_some hF
   obtain ⟨A5, c6, hx4, H⟩ := pre_slice H Tryz.underlying56 TF.sz117 1 (lov := some (.int .i64 (w64 (out' + 1)))) (hiv := none) (.inr rfl) (.inl ⟨rfl, rfl⟩) rfl hl3
   refine tP 6 rfl rfl rfl rfl hf (by kernel_rfl) (fun _ => hS) (fun w => rq_sliceE hf rfl rfl rfl hx4 w) fun a hf => ?_
   refine n1 2 (by kernel_rfl) rfl rfl (op_bslice hf H (.sh true) rfl 117 ([({ Kind := x1.Kind, Node := x1.Node, Count := w64 (x1.Count + e3.Count) } : Item)] : List Item) [(.int .i64 x1.Kind), (.int .i64 x1.Node), (.int .i64 (w64 (x1.Count + e3.Count)))] rfl (fun w => by kernel_rfl) rfl (by decide) rfl trivial (el1 (y := ({ Kind := x1.Kind, Node := x1.Node, Count := w64 (x1.Count + e3.Count) } : Item)) ((Item_mk (x := ({ Kind := x1.Kind, Node := x1.Node, Count := w64 (x1.Count + e3.Count) } : Item))))) (by decide) fun A6 a w hf H => ?_)
   have hS := H.let [true] [false, false] [] [] rfl rfl rfl rfl
   refine ⟨fun _ => hS, ?_⟩
   obtain ⟨l4, hl4, hF⟩ := bind_some hF
   refine n1 3 (by kernel_rfl) rfl rfl (op_appR hf H Tryz.underlying56 TF.ai117 rfl (by decide) 1 0 rfl rfl rfl rfl (.inr rfl) hl4 (by decide) fun E2 A7 c7 a w hf H => ?_)
   have hS := H.let [true] [false, false] [] [] rfl rfl rfl rfl
   refine ⟨fun _ => hS, ?_⟩
   obtain ⟨l5, hl5, hF⟩ := bind_some hF
   have H := H.rowWeak 1 rfl
   refine n1 7 (by kernel_rfl) rfl rfl (op_appI hf H Tryz.underlying56 TF.ai117 rfl (by decide) 1 0 rfl rfl rfl rfl (.inl rfl) hl5 (by decide) fun E3 A8 c8 a w hf H => ?_)
   have H := H.rowOwn 1 rfl rfl
   have H := H.rowSh 1 rfl
   have hS := H.let [true] [false, false] [] [] rfl rfl rfl rfl
   refine ⟨fun _ => hS, ?_⟩
   refine tp 8 rfl rfl hf (by kernel_rfl) (fun _ => hS) rfl fun a hf => ?_
   refine dn (by kernel_rfl) ?_
   have hf := hf.prune [4] rfl
   refine then_n (wp_ret (?_))
   have H := H.freeze 1 rfl
   obtain rfl := Option.some.inj hF
   refine ret_1 (fn := Tryz.f88) (r := .tmp 4) hf rfl (rv_tmp hf rfl) ?_
   exact ⟨_, rfl, H.bel, (mk_list (rep_endw (α := List Item) (H.get 0 rfl)))⟩
  ·refine wp_skip (then_n (sq (drawn [] (bs := [false, false, false, false, false, false, false, false, false]) (fuel := 9) (Checked.mixed Tryz.checked) rfl rfl fun w hb => ?_)))
   have H := H.keep hb
   refine tp 0 rfl rfl hf (by kernel_rfl) (fun _ => trivial) rfl fun a hf => ?_
   refine strT (H.let [true] [false] [] [] rfl rfl rfl rfl) (fun w H => trivial) fun hS => ?_
   refine tS 1 [] rfl rfl rfl rfl hf (by kernel_rfl) (by kernel_rfl) hS (fun w H => rq_loadBN hf H TF.la117 0 rfl rfl rfl rfl) fun a hf => ?_
   refine tp 4 rfl rfl hf (by kernel_rfl) (fun _ => hS) rfl fun a hf => ?_
   refine tp 5 rfl rfl hf (by kernel_rfl) (fun _ => hS) rfl fun a hf => ?_
   obtain ⟨l6, hl6, hF⟩ := bind_some hF
   obtain ⟨A9, c9, hx5, H⟩ := pre_slice H Tryz.underlying56 TF.sz117 0 (lov := some (.int .i64 out')) (hiv := none) (.inr rfl) (.inl ⟨rfl, rfl⟩) rfl hl6
   refine tP 6 rfl rfl rfl rfl hf (by kernel_rfl) (fun _ => hS) (fun w => rq_sliceE hf rfl rfl rfl hx5 w) fun a hf => ?_
   refine n1 2 (by kernel_rfl) rfl rfl (op_bslice hf H (.sh true) rfl 117 ([x1] : List Item) [(.int .i64 x1.Kind), (.int .i64 x1.Node), (.int .i64 x1.Count)] rfl (fun w => by kernel_rfl) rfl (by decide) rfl trivial (el1 (y := x1) ((Item_mk (x := x1)))) (by decide) fun A10 a w hf H => ?_)
   have hS := H.let [true] [false, false] [] [] rfl rfl rfl rfl
   refine ⟨fun _ => hS, ?_⟩
   obtain ⟨l7, hl7, hF⟩ := bind_some hF
   refine n1 3 (by kernel_rfl) rfl rfl (op_appR hf H Tryz.underlying56 TF.ai117 rfl (by decide) 1 0 rfl rfl rfl rfl (.inr rfl) hl7 (by decide) fun E4 A11 c10 a w hf H => ?_)
   have hS := H.let [true] [false, false] [] [] rfl rfl rfl rfl
   refine ⟨fun _ => hS, ?_⟩
   obtain ⟨l8, hl8, hF⟩ := bind_some hF
   have H := H.rowWeak 1 rfl
   refine n1 7 (by kernel_rfl) rfl rfl (op_appI hf H Tryz.underlying56 TF.ai117 rfl (by decide) 1 0 rfl rfl rfl rfl (.inl rfl) hl8 (by decide) fun E5 A12 c11 a w hf H => ?_)
   have H := H.rowOwn 1 rfl rfl
   have H := H.rowSh 1 rfl
   have hS := H.let [true] [false, false] [] [] rfl rfl rfl rfl
   refine ⟨fun _ => hS, ?_⟩
   refine tp 8 rfl rfl hf (by kernel_rfl) (fun _ => hS) rfl fun a hf => ?_
   refine dn (by kernel_rfl) ?_
   have hf := hf.prune [4] rfl
   refine then_n (wp_ret (?_))
   have H := H.freeze 1 rfl
   obtain rfl := Option.some.inj hF
   refine ret_1 (fn := Tryz.f88) (r := .tmp 4) hf rfl (rv_tmp hf rfl) ?_
   exact ⟨_, rfl, H.bel, (mk_list (rep_endw (α := List Item) (H.get 0 rfl)))⟩

/- loop.example/g00897/spec.l4End -/
set_option maxHeartbeats 1000000 in
theorem spec_l4End_ok {fu : Nat} {w0 : World} {S : Nat → Prop} {v0_ : Value} {v1_ : Value} {n' : Network} {r' : Route} {r : Int} (h0 : VR w0 S v0_ n') (h1 : VR w0 S v1_ r') (hF : spec_l4End fu n' r' = some r) :
    Calls Tryz.prog 89 [v0_, v1_].toArray w0 fun e w' => ∃ v, e = .returned v ∧ (Below w0.heap.size w0 w' ∧ VR w' (St ⟨w0, []⟩ S [] [] [] true) v r) := by
 obtain ⟨A, c, A2, c2, rfl, hl, hl2⟩ := Network_open h0
 obtain ⟨A3, c3, rfl, hl3⟩ := Route_open h1
 have H := Mem.start ⟨w0, []⟩ S
 have H := H.pushArg (MP.val [(.slice A n'.Nodes.length c)] n'.Nodes) hl
 have H := H.pushArg (MP.val [(.slice A2 n'.Fibers.length c2)] n'.Fibers) hl2
 have H := H.pushArg (MP.val [(.slice A3 r'.Fibers.length c3)] r'.Fibers) hl3
 refine enter Tryz.func89 rfl rfl (nle rfl) rfl fun a hf => ?_
 rw [spec_l4End] at hF
 refine sq (reg (wl0 rfl (op_box hf H rfl rfl (by decide) fun b' a w hf H => ?_)))
 refine wl0 rfl (op_box hf H rfl rfl (by decide) fun b2 a w hf H => ?_)
 refine pr 1 hf rfl rfl fun a hf => ?_
 refine wl_end (then_n (sq (reg (wl0 rfl (op_q hf (rq_loadBN hf H TF.la34 1 rfl rfl rfl rfl) rfl (by decide) fun a hf => ?_)))))
 refine wl0 rfl (op_q hf (rq_loadBN hf H TF.la108 0 rfl rfl rfl rfl) rfl (by decide) fun a hf => ?_)
 obtain ⟨y, hy, hF⟩ := bind_some hF
 refine wl0 rfl (op_call hf TF.cl154 rfl (by decide) (spec_l4Nodes_ok (S := fun _ => True) (Network_mkv (x := n') (rep_true (α := List ByteArray) (H.get 2 rfl)) (rep_true (α := List Fiber) (H.get 1 rfl))) (Route_mkv (x := r') (rep_true (α := List Int) (H.get 0 rfl))) hy) fun v w a hp hf => ?_)
 obtain ⟨hb, F, hp2, hN⟩ := hp
 obtain ⟨A4, c4, rfl, hl4⟩ := VO_list hp2
 have H := H.addOwn hb (X := [(⟨F, MP.own F [(.slice A4 y.length c4)] (y : List Int)⟩ : DI)]) (by simpa using hN.1) (ps1 hl4 ps0) (by simpa using hN.2)
 have H := H.lend 0 rfl
 refine pr 1 hf rfl rfl fun a hf => ?_
 refine wl_end (then_n (sq (reg (pr 4 hf rfl rfl fun a hf => ?_))))
 obtain ⟨e, he, hF⟩ := bind_some hF
 refine wl0 rfl (op_iaddr hf H Tryz.underlying44 TF.sz3 0 rfl rfl rfl he (by decide) fun p o cs a hf hr H => ?_)
 obtain rfl := hr
 refine wl0 rfl (op_q hf (rq_loadI hf H TF.ls3 0 0 rfl rfl rfl) rfl (by decide) fun a hf => ?_)
 refine pr 1 hf rfl rfl fun a hf => ?_
 have hf := hf.prune [4] rfl
 refine wl_end (then_n (wp_ret (?_)))
 obtain rfl := Option.some.inj hF
 refine ret_1 (fn := Tryz.f89) (r := .tmp 4) hf rfl (rv_tmp hf rfl) ?_
 exact ⟨_, rfl, H.bel, mk_int⟩

/- loop.example/g00897/spec.l19Bill -/
set_option maxHeartbeats 1000000 in
theorem spec_l19Bill_ok {fu : Nat} {w0 : World} {S : Nat → Prop} {v0_ : Value} {bill : List Item} {r : Bool} (h0 : VR w0 S v0_ bill) (hF : spec_l19Bill fu bill = some r) :
    Calls Tryz.prog 90 [v0_].toArray w0 fun e w' => ∃ v, e = .returned v ∧ (Below w0.heap.size w0 w' ∧ VR w' (St ⟨w0, []⟩ S [] [] [] true) v r) := by
 obtain ⟨A, c, rfl, hl⟩ := VR_list h0
 have H := Mem.start ⟨w0, []⟩ S
 have H := H.pushArg (MP.val [(.slice A bill.length c)] bill) hl
 refine enter Tryz.func90 rfl rfl (nle rfl) rfl fun a hf => ?_
 rw [spec_l19Bill] at hF
 refine sq (reg (pr 1 hf rfl rfl fun a hf => ?_))
 refine wl_end (then_n (sq (sq (reg (pr 1 hf rfl rfl fun a hf => ?_)))))
 refine wl_end (then_n ?_)
 obtain ⟨out', hB1, hF⟩ := bind_some hF
 have hf := hf.prune [0, 3] rfl
 have H := H.let [] [] [] [0] rfl rfl rfl rfl
 refine loopC (fun (s : Int) (a : Act) (w : World) => match s with | i => Fr a 48 [(0, (.slice A bill.length c)), (3, (.int .i64 i))] ∧ Mem ⟨w0, []⟩ S [] [] [] [(false, MP.val [(.slice A bill.length c)] (bill : List Item))] w) (fun k (s : Int) => spec_l19Bill_L1 fu bill k s = some out') (fun s => out' = Out.next s) 0 fu hB1 ⟨hf, H⟩ (fun s h => by cases h) ?_ ?_
 ·rintro fk i a w hR1 hI
  replace hR1 : spec_l19Bill_L1 fu bill (fk + 1) i = some out' := hR1
  rw [spec_l19Bill_L1] at hR1
  obtain ⟨hf, H⟩ := hI
  refine sq (sq (reg (pr 4 hf rfl rfl fun a hf => ?_)))
  refine wl_end (then_n (iteB hR1 (fun hc hR1 => cd_t hf rfl hc ?_) fun hc hR1 => cd_f hf rfl hc ?_))
  ·refine wp_skip (then_n (sq (wp_block (sq (reg (pr 2 hf rfl rfl fun a hf => ?_))))))
   obtain ⟨e, he, hR1⟩ := bind_some hR1
   refine wl0 rfl (op_iaddr hf H Tryz.underlying56 TF.sz117 0 rfl rfl rfl he (by decide) fun p o cs a hf hr H => ?_)
   obtain rfl := Item_cells hr
   refine wl0 rfl (op_q hf (rq_loadIN hf H TF.la117 0 0 rfl rfl rfl rfl) rfl (by decide) fun a hf => ?_)
   refine wl0 rfl (op_alloc hf H TF.zv117 rfl (by decide) fun b' a w hf H => ?_)
   refine wl0 rfl (op_storeB hf H 0 TF.sz117 rfl rfl rfl rfl rfl rfl (nle rfl) fun w H => ?_)
   refine wl_end (then_n (sq ?_))
   obtain ⟨c2, hGc2, hR1⟩ := bind_some hR1
   have fh := hf.prune [0, 3] rfl
   have Hm := H.let [false] [] [] [1] rfl rfl rfl rfl
   refine midF 44 (.bool c2) fh Hm ?_ fun a w hf H => ?_
   ·refine drawn [] (bs := [false, false, false, false, false, false, false, false, false, false, false, false, false, false, false, false, false, false, false, false, false, false, false, false, false, false, false, false, false, false]) (fuel := 30) (Checked.mixed Tryz.checked) rfl rfl fun w hb => ?_
    have H := H.keep hb
    refine tp 0 rfl rfl hf (by kernel_rfl) (fun _ => trivial) rfl fun a hf => ?_
    refine strT (H.let [true] [] [] [] rfl rfl rfl rfl) (fun w H => trivial) fun hS => ?_
    refine tS 1 [] rfl rfl rfl rfl hf (by kernel_rfl) (by kernel_rfl) hS (fun w H => rq_loadB hf H TF.ls3 0 rfl rfl rfl) fun a hf => ?_
    obtain ⟨y, hy, hGc2⟩ := bind_some hGc2
    refine n1 2 (by kernel_rfl) rfl rfl (op_call hf TF.cl83 rfl (by decide) (spec_l1In_ok (S := fun _ => True) mk_int mk_int mk_int hy) fun v w a hp hf => ?_)
    obtain ⟨hb, hp⟩ := hp
    obtain rfl := VR_bool hp
    have H := H.keep hb
    have hS := H.let [true] [] [] [] rfl rfl rfl rfl
    refine ⟨fun _ => hS, ?_⟩
    refine tp 3 rfl rfl hf (by kernel_rfl) (fun _ => hS) rfl fun a hf => ?_
    refine tp 4 rfl rfl hf (by kernel_rfl) (fun _ => hS) rfl fun a hf => ?_
    refine iteB hGc2 (fun hc2 hGc2 => ?_) fun hc2 hGc2 => ?_
    ·have hf := hf.lit 19 rfl hc2
     refine tU 5 rfl rfl rfl rfl rfl rfl rfl hf (by kernel_rfl) (fun _ => hS) fun a hf => ?_
     refine tU 6 rfl rfl rfl rfl rfl rfl rfl hf (by kernel_rfl) (fun _ => hS) fun a hf => ?_
     refine tU 7 rfl rfl rfl rfl rfl rfl rfl hf (by kernel_rfl) (fun _ => hS) fun a hf => ?_
     refine tU 8 rfl rfl rfl rfl rfl rfl rfl hf (by kernel_rfl) (fun _ => hS) fun a hf => ?_
     refine tp 9 rfl rfl hf (by kernel_rfl) (fun _ => hS) rfl fun a hf => ?_
     refine tp 10 rfl rfl hf (by kernel_rfl) (fun _ => hS) rfl fun a hf => ?_
     refine tU 11 rfl rfl rfl rfl rfl rfl rfl hf (by kernel_rfl) (fun _ => hS) fun a hf => ?_
     refine tU 12 rfl rfl rfl rfl rfl rfl rfl hf (by kernel_rfl) (fun _ => hS) fun a hf => ?_
     refine tU 13 rfl rfl rfl rfl rfl rfl rfl hf (by kernel_rfl) (fun _ => hS) fun a hf => ?_
     refine tU 14 rfl rfl rfl rfl rfl rfl rfl hf (by kernel_rfl) (fun _ => hS) fun a hf => ?_
     refine tp 15 rfl rfl hf (by kernel_rfl) (fun _ => hS) rfl fun a hf => ?_
     refine tp 16 rfl rfl hf (by kernel_rfl) (fun _ => hS) rfl fun a hf => ?_
     refine tU 17 rfl rfl rfl rfl rfl rfl rfl hf (by kernel_rfl) (fun _ => hS) fun a hf => ?_
     refine tU 18 rfl rfl rfl rfl rfl rfl rfl hf (by kernel_rfl) (fun _ => hS) fun a hf => ?_
     refine tU 19 rfl rfl rfl rfl rfl rfl rfl hf (by kernel_rfl) (fun _ => hS) fun a hf => ?_
     refine tUU 20 rfl rfl rfl rfl rfl rfl hf (by kernel_rfl) (fun _ => hS) fun a hf => ?_
     refine tUU 21 rfl rfl rfl rfl rfl rfl hf (by kernel_rfl) (fun _ => hS) fun a hf => ?_
     refine tUU 22 rfl rfl rfl rfl rfl rfl hf (by kernel_rfl) (fun _ => hS) fun a hf => ?_
     refine tUU 23 rfl rfl rfl rfl rfl rfl hf (by kernel_rfl) (fun _ => hS) fun a hf => ?_
     refine tUU 24 rfl rfl rfl rfl rfl rfl hf (by kernel_rfl) (fun _ => hS) fun a hf => ?_
     refine tUU 25 rfl rfl rfl rfl rfl rfl hf (by kernel_rfl) (fun _ => hS) fun a hf => ?_
     refine tUU 26 rfl rfl rfl rfl rfl rfl hf (by kernel_rfl) (fun _ => hS) fun a hf => ?_
     refine tUU 27 rfl rfl rfl rfl rfl rfl hf (by kernel_rfl) (fun _ => hS) fun a hf => ?_
     refine tU 28 rfl rfl rfl rfl rfl rfl rfl hf (by kernel_rfl) (fun _ => hS) fun a hf => ?_
     refine tp 29 rfl rfl hf (by kernel_rfl) (fun _ => hS) rfl fun a hf => ?_
     refine dn (by kernel_rfl) ?_
     obtain rfl := Option.some.inj hGc2
     have hf := hf.prune [44, 0, 3] rfl
     have H := H.let [false] [] [] [1] rfl rfl rfl rfl
     exact ⟨hf, H⟩
    ·have hf := hf.lit 19 rfl hc2
     refine tpg 5 rfl rfl rfl rfl hf (by kernel_rfl) (fun _ => hS) rfl fun a hf => ?_
     refine tSg 6 [] rfl rfl rfl rfl rfl rfl hf (by kernel_rfl) (by kernel_rfl) hS (fun w H => rq_loadB hf H TF.ls3 0 rfl rfl rfl) fun a hf => ?_
     obtain ⟨y2, hy2, hGc2⟩ := bind_some hGc2
     refine n1g 7 (by kernel_rfl) rfl rfl rfl rfl hf (op_call hf TF.cl83 rfl (by decide) (spec_l1In_ok (S := fun _ => True) mk_int mk_int mk_int hy2) fun v2 w a hp2 hf => ?_)
     obtain ⟨hb2, hp2⟩ := hp2
     obtain rfl := VR_bool hp2
     have H := H.keep hb2
     have hS := H.let [true] [] [] [] rfl rfl rfl rfl
     refine ⟨fun _ => hS, ?_⟩
     refine tpg 8 rfl rfl rfl rfl hf (by kernel_rfl) (fun _ => hS) rfl fun a hf => ?_
     refine tp 9 rfl rfl hf (by kernel_rfl) (fun _ => hS) rfl fun a hf => ?_
     refine tp 10 rfl rfl hf (by kernel_rfl) (fun _ => hS) rfl fun a hf => ?_
     refine iteB hGc2 (fun hc3 hGc2 => ?_) fun hc3 hGc2 => ?_
     ·have hf := hf.lit 25 rfl hc3
      refine tU 11 rfl rfl rfl rfl rfl rfl rfl hf (by kernel_rfl) (fun _ => hS) fun a hf => ?_
      refine tU 12 rfl rfl rfl rfl rfl rfl rfl hf (by kernel_rfl) (fun _ => hS) fun a hf => ?_
      refine tU 13 rfl rfl rfl rfl rfl rfl rfl hf (by kernel_rfl) (fun _ => hS) fun a hf => ?_
      refine tU 14 rfl rfl rfl rfl rfl rfl rfl hf (by kernel_rfl) (fun _ => hS) fun a hf => ?_
      refine tp 15 rfl rfl hf (by kernel_rfl) (fun _ => hS) rfl fun a hf => ?_
      refine tp 16 rfl rfl hf (by kernel_rfl) (fun _ => hS) rfl fun a hf => ?_
      refine tU 17 rfl rfl rfl rfl rfl rfl rfl hf (by kernel_rfl) (fun _ => hS) fun a hf => ?_
      refine tU 18 rfl rfl rfl rfl rfl rfl rfl hf (by kernel_rfl) (fun _ => hS) fun a hf => ?_
      refine tU 19 rfl rfl rfl rfl rfl rfl rfl hf (by kernel_rfl) (fun _ => hS) fun a hf => ?_
      refine tUU 20 rfl rfl rfl rfl rfl rfl hf (by kernel_rfl) (fun _ => hS) fun a hf => ?_
      refine tUU 21 rfl rfl rfl rfl rfl rfl hf (by kernel_rfl) (fun _ => hS) fun a hf => ?_
      refine tUU 22 rfl rfl rfl rfl rfl rfl hf (by kernel_rfl) (fun _ => hS) fun a hf => ?_
      refine tUU 23 rfl rfl rfl rfl rfl rfl hf (by kernel_rfl) (fun _ => hS) fun a hf => ?_
      refine tUU 24 rfl rfl rfl rfl rfl rfl hf (by kernel_rfl) (fun _ => hS) fun a hf => ?_
      refine tUU 25 rfl rfl rfl rfl rfl rfl hf (by kernel_rfl) (fun _ => hS) fun a hf => ?_
      refine tUU 26 rfl rfl rfl rfl rfl rfl hf (by kernel_rfl) (fun _ => hS) fun a hf => ?_
      refine tUU 27 rfl rfl rfl rfl rfl rfl hf (by kernel_rfl) (fun _ => hS) fun a hf => ?_
      refine tU 28 rfl rfl rfl rfl rfl rfl rfl hf (by kernel_rfl) (fun _ => hS) fun a hf => ?_
      refine tp 29 rfl rfl hf (by kernel_rfl) (fun _ => hS) rfl fun a hf => ?_
      refine dn (by kernel_rfl) ?_
      obtain rfl := Option.some.inj hGc2
      have hf := hf.prune [44, 0, 3] rfl
      have H := H.let [false] [] [] [1] rfl rfl rfl rfl
      exact ⟨hf, H⟩
     ·have hf := hf.lit 25 rfl hc3
      refine tpg 11 rfl rfl rfl rfl hf (by kernel_rfl) (fun _ => hS) rfl fun a hf => ?_
      refine tSg 12 [] rfl rfl rfl rfl rfl rfl hf (by kernel_rfl) (by kernel_rfl) hS (fun w H => rq_loadB hf H TF.ls3 0 rfl rfl rfl) fun a hf => ?_
      obtain ⟨y3, hy3, hGc2⟩ := bind_some hGc2
      refine n1g 13 (by kernel_rfl) rfl rfl rfl rfl hf (op_call hf TF.cl83 rfl (by decide) (spec_l1In_ok (S := fun _ => True) mk_int mk_int mk_int hy3) fun v3 w a hp3 hf => ?_)
      obtain ⟨hb3, hp3⟩ := hp3
      obtain rfl := VR_bool hp3
      have H := H.keep hb3
      have hS := H.let [true] [] [] [] rfl rfl rfl rfl
      refine ⟨fun _ => hS, ?_⟩
      refine tpg 14 rfl rfl rfl rfl hf (by kernel_rfl) (fun _ => hS) rfl fun a hf => ?_
      refine tp 15 rfl rfl hf (by kernel_rfl) (fun _ => hS) rfl fun a hf => ?_
      refine tp 16 rfl rfl hf (by kernel_rfl) (fun _ => hS) rfl fun a hf => ?_
      refine iteB hGc2 (fun hc4 hGc2 => ?_) fun hc4 hGc2 => ?_
      ·have hf := hf.lit 31 rfl hc4
       refine tU 17 rfl rfl rfl rfl rfl rfl rfl hf (by kernel_rfl) (fun _ => hS) fun a hf => ?_
       refine tU 18 rfl rfl rfl rfl rfl rfl rfl hf (by kernel_rfl) (fun _ => hS) fun a hf => ?_
       refine tU 19 rfl rfl rfl rfl rfl rfl rfl hf (by kernel_rfl) (fun _ => hS) fun a hf => ?_
       refine tUU 20 rfl rfl rfl rfl rfl rfl hf (by kernel_rfl) (fun _ => hS) fun a hf => ?_
       refine tUU 21 rfl rfl rfl rfl rfl rfl hf (by kernel_rfl) (fun _ => hS) fun a hf => ?_
       refine tUU 22 rfl rfl rfl rfl rfl rfl hf (by kernel_rfl) (fun _ => hS) fun a hf => ?_
       refine tUU 23 rfl rfl rfl rfl rfl rfl hf (by kernel_rfl) (fun _ => hS) fun a hf => ?_
       refine tUU 24 rfl rfl rfl rfl rfl rfl hf (by kernel_rfl) (fun _ => hS) fun a hf => ?_
       refine tUU 25 rfl rfl rfl rfl rfl rfl hf (by kernel_rfl) (fun _ => hS) fun a hf => ?_
       refine tUU 26 rfl rfl rfl rfl rfl rfl hf (by kernel_rfl) (fun _ => hS) fun a hf => ?_
       refine tUU 27 rfl rfl rfl rfl rfl rfl hf (by kernel_rfl) (fun _ => hS) fun a hf => ?_
       refine tU 28 rfl rfl rfl rfl rfl rfl rfl hf (by kernel_rfl) (fun _ => hS) fun a hf => ?_
       refine tp 29 rfl rfl hf (by kernel_rfl) (fun _ => hS) rfl fun a hf => ?_
       refine dn (by kernel_rfl) ?_
       obtain rfl := Option.some.inj hGc2
       have hf := hf.prune [44, 0, 3] rfl
       have H := H.let [false] [] [] [1] rfl rfl rfl rfl
       exact ⟨hf, H⟩
      ·have hf := hf.lit 31 rfl hc4
       refine tpg 17 rfl rfl rfl rfl hf (by kernel_rfl) (fun _ => hS) rfl fun a hf => ?_
       refine tpg 18 rfl rfl rfl rfl hf (by kernel_rfl) (fun _ => hS) rfl fun a hf => ?_
       refine tpg 19 rfl rfl rfl rfl hf (by kernel_rfl) (fun _ => hS) rfl fun a hf => ?_
       refine iteB hGc2 (fun hc5 hGc2 => ?_) fun hc5 hGc2 => ?_
       ·have hf := hf.lit 34 rfl hc5
        refine tpg 20 rfl rfl rfl rfl hf (by kernel_rfl) (fun _ => hS) rfl fun a hf => ?_
        refine tpg 21 rfl rfl rfl rfl hf (by kernel_rfl) (fun _ => hS) rfl fun a hf => ?_
        refine tpg 22 rfl rfl rfl rfl hf (by kernel_rfl) (fun _ => hS) rfl fun a hf => ?_
        obtain ⟨e2, he2, hGc2⟩ := bind_some hGc2
        obtain ⟨p2, o2, cs2, hx, hr2, H⟩ := pre_iaddr H Tryz.underlying56 TF.sz117 1 rfl he2
        refine tPg 23 rfl rfl rfl rfl rfl rfl hf (by kernel_rfl) (fun _ => hS) (fun w => rq_iaddrE hf rfl rfl rfl hx w) fun a hf => ?_
        obtain rfl := Item_cells hr2
        refine strT (H.let [true] [] [] [0] rfl rfl rfl rfl) (fun w H => H.let [true] [] [] [] rfl rfl rfl rfl) fun hS => ?_
        refine tSg 24 [] rfl rfl rfl rfl rfl rfl hf (by kernel_rfl) (by kernel_rfl) hS (fun w H => rq_loadIN hf H TF.la117 0 0 rfl rfl rfl rfl) fun a hf => ?_
        refine tSg 25 [] rfl rfl rfl rfl rfl rfl hf (by kernel_rfl) (by kernel_rfl) hS (fun w H => rq_loadBN hf H TF.la117 0 rfl rfl rfl rfl) fun a hf => ?_
        obtain ⟨y4, hy4, hGc2⟩ := bind_some hGc2
        refine n1g 26 (by kernel_rfl) rfl rfl rfl rfl hf (op_call hf TF.cl155 rfl (by decide) (spec_l19Before_ok (S := fun _ => True) Item_mkv Item_mkv hy4) fun v4 w a hp4 hf => ?_)
        obtain ⟨hb4, hp4⟩ := hp4
        obtain rfl := VR_bool hp4
        have H := H.keep hb4
        have hS := H.let [true] [] [] [0] rfl rfl rfl rfl
        refine ⟨fun _ => hS, ?_⟩
        refine tpg 27 rfl rfl rfl rfl hf (by kernel_rfl) (fun _ => hS) rfl fun a hf => ?_
        refine tpg 28 rfl rfl rfl rfl hf (by kernel_rfl) (fun _ => hS) rfl fun a hf => ?_
        refine tp 29 rfl rfl hf (by kernel_rfl) (fun _ => hS) rfl fun a hf => ?_
        refine dn (by kernel_rfl) ?_
        obtain rfl := Option.some.inj hGc2
        have hf := hf.prune [44, 0, 3] rfl
        have H := H.let [false] [] [] [2] rfl rfl rfl rfl
        exact ⟨hf, H⟩
       ·have hf := hf.lit 34 rfl hc5
        refine tU 20 rfl rfl rfl rfl rfl rfl rfl hf (by kernel_rfl) (fun _ => hS) fun a hf => ?_
        refine tU 21 rfl rfl rfl rfl rfl rfl rfl hf (by kernel_rfl) (fun _ => hS) fun a hf => ?_
        refine tU 22 rfl rfl rfl rfl rfl rfl rfl hf (by kernel_rfl) (fun _ => hS) fun a hf => ?_
        refine tU 23 rfl rfl rfl rfl rfl rfl rfl hf (by kernel_rfl) (fun _ => hS) fun a hf => ?_
        refine tU 24 rfl rfl rfl rfl rfl rfl rfl hf (by kernel_rfl) (fun _ => hS) fun a hf => ?_
        refine tU 25 rfl rfl rfl rfl rfl rfl rfl hf (by kernel_rfl) (fun _ => hS) fun a hf => ?_
        refine tU 26 rfl rfl rfl rfl rfl rfl rfl hf (by kernel_rfl) (fun _ => hS) fun a hf => ?_
        refine tU 27 rfl rfl rfl rfl rfl rfl rfl hf (by kernel_rfl) (fun _ => hS) fun a hf => ?_
        refine tpg 28 rfl rfl rfl rfl hf (by kernel_rfl) (fun _ => hS) rfl fun a hf => ?_
        refine tp 29 rfl rfl hf (by kernel_rfl) (fun _ => hS) rfl fun a hf => ?_
        refine dn (by kernel_rfl) ?_
        obtain rfl := Option.some.inj hGc2
        have hf := hf.prune [44, 0, 3] rfl
        have H := H.let [false] [] [] [1] rfl rfl rfl rfl
        exact ⟨hf, H⟩
   refine then_n (iteB hR1 (fun hc6 hR1 => cd_t hf rfl hc6 ?_) fun hc6 hR1 => cd_f hf rfl hc6 ?_)
   ·refine sq (reg (pr 1 hf rfl rfl fun a hf => ?_))
    refine wl_end (then_n (wp_ret (blk_r (then_r (then_r (blk_r (then_r (then_r (?_)))))))))
    obtain rfl := Option.some.inj hR1
    replace hF := on_ret hF
    obtain rfl := Option.some.inj hF
    refine ret_1 (fn := Tryz.f90) (r := .tmp 2) hf rfl (rv_tmp hf rfl) ?_
    exact ⟨_, rfl, H.bel, mk_bool⟩
   ·refine wp_skip (blk_n (then_n (reg (pr 3 hf rfl rfl fun a hf => ?_))))
    refine wl_end ?_
    have hf := hf.prune [0, 3] rfl
    have H := H.let [] [] [] [0] rfl rfl rfl rfl
    exact then_n ⟨w64 (i + 1), hR1, hf, H⟩
  ·refine wp_exit (then_x (then_x (blk_e (?_))))
   have hf := hf.prune [0, 3] rfl
   have H := H.let [] [] [] [0] rfl rfl rfl rfl
   exact ⟨i, (Option.some.inj hR1).symm, hf, H⟩
 rintro a w ⟨i2, rfl, hf, H⟩
 replace hF := on_next hF
 refine then_n (sq (reg (pr 4 hf rfl rfl fun a hf => ?_)))
 refine wl_end (then_n (wp_ret (?_)))
 obtain rfl := Option.some.inj hF
 refine ret_1 (fn := Tryz.f90) (r := .tmp 2) hf rfl (rv_tmp hf rfl) ?_
 exact ⟨_, rfl, H.bel, mk_bool⟩

/- loop.example/g00897/spec.BillOf -/
set_option maxHeartbeats 1000000 in
theorem spec_BillOf_ok {fu : Nat} {w0 : World} {S : Nat → Prop} {v0_ : Value} {v1_ : Value} {v2_ : Value} {p : Plan} {reach : Int} {spacing : Int} {r : List Item × Bool} (h0 : VR w0 S v0_ p) (h1 : VR w0 S v1_ reach) (h2 : VR w0 S v2_ spacing) (hF : spec_BillOf fu p reach spacing = some r) :
    Calls Tryz.prog 33 [v0_, v1_, v2_].toArray w0 fun e w' => ∃ v, e = .returned v ∧ (Below w0.heap.size w0 w' ∧ ∃ u0 u1, v = .tuple #[u0, u1] ∧ VR w' (St ⟨w0, []⟩ S [] [] [] true) u0 r.1 ∧ VR w' (St ⟨w0, []⟩ S [] [] [] true) u1 r.2) := by
 obtain ⟨A, c, A2, c2, A3, c3, rfl, hl, hl2, hl3⟩ := Plan_open h0
 obtain rfl := VR_int h1
 obtain rfl := VR_int h2
 have H := Mem.start ⟨w0, []⟩ S
 have H := H.pushArg (MP.val [(.slice A p.Network.Nodes.length c)] p.Network.Nodes) hl
 have H := H.pushArg (MP.val [(.slice A2 p.Network.Fibers.length c2)] p.Network.Fibers) hl2
 have H := H.pushArg (MP.val [(.slice A3 p.Lights.length c3)] p.Lights) hl3
 refine enter Tryz.func33 rfl rfl (nle rfl) rfl fun a hf => ?_
 rw [spec_BillOf] at hF
 refine sq (reg (wl0 rfl (op_box hf H rfl rfl (by decide) fun b' a w hf H => ?_)))
 refine pr 2 hf rfl rfl fun a hf => ?_
 refine wl_end (then_n (sq (reg (wl0 rfl (op_bslice hf H (.sh true) rfl 117 ([] : List Item) [] rfl (fun w => by kernel_rfl) rfl (by decide) rfl trivial el0 (by decide) fun A4 a w hf H => ?_)))))
 refine pr 1 hf rfl rfl fun a hf => ?_
 refine wl_end (then_n (sq (sq ?_)))
 obtain ⟨c4, hGc4, hF⟩ := bind_some hF
 have fh := hf.prune [1, 2, 3, 8] rfl
 have Hm := H.let [true] [true] [] [0, 1, 2] rfl rfl rfl rfl
 refine midF 30 (.bool c4) fh Hm ?_ fun a w hf H => ?_
 ·refine reg (wl0 rfl (op_q hf (rq_loadBN hf H TF.la37 0 rfl rfl rfl rfl) rfl (by decide) fun a hf => ?_))
  obtain ⟨y, hy, hGc4⟩ := bind_some hGc4
  refine wl0 rfl (op_call hf TF.cl62 rfl (by decide) (spec_l9Good_ok (S := fun _ => True) (Plan_mkv (x := p) (rep_true (α := List ByteArray) (H.get 2 rfl)) (rep_true (α := List Fiber) (H.get 1 rfl)) (rep_true (α := List Light) (H.get 0 rfl))) hy) fun v w a hp hf => ?_)
  obtain ⟨hb, hp⟩ := hp
  obtain rfl := VR_bool hp
  have H := H.keep hb
  refine pr 2 hf rfl rfl fun a hf => ?_
  refine iteB hGc4 (fun hc hGc4 => ?_) fun hc hGc4 => ?_
  ·have hf := hf.lit 21 rfl hc
   refine pr 9 hf rfl rfl fun a hf => ?_
   obtain rfl := Option.some.inj hGc4
   have hf := hf.prune [30, 1, 2, 3, 8] rfl
   have H := H.let [true] [true] [] [0, 1, 2] rfl rfl rfl rfl
   exact wl_end ⟨hf, H⟩
  ·have hf := hf.lit 21 rfl hc
   refine pr 1 hf rfl rfl fun a hf => ?_
   obtain ⟨y2, hy2, hGc4⟩ := bind_some hGc4
   refine wlg hf rfl rfl rfl (op_call hf TF.cl83 rfl (by decide) (spec_l1In_ok (S := fun _ => True) mk_int mk_int mk_int hy2) fun v2 w a hp2 hf => ?_)
   obtain ⟨hb2, hp2⟩ := hp2
   obtain rfl := VR_bool hp2
   have H := H.keep hb2
   refine pr 3 hf rfl rfl fun a hf => ?_
   refine iteB hGc4 (fun hc2 hGc4 => ?_) fun hc2 hGc4 => ?_
   ·have hf := hf.lit 26 rfl hc2
    refine pr 4 hf rfl rfl fun a hf => ?_
    obtain rfl := Option.some.inj hGc4
    have hf := hf.prune [30, 1, 2, 3, 8] rfl
    have H := H.let [true] [true] [] [0, 1, 2] rfl rfl rfl rfl
    exact wl_end ⟨hf, H⟩
   ·have hf := hf.lit 26 rfl hc2
    refine pr 1 hf rfl rfl fun a hf => ?_
    obtain ⟨y3, hy3, hGc4⟩ := bind_some hGc4
    refine wlg hf rfl rfl rfl (op_call hf TF.cl83 rfl (by decide) (spec_l1In_ok (S := fun _ => True) mk_int mk_int mk_int hy3) fun v3 w a hp3 hf => ?_)
    obtain ⟨hb3, hp3⟩ := hp3
    obtain rfl := VR_bool hp3
    have H := H.keep hb3
    refine pr 2 hf rfl rfl fun a hf => ?_
    obtain rfl := Option.some.inj hGc4
    have hf := hf.prune [30, 1, 2, 3, 8] rfl
    have H := H.let [true] [true] [] [0, 1, 2] rfl rfl rfl rfl
    exact wl_end ⟨hf, H⟩
 refine then_n (iteB hF (fun hc3 hF => cd_t hf rfl hc3 ?_) fun hc3 hF => cd_f hf rfl hc3 ?_)
 ·refine sq (reg (pr 3 hf rfl rfl fun a hf => ?_))
  refine wl_end (then_n (wp_ret (then_r (?_))))
  have H := H.freeze 0 rfl
  obtain rfl := Option.some.inj hF
  refine ret_2 (fn := Tryz.f33) (r := .tmp 6) (s := .tmp 7) hf rfl (rv_tmp hf rfl) (rv_tmp hf rfl) ?_
  exact ⟨_, rfl, H.bel, _, _, rfl, (mk_list (rep_end (α := List Item) (H.get 0 rfl))), mk_bool⟩
 ·refine wp_skip (then_n (sq (reg (pr 1 hf rfl rfl fun a hf => ?_))))
  refine wl0 rfl (op_q hf (rq_loadBN hf H TF.la34 0 rfl rfl rfl rfl) rfl (by decide) fun a hf => ?_)
  refine wl0 rfl (op_alloc hf H TF.zv34 rfl (by decide) fun b2 a w hf H => ?_)
  refine wl0 rfl (op_storeB hf H 0 TF.sz34 rfl rfl rfl rfl rfl rfl (nle rfl) fun w H => ?_)
  refine wl_end (then_n (sq (sq (reg (pr 1 hf rfl rfl fun a hf => ?_)))))
  refine wl_end (then_n ?_)
  have H := H.freeze 0 rfl
  obtain ⟨out2, hB1, hF⟩ := bind_some hF
  have hf := hf.prune [1, 2, 3, 8, 9, 10] rfl
  have H := H.let [true, true] [] [] [0, 1, 2, 3] rfl rfl rfl rfl
  refine loopC (fun (s : List Item × Int) (a : Act) (w : World) => match s with | (out', i) => ∃ (A5 : Option Addr) (c5 : Nat), Fr a 125 [(1, (.int .i64 reach)), (2, (.int .i64 spacing)), (3, (.pointer (some ⟨b', 0, none⟩))), (8, (.slice A5 out'.length c5)), (9, (.pointer (some ⟨b2, 0, none⟩))), (10, (.int .i64 i))] ∧ Mem ⟨w0, []⟩ S [⟨b2, 34, [(.slice A p.Network.Nodes.length c), (.slice A2 p.Network.Fibers.length c2)]⟩, ⟨b', 37, [(.slice A p.Network.Nodes.length c), (.slice A2 p.Network.Fibers.length c2), (.slice A3 p.Lights.length c3)]⟩] [] [] [(true, MP.val [(.slice A5 out'.length c5)] (out' : List Item)), (false, MP.val [(.slice A3 p.Lights.length c3)] (p.Lights : List Light)), (false, MP.val [(.slice A2 p.Network.Fibers.length c2)] (p.Network.Fibers : List Fiber)), (false, MP.val [(.slice A p.Network.Nodes.length c)] (p.Network.Nodes : List ByteArray))] w) (fun k (s : List Item × Int) => spec_BillOf_L1 fu p reach k s.1 s.2 = some out2) (fun s => out2 = Out.next s) (([] : List Item), 0) fu hB1 ⟨A4, 0, hf, H⟩ (fun s h => by cases h) ?_ ?_
  ·rintro fk ⟨out', i⟩ a w hR1 hI
   replace hR1 : spec_BillOf_L1 fu p reach (fk + 1) out' i = some out2 := hR1
   rw [spec_BillOf_L1] at hR1
   obtain ⟨A5, c5, hf, H⟩ := hI
   refine sq (sq (reg (pr 2 hf rfl rfl fun a hf => ?_)))
   refine wl0 rfl (op_q hf (rq_loadB hf H TF.ls35 1 rfl rfl rfl) rfl (by decide) fun a hf => ?_)
   refine pr 2 hf rfl rfl fun a hf => ?_
   refine wl_end (then_n (iteB hR1 (fun hc4 hR1 => cd_t hf rfl hc4 ?_) fun hc4 hR1 => cd_f hf rfl hc4 ?_))
   ·refine wp_skip (then_n (sq (wp_block (sq (reg (pr 1 hf rfl rfl fun a hf => ?_))))))
    refine wl0 rfl (op_q hf (rq_loadB hf H TF.ls35 1 rfl rfl rfl) rfl (by decide) fun a hf => ?_)
    refine pr 1 hf rfl rfl fun a hf => ?_
    obtain ⟨e, he, hR1⟩ := bind_some hR1
    refine wl0 rfl (op_iaddr hf H Tryz.underlying35 TF.sz112 1 rfl rfl rfl he (by decide) fun p2 o cs a hf hr H => ?_)
    obtain ⟨A6, c6, rfl, hl4⟩ := Light_cells hr
    have H := H.push (false, MP.val [(.slice A6 e.Route.Fibers.length c6)] e.Route.Fibers) hl4
    refine pr 1 hf rfl rfl fun a hf => ?_
    refine wl0 rfl (op_q hf (rq_loadIN hf H TF.la108 1 1 rfl rfl rfl rfl) rfl (by decide) fun a hf => ?_)
    refine wl0 rfl (op_alloc hf H TF.zv108 rfl (by decide) fun b3 a w hf H => ?_)
    refine wl0 rfl (op_storeB hf H 0 TF.sz108 rfl rfl rfl rfl rfl rfl (nle rfl) fun w H => ?_)
    refine wl_end (then_n (sq (reg (wl0 rfl (op_q hf (rq_loadBN hf H TF.la34 1 rfl rfl rfl rfl) rfl (by decide) fun a hf => ?_)))))
    refine wl0 rfl (op_q hf (rq_loadBN hf H TF.la108 0 rfl rfl rfl rfl) rfl (by decide) fun a hf => ?_)
    refine pr 1 hf rfl rfl fun a hf => ?_
    obtain ⟨y4, hy4, hR1⟩ := bind_some hR1
    refine wl0 rfl (op_call hf TF.cl87 rfl (by decide) (spec_RegeneratorsFor_ok (S := fun _ => True) (Network_mkv (x := p.Network) (rep_true (α := List ByteArray) (H.get 5 rfl)) (rep_true (α := List Fiber) (H.get 4 rfl))) (Route_mkv (x := e.Route) (rep_true (α := List Int) (H.get 0 rfl))) mk_int hy4) fun v4 w a hp4 hf => ?_)
    obtain ⟨hb4, F, v5, v6, rfl, hp5, hp6, hN⟩ := hp4
    obtain ⟨A7, c7, rfl, hl5⟩ := VO_list hp5
    obtain rfl := VR_bool hp6
    have H := H.addOwn hb4 (X := [(⟨F, MP.own F [(.slice A7 y4.1.length c7)] (y4.1 : List Int)⟩ : DI)]) (by simpa using hN.1) (ps1 hl5 ps0) (by simpa using hN.2)
    have H := H.lend 0 rfl
    refine pr 5 hf rfl rfl fun a hf => ?_
    have hf := hf.prune [1, 2, 3, 8, 9, 10, 11, 12, 13] rfl
    refine wl_end (then_n (sq (sq (reg (pr 2 hf rfl rfl fun a hf => ?_)))))
    refine wl_end (then_n (iteB hR1 (fun hc5 hR1 => cd_t hf rfl hc5 ?_) fun hc5 hR1 => cd_f hf rfl hc5 ?_))
    ·refine sq (reg (wl0 rfl (op_bslice hf H (.sh true) rfl 117 ([] : List Item) [] rfl (fun w => by kernel_rfl) rfl (by decide) rfl trivial el0 (by decide) fun A8 a w hf H => ?_)))
     refine pr 2 hf rfl rfl fun a hf => ?_
     refine wl_end (then_n (wp_ret (then_r (blk_r (then_r (then_r (blk_r (then_r (then_r (?_))))))))))
     have H := H.freeze 0 rfl
     obtain rfl := Option.some.inj hR1
     replace hF := on_ret hF
     obtain rfl := Option.some.inj hF
     refine ret_2 (fn := Tryz.f33) (r := .tmp 6) (s := .tmp 7) hf rfl (rv_tmp hf rfl) (rv_tmp hf rfl) ?_
     exact ⟨_, rfl, H.bel, _, _, rfl, (mk_list (rep_end (α := List Item) (H.get 0 rfl))), mk_bool⟩
    ·refine wp_skip (then_n (sq (reg (pr 2 hf rfl rfl fun a hf => ?_))))
     refine wl0 rfl (op_q hf (rq_loadB hf H TF.ls3 0 rfl rfl rfl) rfl (by decide) fun a hf => ?_)
     refine wl0 rfl (op_q hf (rq_build hf (cs := [(.int .i64 1), (.int .i64 e.Route.Start), (.int .i64 1)]) rfl (fun w => by kernel_rfl)) rfl (by decide) fun a hf => ?_)
     obtain ⟨y5, hy5, hR1⟩ := bind_some hR1
     refine wl0 rfl (op_call hf TF.cl88 rfl (by decide) (spec_l19Add_ok (mk_list (H.get 3 rfl)) Item_mkv hy5) fun v7 w a hp7 hf => ?_)
     obtain ⟨hb5, hp7⟩ := hp7
     obtain ⟨A9, c8, rfl, hl6⟩ := VR_list hp7
     replace hl6 := H.res (f := MP.val [(.slice A9 y5.length c8)] y5) hl6
     have H := H.keep hb5
     have H := H.push (true, MP.val [(.slice A9 y5.length c8)] y5) hl6
     refine pr 1 hf rfl rfl fun a hf => ?_
     refine wl_end (then_n (sq (reg (pr 1 hf rfl rfl fun a hf => ?_))))
     refine wl0 rfl (op_q hf (rq_loadBN hf H TF.la34 1 rfl rfl rfl rfl) rfl (by decide) fun a hf => ?_)
     refine wl0 rfl (op_q hf (rq_loadBN hf H TF.la108 0 rfl rfl rfl rfl) rfl (by decide) fun a hf => ?_)
     obtain ⟨y6, hy6, hR1⟩ := bind_some hR1
     refine wl0 rfl (op_call hf TF.cl89 rfl (by decide) (spec_l4End_ok (S := fun _ => True) (Network_mkv (x := p.Network) (rep_true (α := List ByteArray) (H.get 7 rfl)) (rep_true (α := List Fiber) (H.get 6 rfl))) (Route_mkv (x := e.Route) (rep_true (α := List Int) (H.get 2 rfl))) hy6) fun v8 w a hp8 hf => ?_)
     obtain ⟨hb6, hp8⟩ := hp8
     obtain rfl := VR_int hp8
     have H := H.keep hb6
     refine wl0 rfl (op_q hf (rq_build hf (cs := [(.int .i64 1), (.int .i64 y6), (.int .i64 1)]) rfl (fun w => by kernel_rfl)) rfl (by decide) fun a hf => ?_)
     obtain ⟨y7, hy7, hR1⟩ := bind_some hR1
     refine wl0 rfl (op_call hf TF.cl88 rfl (by decide) (spec_l19Add_ok (mk_list (H.get 0 rfl)) Item_mkv hy7) fun v9 w a hp9 hf => ?_)
     obtain ⟨hb7, hp9⟩ := hp9
     obtain ⟨A10, c9, rfl, hl7⟩ := VR_list hp9
     replace hl7 := H.res (f := MP.val [(.slice A10 y7.length c9)] y7) hl7
     have H := H.keep hb7
     have H := H.push (true, MP.val [(.slice A10 y7.length c9)] y7) hl7
     refine pr 1 hf rfl rfl fun a hf => ?_
     have hf := hf.prune [1, 2, 3, 8, 9, 10, 12] rfl
     refine wl_end (then_n (sq (reg (pr 1 hf rfl rfl fun a hf => ?_))))
     refine wl_end (then_n ?_)
     obtain ⟨out4, hB2, hR1⟩ := bind_some hR1
     have hf := hf.prune [1, 2, 3, 8, 9, 10, 12, 14] rfl
     have H := H.let [false, true, true] [] [true] [0, 2, 6, 7, 8] rfl rfl rfl rfl
     refine loopC (fun (s : List Item × Int) (a : Act) (w : World) => match s with | (out3, k') => ∃ (A11 : Option Addr) (c10 : Nat), Fr a 125 [(1, (.int .i64 reach)), (2, (.int .i64 spacing)), (3, (.pointer (some ⟨b', 0, none⟩))), (8, (.slice A11 out3.length c10)), (9, (.pointer (some ⟨b2, 0, none⟩))), (10, (.int .i64 i)), (12, (.slice A7 y4.1.length c7)), (14, (.int .i64 k'))] ∧ Mem ⟨w0, []⟩ S [⟨b2, 34, [(.slice A p.Network.Nodes.length c), (.slice A2 p.Network.Fibers.length c2)]⟩, ⟨b', 37, [(.slice A p.Network.Nodes.length c), (.slice A2 p.Network.Fibers.length c2), (.slice A3 p.Lights.length c3)]⟩] [] [⟨F, MP.own F [(.slice A7 y4.1.length c7)] (y4.1 : List Int)⟩] [(true, MP.val [(.slice A11 out3.length c10)] (out3 : List Item)), (true, MP.val [(.slice A7 y4.1.length c7)] (y4.1 : List Int)), (false, MP.val [(.slice A3 p.Lights.length c3)] (p.Lights : List Light)), (false, MP.val [(.slice A2 p.Network.Fibers.length c2)] (p.Network.Fibers : List Fiber)), (false, MP.val [(.slice A p.Network.Nodes.length c)] (p.Network.Nodes : List ByteArray))] w) (fun k (s : List Item × Int) => spec_BillOf_L2 fu y4 k s.1 s.2 = some out4) (fun s => out4 = s) (y7, 0) fu hB2 ⟨A10, c9, hf, H⟩ (fun s h => by cases h) ?_ ?_
     ·rintro fk ⟨out3, k'⟩ a w hR2 hI
      replace hR2 : spec_BillOf_L2 fu y4 (fk + 1) out3 k' = some out4 := hR2
      rw [spec_BillOf_L2] at hR2
      obtain ⟨A11, c10, hf, H⟩ := hI
      refine sq (sq (reg (pr 4 hf rfl rfl fun a hf => ?_)))
      refine wl_end (then_n (iteB hR2 (fun hc6 hR2 => cd_t hf rfl hc6 ?_) fun hc6 hR2 => cd_f hf rfl hc6 ?_))
      ·refine wp_skip (then_n (sq (wp_block (reg (pr 3 hf rfl rfl fun a hf => ?_)))))
       obtain ⟨e2, he2, hR2⟩ := bind_some hR2
       refine wl0 rfl (op_iaddr hf H Tryz.underlying44 TF.sz3 1 rfl rfl rfl he2 (by decide) fun p3 o2 cs2 a hf hr2 H => ?_)
       obtain rfl := hr2
       refine wl0 rfl (op_q hf (rq_loadI hf H TF.ls3 0 0 rfl rfl rfl) rfl (by decide) fun a hf => ?_)
       refine wl0 rfl (op_q hf (rq_build hf (cs := [(.int .i64 2), (.int .i64 e2), (.int .i64 1)]) rfl (fun w => by kernel_rfl)) rfl (by decide) fun a hf => ?_)
       obtain ⟨y8, hy8, hR2⟩ := bind_some hR2
       refine wl0 rfl (op_call hf TF.cl88 rfl (by decide) (spec_l19Add_ok (mk_list (H.get 1 rfl)) Item_mkv hy8) fun v10 w a hp10 hf => ?_)
       obtain ⟨hb8, hp10⟩ := hp10
       obtain ⟨A12, c11, rfl, hl8⟩ := VR_list hp10
       replace hl8 := H.res (f := MP.val [(.slice A12 y8.length c11)] y8) hl8
       have H := H.keep hb8
       have H := H.push (true, MP.val [(.slice A12 y8.length c11)] y8) hl8
       refine pr 1 hf rfl rfl fun a hf => ?_
       refine wl_end (blk_n (then_n (reg (pr 3 hf rfl rfl fun a hf => ?_))))
       have hf := hf.prune [1, 2, 3, 8, 9, 10, 12, 14] rfl
       refine wl_end ?_
       have hf := hf.prune [1, 2, 3, 8, 9, 10, 12, 14] rfl
       have H := H.let [true, true] [] [true] [0, 3, 4, 5, 6] rfl rfl rfl rfl
       exact then_n ⟨(y8, w64 (k' + 1)), hR2, A12, c11, hf, H⟩
      ·refine wp_exit (then_x (then_x (blk_e (?_))))
       have hf := hf.prune [1, 2, 3, 8, 9, 10, 12, 14] rfl
       have H := H.let [true, true] [] [true] [0, 1, 2, 3, 4] rfl rfl rfl rfl
       exact ⟨(out3, k'), (Option.some.inj hR2).symm, A11, c10, hf, H⟩
     rintro a w ⟨⟨out5, k2⟩, rfl, A13, c12, hf, H⟩
     dsimp only at hR1
     refine blk_n (then_n (reg (pr 3 hf rfl rfl fun a hf => ?_)))
     refine wl_end ?_
     have hf := hf.prune [1, 2, 3, 8, 9, 10] rfl
     have H := H.let [true, true] [] [false] [0, 2, 3, 4] rfl rfl rfl rfl
     exact then_n ⟨(out5, w64 (i + 1)), hR1, A13, c12, hf, H⟩
   ·refine wp_exit (then_x (then_x (blk_e (?_))))
    have hf := hf.prune [1, 2, 3, 8, 9, 10] rfl
    have H := H.let [true, true] [] [] [0, 1, 2, 3] rfl rfl rfl rfl
    exact ⟨(out', i), (Option.some.inj hR1).symm, A5, c5, hf, H⟩
  rintro a w ⟨⟨out6, i2⟩, rfl, A14, c13, hf, H⟩
  replace hF := on_next hF
  dsimp only at hF
  refine then_n (sq (sq (reg (pr 1 hf rfl rfl fun a hf => ?_))))
  refine wl_end (then_n ?_)
  obtain ⟨out8, hB1, hF⟩ := bind_some hF
  have hf := hf.prune [2, 3, 8, 9, 15] rfl
  have H := H.let [true, true] [] [] [0, 1, 2, 3] rfl rfl rfl rfl
  refine loopC (fun (s : Int × List Item) (a : Act) (w : World) => match s with | (i3, out7) => ∃ (A15 : Option Addr) (c14 : Nat), Fr a 125 [(2, (.int .i64 spacing)), (3, (.pointer (some ⟨b', 0, none⟩))), (8, (.slice A15 out7.length c14)), (9, (.pointer (some ⟨b2, 0, none⟩))), (15, (.int .i64 i3))] ∧ Mem ⟨w0, []⟩ S [⟨b2, 34, [(.slice A p.Network.Nodes.length c), (.slice A2 p.Network.Fibers.length c2)]⟩, ⟨b', 37, [(.slice A p.Network.Nodes.length c), (.slice A2 p.Network.Fibers.length c2), (.slice A3 p.Lights.length c3)]⟩] [] [] [(true, MP.val [(.slice A15 out7.length c14)] (out7 : List Item)), (false, MP.val [(.slice A3 p.Lights.length c3)] (p.Lights : List Light)), (false, MP.val [(.slice A2 p.Network.Fibers.length c2)] (p.Network.Fibers : List Fiber)), (false, MP.val [(.slice A p.Network.Nodes.length c)] (p.Network.Nodes : List ByteArray))] w) (fun k (s : Int × List Item) => spec_BillOf_L3 fu p spacing k s.1 s.2 = some out8) (fun s => out8 = s) (0, out6) fu hB1 ⟨A14, c13, hf, H⟩ (fun s h => by cases h) ?_ ?_
  ·rintro fk ⟨i3, out7⟩ a w hR1 hI
   replace hR1 : spec_BillOf_L3 fu p spacing (fk + 1) i3 out7 = some out8 := hR1
   rw [spec_BillOf_L3] at hR1
   obtain ⟨A15, c14, hf, H⟩ := hI
   refine sq (sq (reg (pr 2 hf rfl rfl fun a hf => ?_)))
   refine wl0 rfl (op_q hf (rq_loadB hf H TF.ls32 0 rfl rfl rfl) rfl (by decide) fun a hf => ?_)
   refine pr 2 hf rfl rfl fun a hf => ?_
   refine wl_end (then_n (iteB hR1 (fun hc7 hR1 => cd_t hf rfl hc7 ?_) fun hc7 hR1 => cd_f hf rfl hc7 ?_))
   ·refine wp_skip (then_n (sq (wp_block (sq (sq (reg (wl0 rfl (op_q hf (rq_loadBN hf H TF.la37 1 rfl rfl rfl rfl) rfl (by decide) fun a hf => ?_))))))))
    refine pr 1 hf rfl rfl fun a hf => ?_
    obtain ⟨y9, hy9, hR1⟩ := bind_some hR1
    refine wl0 rfl (op_call hf TF.cl75 rfl (by decide) (spec_l9Used_ok (S := fun _ => True) (Plan_mkv (x := p) (rep_true (α := List ByteArray) (H.get 3 rfl)) (rep_true (α := List Fiber) (H.get 2 rfl)) (rep_true (α := List Light) (H.get 1 rfl))) mk_int hy9) fun v11 w a hp11 hf => ?_)
    obtain ⟨hb9, hp11⟩ := hp11
    obtain rfl := VR_int hp11
    have H := H.keep hb9
    refine pr 1 hf rfl rfl fun a hf => ?_
    refine wl_end (then_n (iteB hR1 (fun hc8 hR1 => cd_t hf rfl hc8 ?_) fun hc8 hR1 => cd_f hf rfl hc8 ?_))
    ·refine wp_exit (then_x (blk_e (?_)))
     refine then_n (reg (pr 3 hf rfl rfl fun a hf => ?_))
     refine wl_end ?_
     have hf := hf.prune [2, 3, 8, 9, 15] rfl
     have H := H.let [true, true] [] [] [0, 1, 2, 3] rfl rfl rfl rfl
     exact then_n ⟨(w64 (i3 + 1), out7), hR1, A15, c14, hf, H⟩
    ·refine wp_skip (then_n (sq (reg (pr 1 hf rfl rfl fun a hf => ?_))))
     refine wl0 rfl (op_q hf (rq_loadB hf H TF.ls32 0 rfl rfl rfl) rfl (by decide) fun a hf => ?_)
     refine pr 1 hf rfl rfl fun a hf => ?_
     obtain ⟨e3, he3, hR1⟩ := bind_some hR1
     refine wl0 rfl (op_iaddr hf H Tryz.underlying32 TF.sz120 2 rfl rfl rfl he3 (by decide) fun p4 o3 cs3 a hf hr3 H => ?_)
     obtain rfl := Fiber_cells hr3
     refine wl0 rfl (op_q hf (rq_loadIN hf H TF.la120 0 0 rfl rfl rfl rfl) rfl (by decide) fun a hf => ?_)
     refine wl0 rfl (op_alloc hf H TF.zv120 rfl (by decide) fun b4 a w hf H => ?_)
     refine wl0 rfl (op_storeB hf H 0 TF.sz120 rfl rfl rfl rfl rfl rfl (nle rfl) fun w H => ?_)
     have hf := hf.prune [2, 3, 8, 9, 15, 16] rfl
     refine wl_end (then_n (sq (reg (pr 2 hf rfl rfl fun a hf => ?_))))
     refine wl0 rfl (op_q hf (rq_loadB hf H TF.ls3 0 rfl rfl rfl) rfl (by decide) fun a hf => ?_)
     refine wl0 rfl (op_q hf (rq_build hf (cs := [(.int .i64 4), (.int .i64 e3.A), (.int .i64 1)]) rfl (fun w => by kernel_rfl)) rfl (by decide) fun a hf => ?_)
     obtain ⟨y10, hy10, hR1⟩ := bind_some hR1
     refine wl0 rfl (op_call hf TF.cl88 rfl (by decide) (spec_l19Add_ok (mk_list (H.get 1 rfl)) Item_mkv hy10) fun v12 w a hp12 hf => ?_)
     obtain ⟨hb10, hp12⟩ := hp12
     obtain ⟨A16, c15, rfl, hl9⟩ := VR_list hp12
     replace hl9 := H.res (f := MP.val [(.slice A16 y10.length c15)] y10) hl9
     have H := H.keep hb10
     have H := H.push (true, MP.val [(.slice A16 y10.length c15)] y10) hl9
     refine pr 1 hf rfl rfl fun a hf => ?_
     refine wl_end (then_n (sq (reg (pr 2 hf rfl rfl fun a hf => ?_))))
     refine wl0 rfl (op_q hf (rq_loadB hf H TF.ls3 0 rfl rfl rfl) rfl (by decide) fun a hf => ?_)
     refine wl0 rfl (op_q hf (rq_build hf (cs := [(.int .i64 4), (.int .i64 e3.B), (.int .i64 1)]) rfl (fun w => by kernel_rfl)) rfl (by decide) fun a hf => ?_)
     obtain ⟨y11, hy11, hR1⟩ := bind_some hR1
     refine wl0 rfl (op_call hf TF.cl88 rfl (by decide) (spec_l19Add_ok (mk_list (H.get 0 rfl)) Item_mkv hy11) fun v13 w a hp13 hf => ?_)
     obtain ⟨hb11, hp13⟩ := hp13
     obtain ⟨A17, c16, rfl, hl10⟩ := VR_list hp13
     replace hl10 := H.res (f := MP.val [(.slice A17 y11.length c16)] y11) hl10
     have H := H.keep hb11
     have H := H.push (true, MP.val [(.slice A17 y11.length c16)] y11) hl10
     refine pr 1 hf rfl rfl fun a hf => ?_
     refine wl_end (then_n (drawn [] (bs := [false, false, false, false, false, false, false, false, false, false, false, false, false, false]) (fuel := 14) (Checked.mixed Tryz.checked) rfl rfl fun w hb => ?_))
     have H := H.keep hb
     refine tp 0 rfl rfl hf (by kernel_rfl) (fun _ => trivial) rfl fun a hf => ?_
     refine tp 1 rfl rfl hf (by kernel_rfl) (fun _ => trivial) rfl fun a hf => ?_
     refine strT (H.let [true, false, false] [] [] [] rfl rfl rfl rfl) (fun w H => trivial) fun hS => ?_
     refine tS 2 [] rfl rfl rfl rfl hf (by kernel_rfl) (by kernel_rfl) hS (fun w H => rq_loadB hf H TF.ls3 0 rfl rfl rfl) fun a hf => ?_
     refine tp 3 rfl rfl hf (by kernel_rfl) (fun _ => hS) rfl fun a hf => ?_
     refine tS 4 [] rfl rfl rfl rfl hf (by kernel_rfl) (by kernel_rfl) hS (fun w H => rq_loadB hf H TF.ls3 0 rfl rfl rfl) fun a hf => ?_
     refine tp 5 rfl rfl hf (by kernel_rfl) (fun _ => hS) rfl fun a hf => ?_
     refine tp 6 rfl rfl hf (by kernel_rfl) (fun _ => hS) rfl fun a hf => ?_
     refine tp 7 rfl rfl hf (by kernel_rfl) (fun _ => hS) rfl fun a hf => ?_
     refine tp 8 rfl rfl hf (by kernel_rfl) (fun _ => hS) rfl fun a hf => ?_
     obtain ⟨q, hq, hR1⟩ := bind_some hR1
     refine tP 9 rfl rfl rfl rfl hf (by kernel_rfl) (fun _ => hS) (fun w => rq_quo hf rfl rfl hq) fun a hf => ?_
     refine tp 10 rfl rfl hf (by kernel_rfl) (fun _ => hS) rfl fun a hf => ?_
     refine tP 11 rfl rfl rfl rfl hf (by kernel_rfl) (fun _ => hS) (fun w => rq_build hf (cs := [(.int .i64 3), (.int .i64 e3.A), (.int .i64 (w64 (q - 1)))]) rfl (fun w => by kernel_rfl)) fun a hf => ?_
     obtain ⟨y12, hy12, hR1⟩ := bind_some hR1
     refine n1 12 (by kernel_rfl) rfl rfl (op_call hf TF.cl88 rfl (by decide) (spec_l19Add_ok (mk_list (H.get 0 rfl)) Item_mkv hy12) fun v14 w a hp14 hf => ?_)
     obtain ⟨hb12, hp14⟩ := hp14
     obtain ⟨A18, c17, rfl, hl11⟩ := VR_list hp14
     replace hl11 := H.res (f := MP.val [(.slice A18 y12.length c17)] y12) hl11
     have H := H.keep hb12
     have H := H.push (true, MP.val [(.slice A18 y12.length c17)] y12) hl11
     have hS := H.let [true, false, false] [] [] [] rfl rfl rfl rfl
     refine ⟨fun _ => hS, ?_⟩
     refine tp 13 rfl rfl hf (by kernel_rfl) (fun _ => hS) rfl fun a hf => ?_
     refine dn (by kernel_rfl) ?_
     have hf := hf.prune [2, 3, 8, 9, 15] rfl
     refine blk_n (then_n (reg (pr 3 hf rfl rfl fun a hf => ?_)))
     refine wl_end ?_
     have hf := hf.prune [2, 3, 8, 9, 15] rfl
     have H := H.let [false, true, true] [] [] [0, 5, 6, 7] rfl rfl rfl rfl
     exact then_n ⟨(w64 (i3 + 1), y12), hR1, A18, c17, hf, H⟩
   ·refine wp_exit (then_x (then_x (blk_e (?_))))
    have hf := hf.prune [2, 3, 8, 9, 15] rfl
    have H := H.let [true, true] [] [] [0, 1, 2, 3] rfl rfl rfl rfl
    exact ⟨(i3, out7), (Option.some.inj hR1).symm, A15, c14, hf, H⟩
  rintro a w ⟨⟨i4, out9⟩, rfl, A19, c18, hf, H⟩
  dsimp only at hF
  refine then_n (sq (sq (reg (pr 1 hf rfl rfl fun a hf => ?_))))
  obtain ⟨y13, hy13, hF⟩ := bind_some hF
  refine wl0 rfl (op_call hf TF.cl90 rfl (by decide) (spec_l19Bill_ok (S := fun _ => True) (mk_list (rep_true (α := List Item) (H.get 0 rfl))) hy13) fun v15 w a hp15 hf => ?_)
  obtain ⟨hb13, hp15⟩ := hp15
  obtain rfl := VR_bool hp15
  have H := H.keep hb13
  refine pr 1 hf rfl rfl fun a hf => ?_
  refine wl_end (then_n (iteB hF (fun hc9 hF => cd_t hf rfl hc9 ?_) fun hc9 hF => cd_f hf rfl hc9 ?_))
  ·refine sq (reg (wl0 rfl (op_bslice hf H (.sh true) rfl 117 ([] : List Item) [] rfl (fun w => by kernel_rfl) rfl (by decide) rfl trivial el0 (by decide) fun A20 a w hf H => ?_)))
   refine pr 2 hf rfl rfl fun a hf => ?_
   refine wl_end (then_n (wp_ret (then_r (?_))))
   have H := H.freeze 0 rfl
   obtain rfl := Option.some.inj hF
   refine ret_2 (fn := Tryz.f33) (r := .tmp 6) (s := .tmp 7) hf rfl (rv_tmp hf rfl) (rv_tmp hf rfl) ?_
   exact ⟨_, rfl, H.bel, _, _, rfl, (mk_list (rep_end (α := List Item) (H.get 0 rfl))), mk_bool⟩
  ·refine wp_skip (then_n (sq (reg (pr 3 hf rfl rfl fun a hf => ?_))))
   refine wl_end (then_n (wp_ret (?_)))
   obtain rfl := Option.some.inj hF
   refine ret_2 (fn := Tryz.f33) (r := .tmp 6) (s := .tmp 7) hf rfl (rv_tmp hf rfl) (rv_tmp hf rfl) ?_
   exact ⟨_, rfl, H.bel, _, _, rfl, (mk_list (rep_end (α := List Item) (H.get 0 rfl))), mk_bool⟩

/- loop.example/g00897/impl.regenerators -/
set_option maxHeartbeats 1000000 in
theorem impl_regenerators_ok {fu : Nat} {w0 : World} {S : Nat → Prop} {v0_ : Value} {v1_ : Value} {v2_ : Value} {n' : Network} {r' : Route} {reach : Int} {r : List Int × Bool} (h0 : VR w0 S v0_ n') (h1 : VR w0 S v1_ r') (h2 : VR w0 S v2_ reach) (hF : impl_regenerators fu n' r' reach = some r) :
    Calls Tryz.prog 91 [v0_, v1_, v2_].toArray w0 fun e w' => ∃ v, e = .returned v ∧ (Below w0.heap.size w0 w' ∧ ∃ F0, ∃ u0 u1, v = .tuple #[u0, u1] ∧ VO w' F0 u0 r.1 ∧ VR w' (St ⟨w0, []⟩ S [] [] [] true) u1 r.2 ∧ New w0 w' F0) := by
 obtain ⟨A, c, A2, c2, rfl, hl, hl2⟩ := Network_open h0
 obtain ⟨A3, c3, rfl, hl3⟩ := Route_open h1
 obtain rfl := VR_int h2
 have H := Mem.start ⟨w0, []⟩ S
 have H := H.pushArg (MP.val [(.slice A n'.Nodes.length c)] n'.Nodes) hl
 have H := H.pushArg (MP.val [(.slice A2 n'.Fibers.length c2)] n'.Fibers) hl2
 have H := H.pushArg (MP.val [(.slice A3 r'.Fibers.length c3)] r'.Fibers) hl3
 refine enter Tryz.func91 rfl rfl (nle rfl) rfl fun a hf => ?_
 rw [impl_regenerators] at hF
 refine sq (reg (wl0 rfl (op_box hf H rfl rfl (by decide) fun b' a w hf H => ?_)))
 refine wl0 rfl (op_box hf H rfl rfl (by decide) fun b2 a w hf H => ?_)
 refine pr 2 hf rfl rfl fun a hf => ?_
 refine wl_end (then_n (sq (reg (wl0 rfl (op_q hf (rq_loadBN hf H TF.la34 1 rfl rfl rfl rfl) rfl (by decide) fun a hf => ?_)))))
 refine wl0 rfl (op_q hf (rq_loadBN hf H TF.la108 0 rfl rfl rfl rfl) rfl (by decide) fun a hf => ?_)
 obtain ⟨y, hy, hF⟩ := bind_some hF
 refine wl0 rfl (op_call hf TF.cl156 rfl (by decide) (impl_visited_ok (S := fun _ => True) (Network_mkv (x := n') (rep_true (α := List ByteArray) (H.get 2 rfl)) (rep_true (α := List Fiber) (H.get 1 rfl))) (Route_mkv (x := r') (rep_true (α := List Int) (H.get 0 rfl))) hy) fun v w a hp hf => ?_)
 obtain ⟨hb, F, v2, v3, rfl, hp2, hp3, hN⟩ := hp
 obtain ⟨A4, c4, rfl, hl4⟩ := VO_list hp2
 obtain rfl := VR_bool hp3
 have H := H.addOwn hb (X := [(⟨F, MP.own F [(.slice A4 y.1.length c4)] (y.1 : List Int)⟩ : DI)]) (by simpa using hN.1) (ps1 hl4 ps0) (by simpa using hN.2)
 have H := H.lend 0 rfl
 refine pr 5 hf rfl rfl fun a hf => ?_
 refine wl_end (then_n (sq (reg (wl0 rfl (op_bslice hf H (.sh true) rfl 3 ([] : List Int) [] rfl (fun w => by kernel_rfl) rfl (by decide) rfl trivial el0 (by decide) fun A5 a w hf H => ?_)))))
 refine pr 2 hf rfl rfl fun a hf => ?_
 refine wl_end (then_n (sq (sq (reg (pr 1 hf rfl rfl fun a hf => ?_)))))
 refine wl0 rfl (op_q hf (rq_loadB hf H TF.ls44 0 rfl rfl rfl) rfl (by decide) fun a hf => ?_)
 refine pr 2 hf rfl rfl fun a hf => ?_
 have hf := hf.prune [2, 3, 8, 10, 11, 23, 24, 25] rfl
 refine wl_end (then_n ?_)
 obtain ⟨out2, hB1, hF⟩ := bind_some hF
 have hf := hf.prune [2, 3, 8, 10, 11, 23, 24, 25] rfl
 have H := H.let [false, true] [true] [true] [0, 1, 2, 3] rfl rfl rfl rfl
 refine loopC (fun (s : List Int × Int × Int) (a : Act) (w : World) => match s with | (out', far, i) => ∃ (A6 : Option Addr) (c5 : Nat) (E : Go.TypeId), Fr a 56 [(2, (.int .i64 reach)), (3, (.pointer (some ⟨b', 0, none⟩))), (8, (.slice A4 y.1.length c4)), (10, (.slice A6 out'.length c5)), (11, (.int .i64 far)), (23, (.slice A3 r'.Fibers.length c3)), (24, (.int .i64 (r'.Fibers.length : Int))), (25, (.int .i64 i))] ∧ Mem ⟨w0, []⟩ S [⟨b', 34, [(.slice A n'.Nodes.length c), (.slice A2 n'.Fibers.length c2)]⟩] [⟨.sh true, E, A6, c5, (out' : List Int)⟩] [⟨F, MP.own F [(.slice A4 y.1.length c4)] (y.1 : List Int)⟩] [(true, MP.val [(.slice A4 y.1.length c4)] (y.1 : List Int)), (false, MP.val [(.slice A3 r'.Fibers.length c3)] (r'.Fibers : List Int)), (false, MP.val [(.slice A2 n'.Fibers.length c2)] (n'.Fibers : List Fiber)), (false, MP.val [(.slice A n'.Nodes.length c)] (n'.Nodes : List ByteArray))] w) (fun k (s : List Int × Int × Int) => impl_regenerators_L1 fu n' r' reach y k s.1 s.2.1 s.2.2 = some out2) (fun s => out2 = Out.next s) (([] : List Int), 0, 0) fu hB1 ⟨A5, 0, 3, hf, H⟩ (fun s h => by cases h) ?_ ?_
 ·rintro fk ⟨out', far, i⟩ a w hR1 hI
  replace hR1 : impl_regenerators_L1 fu n' r' reach y (fk + 1) out' far i = some out2 := hR1
  rw [impl_regenerators_L1] at hR1
  obtain ⟨A6, c5, E, hf, H⟩ := hI
  refine sq (reg (pr 1 hf rfl rfl fun a hf => ?_))
  refine wl_end (then_n (sq (iteB hR1 (fun hc hR1 => cd_t hf rfl hc ?_) fun hc hR1 => cd_f hf rfl hc ?_)))
  ·refine wp_skip (then_n (sq (wp_block (sq (reg (pr 1 hf rfl rfl fun a hf => ?_))))))
   obtain ⟨e, he, hR1⟩ := bind_some hR1
   refine wl0 rfl (op_iaddr hf H Tryz.underlying44 TF.sz3 1 rfl rfl rfl he (by decide) fun p o cs a hf hr H => ?_)
   obtain rfl := hr
   refine wl0 rfl (op_q hf (rq_loadI hf H TF.ls3 0 0 rfl rfl rfl) rfl (by decide) fun a hf => ?_)
   refine pr 2 hf rfl rfl fun a hf => ?_
   refine wl_end (then_n (sq (reg (pr 1 hf rfl rfl fun a hf => ?_))))
   refine wl0 rfl (op_q hf (rq_loadB hf H TF.ls32 0 rfl rfl rfl) rfl (by decide) fun a hf => ?_)
   refine pr 1 hf rfl rfl fun a hf => ?_
   obtain ⟨e2, he2, hR1⟩ := bind_some hR1
   refine wl0 rfl (op_iaddr hf H Tryz.underlying32 TF.sz120 3 rfl rfl rfl he2 (by decide) fun p2 o2 cs2 a hf hr2 H => ?_)
   obtain rfl := Fiber_cells hr2
   refine pr 1 hf rfl rfl fun a hf => ?_
   refine wl0 rfl (op_q hf (rq_loadI hf H TF.ls3 0 2 rfl rfl rfl) rfl (by decide) fun a hf => ?_)
   refine pr 1 hf rfl rfl fun a hf => ?_
   refine wl_end (then_n (sq (sq (reg (pr 3 hf rfl rfl fun a hf => ?_)))))
   have hf := hf.prune [2, 3, 8, 10, 11, 12, 14, 23, 24, 25, 38] rfl
   refine wl_end (then_n (iteB hR1 (fun hc2 hR1 => cd_t hf rfl hc2 ?_) fun hc2 hR1 => cd_f hf rfl hc2 ?_))
   ·refine sq (reg (pr 2 hf rfl rfl fun a hf => ?_))
    refine wl_end (then_n (wp_ret (then_r (blk_r (then_r (then_r (blk_r (then_r (then_r (?_))))))))))
    have H := H.ownNil (Int)
    have H := H.lend 0 rfl
    obtain rfl := Option.some.inj hR1
    replace hF := on_ret hF
    obtain rfl := Option.some.inj hF
    refine ret_2 (fn := Tryz.f91) (r := .tmp 6) (s := .tmp 7) hf rfl (rv_tmp hf rfl) (rv_tmp hf rfl) ?_
    have hN := H.ends (X := [(⟨[], MP.own [] [(.slice none 0 0)] ([] : List Int)⟩ : DI)])
    simp only [List.flatMap_cons, List.flatMap_nil, List.append_nil, List.append_assoc] at hN
    exact ⟨_, rfl, H.bel, [], _, _, rfl, (mko_list (H.ownAt 0 rfl)), mk_bool, by first | exact hN | simpa using hN⟩
   ·refine wp_skip (then_n (sq (sq (reg (pr 5 hf rfl rfl fun a hf => ?_)))))
    refine wl_end (then_n (iteB hR1 (fun hc3 hR1 => cd_t hf rfl hc3 ?_) fun hc3 hR1 => cd_f hf rfl hc3 ?_))
    ·refine reg (pr 3 hf rfl rfl fun a hf => ?_)
     obtain ⟨e3, he3, hR1⟩ := bind_some hR1
     refine wl0 rfl (op_iaddr hf H Tryz.underlying44 TF.sz3 2 rfl rfl rfl he3 (by decide) fun p3 o3 cs3 a hf hr3 H => ?_)
     obtain rfl := hr3
     refine wl0 rfl (op_q hf (rq_loadI hf H TF.ls3 0 0 rfl rfl rfl) rfl (by decide) fun a hf => ?_)
     refine wl0 rfl (op_bslice hf H (.sh true) rfl 3 ([e3] : List Int) [(.int .i64 e3)] rfl (fun w => by kernel_rfl) rfl (by decide) rfl trivial (el1 (y := e3) (rfl)) (by decide) fun A7 a w hf H => ?_)
     obtain ⟨l, hl, hR1⟩ := bind_some hR1
     refine wl0 rfl (op_appR hf H Tryz.underlying44 TF.ai3 rfl (by decide) 1 0 rfl rfl rfl rfl (.inr rfl) hl (by decide) fun E2 A8 c6 a w hf H => ?_)
     refine pr 2 hf rfl rfl fun a hf => ?_
     have hf := hf.prune [2, 3, 8, 10, 11, 14, 23, 24, 25] rfl
     refine wl_end (then_n (reg (pr 4 hf rfl rfl fun a hf => ?_)))
     refine wl_end (blk_n (then_n (reg (pr 2 hf rfl rfl fun a hf => ?_))))
     refine wl_end ?_
     have hf := hf.prune [2, 3, 8, 10, 11, 23, 24, 25] rfl
     have H := H.let [true] [false, true] [true] [3, 4, 5, 6] rfl rfl rfl rfl
     exact then_n ⟨(l, w64 (0 + e2.Length), w64 (i + 1)), hR1, A8, c6, E2, hf, H⟩
    ·refine wp_skip (then_n (reg (pr 4 hf rfl rfl fun a hf => ?_)))
     refine wl_end (blk_n (then_n (reg (pr 2 hf rfl rfl fun a hf => ?_))))
     refine wl_end ?_
     have hf := hf.prune [2, 3, 8, 10, 11, 23, 24, 25] rfl
     have H := H.let [true] [true] [true] [2, 3, 4, 5] rfl rfl rfl rfl
     exact then_n ⟨(out', w64 (far + e2.Length), w64 (i + 1)), hR1, A6, c5, E, hf, H⟩
  ·refine wp_exit (then_x (then_x (blk_e (?_))))
   have hf := hf.prune [2, 3, 8, 10, 11, 23, 24, 25] rfl
   have H := H.let [true] [true] [true] [0, 1, 2, 3] rfl rfl rfl rfl
   exact ⟨(out', far, i), (Option.some.inj hR1).symm, A6, c5, E, hf, H⟩
 rintro a w ⟨⟨out3, far2, i2⟩, rfl, A9, c7, E3, hf, H⟩
 replace hF := on_next hF
 dsimp only at hF
 refine then_n (sq (reg (pr 3 hf rfl rfl fun a hf => ?_)))
 refine wl_end (then_n (wp_ret (?_)))
 have H := H.rowOwn 0 rfl rfl
 obtain ⟨F3, H⟩ := H.freezeOwn 0 rfl
 have H := H.lend 0 rfl
 obtain rfl := Option.some.inj hF
 refine ret_2 (fn := Tryz.f91) (r := .tmp 6) (s := .tmp 7) hf rfl (rv_tmp hf rfl) (rv_tmp hf rfl) ?_
 have hN := H.ends (X := [(⟨F3, MP.own F3 [(.slice A9 out3.length c7)] (out3 : List Int)⟩ : DI)])
 simp only [List.flatMap_cons, List.flatMap_nil, List.append_nil, List.append_assoc] at hN
 exact ⟨_, rfl, H.bel, F3, _, _, rfl, (mko_list (H.ownAt 0 rfl)), mk_bool, by first | exact hN | simpa using hN⟩

/- loop.example/g00897/impl.endOf -/
set_option maxHeartbeats 1000000 in
theorem impl_endOf_ok {fu : Nat} {w0 : World} {S : Nat → Prop} {v0_ : Value} {v1_ : Value} {n' : Network} {r' : Route} {r : Int} (h0 : VR w0 S v0_ n') (h1 : VR w0 S v1_ r') (hF : impl_endOf fu n' r' = some r) :
    Calls Tryz.prog 92 [v0_, v1_].toArray w0 fun e w' => ∃ v, e = .returned v ∧ (Below w0.heap.size w0 w' ∧ VR w' (St ⟨w0, []⟩ S [] [] [] true) v r) := by
 obtain ⟨A, c, A2, c2, rfl, hl, hl2⟩ := Network_open h0
 obtain ⟨A3, c3, rfl, hl3⟩ := Route_open h1
 have H := Mem.start ⟨w0, []⟩ S
 have H := H.pushArg (MP.val [(.slice A n'.Nodes.length c)] n'.Nodes) hl
 have H := H.pushArg (MP.val [(.slice A2 n'.Fibers.length c2)] n'.Fibers) hl2
 have H := H.pushArg (MP.val [(.slice A3 r'.Fibers.length c3)] r'.Fibers) hl3
 refine enter Tryz.func92 rfl rfl (nle rfl) rfl fun a hf => ?_
 rw [impl_endOf] at hF
 refine sq (reg (wl0 rfl (op_box hf H rfl rfl (by decide) fun b' a w hf H => ?_)))
 refine wl0 rfl (op_box hf H rfl rfl (by decide) fun b2 a w hf H => ?_)
 refine pr 1 hf rfl rfl fun a hf => ?_
 refine wl_end (then_n (sq (reg (wl0 rfl (op_q hf (rq_loadBN hf H TF.la34 1 rfl rfl rfl rfl) rfl (by decide) fun a hf => ?_)))))
 refine wl0 rfl (op_q hf (rq_loadBN hf H TF.la108 0 rfl rfl rfl rfl) rfl (by decide) fun a hf => ?_)
 obtain ⟨y, hy, hF⟩ := bind_some hF
 refine wl0 rfl (op_call hf TF.cl156 rfl (by decide) (impl_visited_ok (S := fun _ => True) (Network_mkv (x := n') (rep_true (α := List ByteArray) (H.get 2 rfl)) (rep_true (α := List Fiber) (H.get 1 rfl))) (Route_mkv (x := r') (rep_true (α := List Int) (H.get 0 rfl))) hy) fun v w a hp hf => ?_)
 obtain ⟨hb, F, v2, v3, rfl, hp2, hp3, hN⟩ := hp
 obtain ⟨A4, c4, rfl, hl4⟩ := VO_list hp2
 obtain rfl := VR_bool hp3
 have H := H.addOwn hb (X := [(⟨F, MP.own F [(.slice A4 y.1.length c4)] (y.1 : List Int)⟩ : DI)]) (by simpa using hN.1) (ps1 hl4 ps0) (by simpa using hN.2)
 have H := H.lend 0 rfl
 refine pr 5 hf rfl rfl fun a hf => ?_
 refine wl_end (then_n (sq (reg (pr 4 hf rfl rfl fun a hf => ?_))))
 obtain ⟨e, he, hF⟩ := bind_some hF
 refine wl0 rfl (op_iaddr hf H Tryz.underlying44 TF.sz3 0 rfl rfl rfl he (by decide) fun p o cs a hf hr H => ?_)
 obtain rfl := hr
 refine wl0 rfl (op_q hf (rq_loadI hf H TF.ls3 0 0 rfl rfl rfl) rfl (by decide) fun a hf => ?_)
 refine pr 1 hf rfl rfl fun a hf => ?_
 have hf := hf.prune [4] rfl
 refine wl_end (then_n (wp_ret (?_)))
 obtain rfl := Option.some.inj hF
 refine ret_1 (fn := Tryz.f92) (r := .tmp 4) hf rfl (rv_tmp hf rfl) ?_
 exact ⟨_, rfl, H.bel, mk_int⟩

/- loop.example/g00897/impl.isBill -/
set_option maxHeartbeats 1000000 in
theorem impl_isBill_ok {fu : Nat} {w0 : World} {S : Nat → Prop} {v0_ : Value} {bill : List Item} {r : Bool} (h0 : VR w0 S v0_ bill) (hF : impl_isBill fu bill = some r) :
    Calls Tryz.prog 157 [v0_].toArray w0 fun e w' => ∃ v, e = .returned v ∧ (Below w0.heap.size w0 w' ∧ VR w' (St ⟨w0, []⟩ S [] [] [] true) v r) := by
 obtain ⟨A, c, rfl, hl⟩ := VR_list h0
 have H := Mem.start ⟨w0, []⟩ S
 have H := H.pushArg (MP.val [(.slice A bill.length c)] bill) hl
 refine enter Tryz.func157 rfl rfl (nle rfl) rfl fun a hf => ?_
 rw [impl_isBill] at hF
 refine sq (reg (pr 1 hf rfl rfl fun a hf => ?_))
 refine wl_end (then_n (sq (sq (reg (pr 3 hf rfl rfl fun a hf => ?_)))))
 refine wl_end (then_n ?_)
 obtain ⟨out', hB1, hF⟩ := bind_some hF
 have hf := hf.prune [0, 5, 6, 7] rfl
 have H := H.let [] [] [] [0] rfl rfl rfl rfl
 refine loopC (fun (s : Int) (a : Act) (w : World) => match s with | i => Fr a 57 [(0, (.slice A bill.length c)), (5, (.slice A bill.length c)), (6, (.int .i64 (bill.length : Int))), (7, (.int .i64 i))] ∧ Mem ⟨w0, []⟩ S [] [] [] [(false, MP.val [(.slice A bill.length c)] (bill : List Item))] w) (fun k (s : Int) => impl_isBill_L1 fu bill k s = some out') (fun s => out' = Out.next s) 0 fu hB1 ⟨hf, H⟩ (fun s h => by cases h) ?_ ?_
 ·rintro fk i a w hR1 hI
  replace hR1 : impl_isBill_L1 fu bill (fk + 1) i = some out' := hR1
  rw [impl_isBill_L1] at hR1
  obtain ⟨hf, H⟩ := hI
  refine sq (reg (pr 1 hf rfl rfl fun a hf => ?_))
  refine wl_end (then_n (sq (iteB hR1 (fun hc hR1 => cd_t hf rfl hc ?_) fun hc hR1 => cd_f hf rfl hc ?_)))
  ·refine wp_skip (then_n (sq (wp_block (sq (reg (pr 1 hf rfl rfl fun a hf => ?_))))))
   obtain ⟨e, he, hR1⟩ := bind_some hR1
   refine wl0 rfl (op_iaddr hf H Tryz.underlying56 TF.sz117 0 rfl rfl rfl he (by decide) fun p o cs a hf hr H => ?_)
   obtain rfl := Item_cells hr
   refine wl0 rfl (op_q hf (rq_loadIN hf H TF.la117 0 0 rfl rfl rfl rfl) rfl (by decide) fun a hf => ?_)
   refine wl0 rfl (op_alloc hf H TF.zv117 rfl (by decide) fun b' a w hf H => ?_)
   refine pr 1 hf rfl rfl fun a hf => ?_
   refine wl0 rfl (op_storeB hf H 0 TF.sz117 rfl rfl rfl rfl rfl rfl (nle rfl) fun w H => ?_)
   refine wl_end (then_n (sq (sq ?_)))
   obtain ⟨c2, hGc2, hR1⟩ := bind_some hR1
   have fh := hf.prune [0, 3, 4, 5, 6, 7] rfl
   have Hm := H.let [true] [] [] [1] rfl rfl rfl rfl
   refine midF 27 (.bool c2) fh Hm ?_ fun a w hf H => ?_
   ·refine reg (pr 1 hf rfl rfl fun a hf => ?_)
    refine wl0 rfl (op_q hf (rq_loadB hf H TF.ls3 0 rfl rfl rfl) rfl (by decide) fun a hf => ?_)
    obtain ⟨y, hy, hGc2⟩ := bind_some hGc2
    refine wl0 rfl (op_call hf TF.cl85 rfl (by decide) (impl_within_ok (S := fun _ => True) mk_int mk_int mk_int hy) fun v w a hp hf => ?_)
    obtain ⟨hb, hp⟩ := hp
    obtain rfl := VR_bool hp
    have H := H.keep hb
    refine pr 2 hf rfl rfl fun a hf => ?_
    refine iteB hGc2 (fun hc2 hGc2 => ?_) fun hc2 hGc2 => ?_
    ·have hf := hf.lit 16 rfl hc2
     refine pr 11 hf rfl rfl fun a hf => ?_
     obtain rfl := Option.some.inj hGc2
     have hf := hf.prune [27, 0, 3, 4, 5, 6, 7] rfl
     have H := H.let [true] [] [] [1] rfl rfl rfl rfl
     exact wl_end ⟨hf, H⟩
    ·have hf := hf.lit 16 rfl hc2
     refine pr 1 hf rfl rfl fun a hf => ?_
     refine wlg hf rfl rfl rfl (op_q hf (rq_loadB hf H TF.ls3 0 rfl rfl rfl) rfl (by decide) fun a hf => ?_)
     obtain ⟨y2, hy2, hGc2⟩ := bind_some hGc2
     refine wlg hf rfl rfl rfl (op_call hf TF.cl85 rfl (by decide) (impl_within_ok (S := fun _ => True) mk_int mk_int mk_int hy2) fun v2 w a hp2 hf => ?_)
     obtain ⟨hb2, hp2⟩ := hp2
     obtain rfl := VR_bool hp2
     have H := H.keep hb2
     refine pr 3 hf rfl rfl fun a hf => ?_
     refine iteB hGc2 (fun hc3 hGc2 => ?_) fun hc3 hGc2 => ?_
     ·have hf := hf.lit 22 rfl hc3
      refine pr 5 hf rfl rfl fun a hf => ?_
      obtain rfl := Option.some.inj hGc2
      have hf := hf.prune [27, 0, 3, 4, 5, 6, 7] rfl
      have H := H.let [true] [] [] [1] rfl rfl rfl rfl
      exact wl_end ⟨hf, H⟩
     ·have hf := hf.lit 22 rfl hc3
      refine pr 1 hf rfl rfl fun a hf => ?_
      refine wlg hf rfl rfl rfl (op_q hf (rq_loadB hf H TF.ls3 0 rfl rfl rfl) rfl (by decide) fun a hf => ?_)
      obtain ⟨y3, hy3, hGc2⟩ := bind_some hGc2
      refine wlg hf rfl rfl rfl (op_call hf TF.cl85 rfl (by decide) (impl_within_ok (S := fun _ => True) mk_int mk_int mk_int hy3) fun v3 w a hp3 hf => ?_)
      obtain ⟨hb3, hp3⟩ := hp3
      obtain rfl := VR_bool hp3
      have H := H.keep hb3
      refine pr 2 hf rfl rfl fun a hf => ?_
      obtain rfl := Option.some.inj hGc2
      have hf := hf.prune [27, 0, 3, 4, 5, 6, 7] rfl
      have H := H.let [true] [] [] [1] rfl rfl rfl rfl
      exact wl_end ⟨hf, H⟩
   refine then_n (iteB hR1 (fun hc4 hR1 => cd_t hf rfl hc4 ?_) fun hc4 hR1 => cd_f hf rfl hc4 ?_)
   ·refine sq (reg (pr 1 hf rfl rfl fun a hf => ?_))
    refine wl_end (then_n (wp_ret (then_r (blk_r (then_r (then_r (blk_r (then_r (then_r (?_))))))))))
    obtain rfl := Option.some.inj hR1
    replace hF := on_ret hF
    obtain rfl := Option.some.inj hF
    refine ret_1 (fn := Tryz.f157) (r := .tmp 2) hf rfl (rv_tmp hf rfl) ?_
    exact ⟨_, rfl, H.bel, mk_bool⟩
   ·refine wp_skip (then_n (sq ?_))
    obtain ⟨c3, hGc3, hR1⟩ := bind_some hR1
    have fh2 := hf.prune [0, 5, 6, 7] rfl
    have Hm2 := H.let [false] [] [] [0] rfl rfl rfl rfl
    refine midF 52 (.bool c3) fh2 Hm2 ?_ fun a w hf H => ?_
    ·refine drawn [] (bs := [false, false, false, false, false, false, false, false, false, false, false, false, false, false, false, false, false, false, false, false, false, false, false, false, false]) (fuel := 25) (Checked.mixed Tryz.checked) rfl rfl fun w hb => ?_
     have H := H.keep hb
     refine tp 0 rfl rfl hf (by kernel_rfl) (fun _ => trivial) rfl fun a hf => ?_
     refine tp 1 rfl rfl hf (by kernel_rfl) (fun _ => trivial) rfl fun a hf => ?_
     refine tp 2 rfl rfl hf (by kernel_rfl) (fun _ => trivial) rfl fun a hf => ?_
     refine iteB hGc3 (fun hc5 hGc3 => ?_) fun hc5 hGc3 => ?_
     ·have hf := hf.lit 30 rfl hc5
      refine tpg 3 rfl rfl rfl rfl hf (by kernel_rfl) (fun _ => trivial) rfl fun a hf => ?_
      refine tpg 4 rfl rfl rfl rfl hf (by kernel_rfl) (fun _ => trivial) rfl fun a hf => ?_
      refine tpg 5 rfl rfl rfl rfl hf (by kernel_rfl) (fun _ => trivial) rfl fun a hf => ?_
      obtain ⟨e2, he2, hGc3⟩ := bind_some hGc3
      obtain ⟨p2, o2, cs2, hx, hr2, H⟩ := pre_iaddr H Tryz.underlying56 TF.sz117 0 rfl he2
      refine tPg 6 rfl rfl rfl rfl rfl rfl hf (by kernel_rfl) (fun _ => trivial) (fun w => rq_iaddrE hf rfl rfl rfl hx w) fun a hf => ?_
      obtain rfl := Item_cells hr2
      refine tpg 7 rfl rfl rfl rfl hf (by kernel_rfl) (fun _ => trivial) rfl fun a hf => ?_
      refine strT (H.let [false] [] [] [0] rfl rfl rfl rfl) (fun w H => trivial) fun hS => ?_
      refine tSg 8 [] rfl rfl rfl rfl rfl rfl hf (by kernel_rfl) (by kernel_rfl) hS (fun w H => rq_loadI hf H TF.ls3 0 0 rfl rfl rfl) fun a hf => ?_
      refine tpg 9 rfl rfl rfl rfl hf (by kernel_rfl) (fun _ => hS) rfl fun a hf => ?_
      refine tpg 10 rfl rfl rfl rfl hf (by kernel_rfl) (fun _ => hS) rfl fun a hf => ?_
      refine tpg 11 rfl rfl rfl rfl hf (by kernel_rfl) (fun _ => hS) rfl fun a hf => ?_
      refine tpg 12 rfl rfl rfl rfl hf (by kernel_rfl) (fun _ => hS) rfl fun a hf => ?_
      obtain ⟨e3, he3, hGc3⟩ := bind_some hGc3
      obtain ⟨p3, o3, cs3, hx2, hr3, H⟩ := pre_iaddr H Tryz.underlying56 TF.sz117 1 rfl he3
      refine tPg 13 rfl rfl rfl rfl rfl rfl hf (by kernel_rfl) (fun _ => hS) (fun w => rq_iaddrE hf rfl rfl rfl hx2 w) fun a hf => ?_
      obtain rfl := Item_cells hr3
      refine tpg 14 rfl rfl rfl rfl hf (by kernel_rfl) (fun _ => hS) rfl fun a hf => ?_
      refine strT (H.let [false] [] [] [0, 1] rfl rfl rfl rfl) (fun w H => H.let [] [] [] [1] rfl rfl rfl rfl) fun hS => ?_
      refine tSg 15 [] rfl rfl rfl rfl rfl rfl hf (by kernel_rfl) (by kernel_rfl) hS (fun w H => rq_loadI hf H TF.ls3 0 1 rfl rfl rfl) fun a hf => ?_
      refine tpg 16 rfl rfl rfl rfl hf (by kernel_rfl) (fun _ => hS) rfl fun a hf => ?_
      refine tpg 17 rfl rfl rfl rfl hf (by kernel_rfl) (fun _ => hS) rfl fun a hf => ?_
      refine strT (H.let [true] [] [] [0, 1] rfl rfl rfl rfl) (fun w H => H.let [false] [] [] [0, 1] rfl rfl rfl rfl) fun hS => ?_
      refine tSg 18 [] rfl rfl rfl rfl rfl rfl hf (by kernel_rfl) (by kernel_rfl) hS (fun w H => rq_loadB hf H TF.ls3 0 rfl rfl rfl) fun a hf => ?_
      refine tpg 19 rfl rfl rfl rfl hf (by kernel_rfl) (fun _ => hS) rfl fun a hf => ?_
      refine tpg 20 rfl rfl rfl rfl hf (by kernel_rfl) (fun _ => hS) rfl fun a hf => ?_
      refine tSg 21 [] rfl rfl rfl rfl rfl rfl hf (by kernel_rfl) (by kernel_rfl) hS (fun w H => rq_loadB hf H TF.ls3 0 rfl rfl rfl) fun a hf => ?_
      refine tpg 22 rfl rfl rfl rfl hf (by kernel_rfl) (fun _ => hS) rfl fun a hf => ?_
      refine tpg 23 rfl rfl rfl rfl hf (by kernel_rfl) (fun _ => hS) rfl fun a hf => ?_
      refine tp 24 rfl rfl hf (by kernel_rfl) (fun _ => hS) rfl fun a hf => ?_
      refine dn (by kernel_rfl) ?_
      obtain rfl := Option.some.inj hGc3
      have hf := hf.prune [52, 0, 5, 6, 7] rfl
      have H := H.let [false] [] [] [2] rfl rfl rfl rfl
      exact ⟨hf, H⟩
     ·have hf := hf.lit 30 rfl hc5
      refine tU 3 rfl rfl rfl rfl rfl rfl rfl hf (by kernel_rfl) (fun _ => trivial) fun a hf => ?_
      refine tU 4 rfl rfl rfl rfl rfl rfl rfl hf (by kernel_rfl) (fun _ => trivial) fun a hf => ?_
      refine tU 5 rfl rfl rfl rfl rfl rfl rfl hf (by kernel_rfl) (fun _ => trivial) fun a hf => ?_
      refine tU 6 rfl rfl rfl rfl rfl rfl rfl hf (by kernel_rfl) (fun _ => trivial) fun a hf => ?_
      refine tU 7 rfl rfl rfl rfl rfl rfl rfl hf (by kernel_rfl) (fun _ => trivial) fun a hf => ?_
      refine tU 8 rfl rfl rfl rfl rfl rfl rfl hf (by kernel_rfl) (fun _ => trivial) fun a hf => ?_
      refine tU 9 rfl rfl rfl rfl rfl rfl rfl hf (by kernel_rfl) (fun _ => trivial) fun a hf => ?_
      refine tU 10 rfl rfl rfl rfl rfl rfl rfl hf (by kernel_rfl) (fun _ => trivial) fun a hf => ?_
      refine tU 11 rfl rfl rfl rfl rfl rfl rfl hf (by kernel_rfl) (fun _ => trivial) fun a hf => ?_
      refine tU 12 rfl rfl rfl rfl rfl rfl rfl hf (by kernel_rfl) (fun _ => trivial) fun a hf => ?_
      refine tU 13 rfl rfl rfl rfl rfl rfl rfl hf (by kernel_rfl) (fun _ => trivial) fun a hf => ?_
      refine tU 14 rfl rfl rfl rfl rfl rfl rfl hf (by kernel_rfl) (fun _ => trivial) fun a hf => ?_
      refine tU 15 rfl rfl rfl rfl rfl rfl rfl hf (by kernel_rfl) (fun _ => trivial) fun a hf => ?_
      refine tU 16 rfl rfl rfl rfl rfl rfl rfl hf (by kernel_rfl) (fun _ => trivial) fun a hf => ?_
      refine tU 17 rfl rfl rfl rfl rfl rfl rfl hf (by kernel_rfl) (fun _ => trivial) fun a hf => ?_
      refine tU 18 rfl rfl rfl rfl rfl rfl rfl hf (by kernel_rfl) (fun _ => trivial) fun a hf => ?_
      refine tU 19 rfl rfl rfl rfl rfl rfl rfl hf (by kernel_rfl) (fun _ => trivial) fun a hf => ?_
      refine tU 20 rfl rfl rfl rfl rfl rfl rfl hf (by kernel_rfl) (fun _ => trivial) fun a hf => ?_
      refine tU 21 rfl rfl rfl rfl rfl rfl rfl hf (by kernel_rfl) (fun _ => trivial) fun a hf => ?_
      refine tU 22 rfl rfl rfl rfl rfl rfl rfl hf (by kernel_rfl) (fun _ => trivial) fun a hf => ?_
      refine tU 23 rfl rfl rfl rfl rfl rfl rfl hf (by kernel_rfl) (fun _ => trivial) fun a hf => ?_
      refine tp 24 rfl rfl hf (by kernel_rfl) (fun _ => trivial) rfl fun a hf => ?_
      refine dn (by kernel_rfl) ?_
      obtain rfl := Option.some.inj hGc3
      have hf := hf.prune [52, 0, 5, 6, 7] rfl
      have H := H.let [false] [] [] [0] rfl rfl rfl rfl
      exact ⟨hf, H⟩
    refine then_n (iteB hR1 (fun hc6 hR1 => cd_t hf rfl hc6 ?_) fun hc6 hR1 => cd_f hf rfl hc6 ?_)
    ·refine sq (reg (pr 1 hf rfl rfl fun a hf => ?_))
     refine wl_end (then_n (wp_ret (blk_r (then_r (then_r (blk_r (then_r (then_r (?_)))))))))
     obtain rfl := Option.some.inj hR1
     replace hF := on_ret hF
     obtain rfl := Option.some.inj hF
     refine ret_1 (fn := Tryz.f157) (r := .tmp 2) hf rfl (rv_tmp hf rfl) ?_
     exact ⟨_, rfl, H.bel, mk_bool⟩
    ·refine wp_skip (blk_n (then_n (reg (pr 2 hf rfl rfl fun a hf => ?_))))
     refine wl_end ?_
     have hf := hf.prune [0, 5, 6, 7] rfl
     have H := H.let [] [] [] [0] rfl rfl rfl rfl
     exact then_n ⟨w64 (i + 1), hR1, hf, H⟩
  ·refine wp_exit (then_x (then_x (blk_e (?_))))
   have hf := hf.prune [0, 5, 6, 7] rfl
   have H := H.let [] [] [] [0] rfl rfl rfl rfl
   exact ⟨i, (Option.some.inj hR1).symm, hf, H⟩
 rintro a w ⟨i2, rfl, hf, H⟩
 replace hF := on_next hF
 refine then_n (sq (reg (pr 4 hf rfl rfl fun a hf => ?_)))
 refine wl_end (then_n (wp_ret (?_)))
 obtain rfl := Option.some.inj hF
 refine ret_1 (fn := Tryz.f157) (r := .tmp 2) hf rfl (rv_tmp hf rfl) ?_
 exact ⟨_, rfl, H.bel, mk_bool⟩

/- (*loop.example/g00897/impl.tally).bill -/
set_option maxHeartbeats 1000000 in
theorem impl_tally_bill_ok {fu : Nat} {w0 : World} {S : Nat → Prop} {b0 o0 : Nat} {cs0 : List Value} {t : IA 40} {r : List Item × Bool} (hp0 : (MP.cells ⟨b0, o0, none⟩ cs0).pred w0 S) (hr0 : GoTy.rep w0 S cs0 t) (hF : impl_tally_bill fu t = some r) :
    Calls Tryz.prog 93 [(.pointer (some ⟨b0, o0, none⟩))].toArray w0 fun e w' => ∃ v, e = .returned v ∧ (Below w0.heap.size w0 w' ∧ ∃ F0, ∃ u0 u1, v = .tuple #[u0, u1] ∧ VO w' F0 u0 r.1 ∧ VR w' (St ⟨w0, []⟩ S [] [] [] true) u1 r.2 ∧ New w0 w' F0) := by
 obtain rfl := hr0
 have H := Mem.start ⟨w0, []⟩ S
 have H := H.pushArg (MP.cells ⟨b0, o0, none⟩ t.cells) hp0
 refine enter Tryz.func93 rfl rfl (nle rfl) rfl fun a hf => ?_
 rw [impl_tally_bill] at hF
 refine sq (reg (pr 2 hf rfl rfl fun a hf => ?_))
 refine wl_end (then_n (sq (reg (wl0 rfl (op_bslice hf H (.sh true) rfl 117 ([] : List Item) [] rfl (fun w => by kernel_rfl) rfl (by decide) rfl trivial el0 (by decide) fun A a w hf H => ?_)))))
 refine pr 1 hf rfl rfl fun a hf => ?_
 refine wl_end (then_n (sq (sq (reg (pr 1 hf rfl rfl fun a hf => ?_)))))
 refine wl_end (then_n ?_)
 obtain ⟨out2, hB1, hF⟩ := bind_some hF
 have hf := hf.prune [0, 4, 5] rfl
 have H := H.let [] [true] [] [0] rfl rfl rfl rfl
 refine loopC (fun (s : List Item × Int) (a : Act) (w : World) => match s with | (out', kind) => ∃ (A2 : Option Addr) (c : Nat) (E : Go.TypeId), Fr a 36 [(0, (.pointer (some ⟨b0, o0 + 0, none⟩))), (4, (.slice A2 out'.length c)), (5, (.int .i64 kind))] ∧ Mem ⟨w0, []⟩ S [] [⟨.sh true, E, A2, c, (out' : List Item)⟩] [] [(false, MP.cells ⟨b0, o0, none⟩ t.cells)] w) (fun k (s : List Item × Int) => impl_tally_bill_L1 fu t k s.1 s.2 = some out2) (fun s => out2 = s) (([] : List Item), 1) fu hB1 ⟨A, 0, 117, hf, H⟩ (fun s h => by cases h) ?_ ?_
 ·rintro fk ⟨out', kind⟩ a w hR1 hI
  replace hR1 : impl_tally_bill_L1 fu t (fk + 1) out' kind = some out2 := hR1
  rw [impl_tally_bill_L1] at hR1
  obtain ⟨A2, c, E, hf, H⟩ := hI
  refine sq (sq (reg (pr 2 hf rfl rfl fun a hf => ?_)))
  refine wl_end (then_n (iteB hR1 (fun hc hR1 => cd_t hf rfl hc ?_) fun hc hR1 => cd_f hf rfl hc ?_))
  ·refine wp_skip (then_n (sq (wp_block (sq (reg (pr 3 hf rfl rfl fun a hf => ?_))))))
   obtain ⟨q, hq, hR1⟩ := bind_some hR1
   refine wl0 rfl (op_q hf (rq_iaddrA hf Tryz.underlying125 TF.sz123 rfl rfl hq) rfl (by decide) fun a hf => ?_)
   obtain ⟨z, hz, hR1⟩ := bind_some hR1
   refine wl0 rfl (op_q hf (rq_loadArrNI hf H TF.la123 0 rfl rfl hz) rfl (by decide) fun a hf => ?_)
   refine pr 1 hf rfl rfl fun a hf => ?_
   refine wl_end (then_n ?_)
   obtain ⟨out4, hB2, hR1⟩ := bind_some hR1
   have hf := hf.prune [0, 4, 5, 17, 18] rfl
   have H := H.let [] [true] [] [0] rfl rfl rfl rfl
   refine loopC (fun (s : List Item × Int) (a : Act) (w : World) => match s with | (out3, i) => ∃ (A3 : Option Addr) (c2 : Nat) (E2 : Go.TypeId), Fr a 36 [(0, (.pointer (some ⟨b0, o0 + 0, none⟩))), (4, (.slice A3 out3.length c2)), (5, (.int .i64 kind)), (17, (.agg z.cells.toArray)), (18, (.int .i64 i))] ∧ Mem ⟨w0, []⟩ S [] [⟨.sh true, E2, A3, c2, (out3 : List Item)⟩] [] [(false, MP.cells ⟨b0, o0, none⟩ t.cells)] w) (fun k (s : List Item × Int) => impl_tally_bill_L2 fu z kind k s.1 s.2 = some out4) (fun s => out4 = s) (out', 0) fu hB2 ⟨A2, c, E, hf, H⟩ (fun s h => by cases h) ?_ ?_
   ·rintro fk ⟨out3, i⟩ a w hR2 hI
    replace hR2 : impl_tally_bill_L2 fu z kind (fk + 1) out3 i = some out4 := hR2
    rw [impl_tally_bill_L2] at hR2
    obtain ⟨A3, c2, E2, hf, H⟩ := hI
    refine sq (reg (pr 1 hf rfl rfl fun a hf => ?_))
    refine wl_end (then_n (sq (iteB hR2 (fun hc2 hR2 => cd_t hf rfl hc2 ?_) fun hc2 hR2 => cd_f hf rfl hc2 ?_)))
    ·refine wp_skip (then_n (sq (wp_block (sq (reg (pr 1 hf rfl rfl fun a hf => ?_))))))
     obtain ⟨e, he, hR2⟩ := bind_some hR2
     refine wl0 rfl (op_q hf (rq_indexA hf Tryz.underlying123 TF.pt3 rfl rfl rfl z.h he) rfl (by decide) fun a hf => ?_)
     refine pr 2 hf rfl rfl fun a hf => ?_
     refine wl_end (then_n (sq (reg (pr 2 hf rfl rfl fun a hf => ?_))))
     refine wl_end (then_n (iteB hR2 (fun hc3 hR2 => cd_t hf rfl hc3 ?_) fun hc3 hR2 => cd_f hf rfl hc3 ?_))
     ·refine reg (pr 4 hf rfl rfl fun a hf => ?_)
      refine wl0 rfl (op_q hf (rq_build hf (cs := [(.int .i64 kind), (.int .i64 i), (.int .i64 e)]) rfl (fun w => by kernel_rfl)) rfl (by decide) fun a hf => ?_)
      refine wl0 rfl (op_bslice hf H (.sh true) rfl 117 ([({ Kind := kind, Node := i, Count := e } : Item)] : List Item) [(.int .i64 kind), (.int .i64 i), (.int .i64 e)] rfl (fun w => by kernel_rfl) rfl (by decide) rfl trivial (el1 (y := ({ Kind := kind, Node := i, Count := e } : Item)) ((Item_mk (x := ({ Kind := kind, Node := i, Count := e } : Item))))) (by decide) fun A4 a w hf H => ?_)
      obtain ⟨l, hl, hR2⟩ := bind_some hR2
      refine wl0 rfl (op_appR hf H Tryz.underlying56 TF.ai117 rfl (by decide) 1 0 rfl rfl rfl rfl (.inr rfl) hl (by decide) fun E3 A5 c3 a w hf H => ?_)
      refine pr 1 hf rfl rfl fun a hf => ?_
      have hf := hf.prune [0, 4, 5, 17, 18] rfl
      refine wl_end (blk_n (then_n (reg (pr 2 hf rfl rfl fun a hf => ?_))))
      refine wl_end ?_
      have hf := hf.prune [0, 4, 5, 17, 18] rfl
      have H := H.let [] [false, true] [] [0] rfl rfl rfl rfl
      exact then_n ⟨(l, w64 (i + 1)), hR2, A5, c3, E3, hf, H⟩
     ·refine wp_skip (blk_n (then_n (reg (pr 2 hf rfl rfl fun a hf => ?_))))
      refine wl_end ?_
      have hf := hf.prune [0, 4, 5, 17, 18] rfl
      have H := H.let [] [true] [] [0] rfl rfl rfl rfl
      exact then_n ⟨(out3, w64 (i + 1)), hR2, A3, c2, E2, hf, H⟩
    ·refine wp_exit (then_x (then_x (blk_e (?_))))
     have hf := hf.prune [0, 4, 5, 17, 18] rfl
     have H := H.let [] [true] [] [0] rfl rfl rfl rfl
     exact ⟨(out3, i), (Option.some.inj hR2).symm, A3, c2, E2, hf, H⟩
   rintro a w ⟨⟨out5, i2⟩, rfl, A6, c4, E4, hf, H⟩
   dsimp only at hR1
   refine blk_n (then_n (reg (pr 3 hf rfl rfl fun a hf => ?_)))
   refine wl_end ?_
   have hf := hf.prune [0, 4, 5] rfl
   have H := H.let [] [true] [] [0] rfl rfl rfl rfl
   exact then_n ⟨(out5, w64 (kind + 1)), hR1, A6, c4, E4, hf, H⟩
  ·refine wp_exit (then_x (then_x (blk_e (?_))))
   have hf := hf.prune [0, 4, 5] rfl
   have H := H.let [] [true] [] [0] rfl rfl rfl rfl
   exact ⟨(out', kind), (Option.some.inj hR1).symm, A2, c, E, hf, H⟩
 rintro a w ⟨⟨out6, kind2⟩, rfl, A7, c5, E5, hf, H⟩
 dsimp only at hF
 refine then_n (sq (sq (reg (pr 1 hf rfl rfl fun a hf => ?_))))
 obtain ⟨y, hy, hF⟩ := bind_some hF
 refine wl0 rfl (op_call hf TF.cl157 rfl (by decide) (impl_isBill_ok (S := fun _ => True) (mk_list (H.rowTrue 0 rfl)) hy) fun v w a hp hf => ?_)
 obtain ⟨hb, hp⟩ := hp
 obtain rfl := VR_bool hp
 have H := H.keep hb
 refine pr 1 hf rfl rfl fun a hf => ?_
 refine wl_end (then_n (iteB hF (fun hc4 hF => cd_t hf rfl hc4 ?_) fun hc4 hF => cd_f hf rfl hc4 ?_))
 ·refine sq (reg (pr 2 hf rfl rfl fun a hf => ?_))
  refine wl_end (then_n (wp_ret (then_r (?_))))
  have H := H.ownNil (Item)
  have H := H.lend 0 rfl
  obtain rfl := Option.some.inj hF
  refine ret_2 (fn := Tryz.f93) (r := .tmp 2) (s := .tmp 3) hf rfl (rv_tmp hf rfl) (rv_tmp hf rfl) ?_
  have hN := H.ends (X := [(⟨[], MP.own [] [(.slice none 0 0)] ([] : List Item)⟩ : DI)])
  simp only [List.flatMap_cons, List.flatMap_nil, List.append_nil, List.append_assoc] at hN
  exact ⟨_, rfl, H.bel, [], _, _, rfl, (mko_list (H.ownAt 0 rfl)), mk_bool, by first | exact hN | simpa using hN⟩
 ·refine wp_skip (then_n (sq (reg (pr 3 hf rfl rfl fun a hf => ?_))))
  refine wl_end (then_n (wp_ret (?_)))
  have H := H.rowOwn 0 rfl rfl
  obtain ⟨F, H⟩ := H.freezeOwn 0 rfl
  have H := H.lend 0 rfl
  obtain rfl := Option.some.inj hF
  refine ret_2 (fn := Tryz.f93) (r := .tmp 2) (s := .tmp 3) hf rfl (rv_tmp hf rfl) (rv_tmp hf rfl) ?_
  have hN := H.ends (X := [(⟨F, MP.own F [(.slice A7 out6.length c5)] (out6 : List Item)⟩ : DI)])
  simp only [List.flatMap_cons, List.flatMap_nil, List.append_nil, List.append_assoc] at hN
  exact ⟨_, rfl, H.bel, F, _, _, rfl, (mko_list (H.ownAt 0 rfl)), mk_bool, by first | exact hN | simpa using hN⟩
end AT
