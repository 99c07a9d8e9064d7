/- The Go functions do what is told of them, by program (gen.py). -/
import Derived.Test.YtokhhjepjbhhpaaGreatWFnExactPlanDifference0
set_option linter.unusedVariables false
set_option linter.unusedSimpArgs false
set_option maxRecDepth 100000
namespace AT
open Go Go.RowKit Go.Proofs

/- slices.Concat[[]loop.example/g00897/impl.Action,loop.example/g00897/impl.Action] -/
set_option maxHeartbeats 1000000 in
theorem slices_Concat_impl_Action_impl_Action_ok {fu : Nat} {w0 : World} {S : Nat → Prop} {v0_ : Value} {slices : List (List Action)} {r : List Action} (h0 : VR w0 S v0_ slices) (hF : slices_Concat_impl_Action_impl_Action fu slices = some r) :
    Calls Tryz.prog 105 [v0_].toArray w0 fun e w' => ∃ v, e = .returned v ∧ (Below w0.heap.size w0 w' ∧ VR w' (St ⟨w0, []⟩ S [] [] [] false) v r) := by
 obtain ⟨A, c, rfl, hl⟩ := VR_list h0
 have H := Mem.start ⟨w0, []⟩ S
 have H := H.pushArg (MP.val [(.slice A slices.length c)] slices) hl
 refine enter Tryz.func105 rfl rfl (nle rfl) rfl fun a hf => ?_
 rw [slices_Concat_impl_Action_impl_Action] at hF
 refine sq (reg (pr 1 hf rfl rfl fun a hf => ?_))
 refine wl_end (then_n (sq (reg (pr 1 hf rfl rfl fun a hf => ?_))))
 refine wl_end (then_n (sq (sq (reg (pr 3 hf rfl rfl fun a hf => ?_)))))
 refine wl_end (then_n ?_)
 obtain ⟨out', hB1, hF⟩ := bind_some hF
 have hf := hf.prune [0, 3, 9, 10, 11] rfl
 have H := H.let [] [] [] [0] rfl rfl rfl rfl
 refine loopC (fun (s : Int × Int) (a : Act) (w : World) => match s with | (size, i) => Fr a 36 [(0, (.slice A slices.length c)), (3, (.int .i64 size)), (9, (.slice A slices.length c)), (10, (.int .i64 (slices.length : Int))), (11, (.int .i64 i))] ∧ Mem ⟨w0, []⟩ S [] [] [] [(false, MP.val [(.slice A slices.length c)] (slices : List (List Action)))] w) (fun k (s : Int × Int) => slices_Concat_impl_Action_impl_Action_L1 fu slices k s.1 s.2 = some out') (fun s => out' = s) (0, 0) fu hB1 ⟨hf, H⟩ (fun s h => by cases h) ?_ ?_
 ·rintro fk ⟨size, i⟩ a w hR1 hI
  replace hR1 : slices_Concat_impl_Action_impl_Action_L1 fu slices (fk + 1) size i = some out' := hR1
  rw [slices_Concat_impl_Action_impl_Action_L1] at hR1
  obtain ⟨hf, H⟩ := hI
  refine sq (reg (pr 1 hf rfl rfl fun a hf => ?_))
  refine wl_end (then_n (sq (iteB hR1 (fun hc hR1 => cd_t hf rfl hc ?_) fun hc hR1 => cd_f hf rfl hc ?_)))
  ·refine wp_skip (then_n (sq (wp_block (sq (reg ?_)))))
   obtain ⟨e, he, hR1⟩ := bind_some hR1
   refine wl0 rfl (op_iaddr hf H Tryz.underlying190 TF.sz65 0 rfl rfl rfl he (by decide) fun p o cs a hf hr H => ?_)
   obtain ⟨A2, c2, rfl, hl2⟩ := list_cells hr
   have H := H.push (false, MP.val [(.slice A2 e.length c2)] e) hl2
   refine wl0 rfl (op_q hf (rq_loadI hf H TF.ls65 1 0 rfl rfl rfl) rfl (by decide) fun a hf => ?_)
   refine pr 1 hf rfl rfl fun a hf => ?_
   refine wl_end (then_n (sq (reg (pr 5 hf rfl rfl fun a hf => ?_))))
   refine wl_end (then_n (sq (reg (pr 2 hf rfl rfl fun a hf => ?_))))
   refine wl_end (then_n (iteB hR1 (fun hc2 hR1 => cd_t hf rfl hc2 ?_) fun hc2 hR1 => cd_f hf rfl hc2 ?_))
   ·refine reg ?_
    cases hR1
   ·refine wp_skip (blk_n (then_n (reg (pr 2 hf rfl rfl fun a hf => ?_))))
    refine wl_end ?_
    have hf := hf.prune [0, 3, 9, 10, 11] rfl
    have H := H.let [] [] [] [2] rfl rfl rfl rfl
    exact then_n ⟨(w64 (size + (e.length : Int)), w64 (i + 1)), hR1, hf, H⟩
  ·refine wp_exit (then_x (then_x (blk_e (?_))))
   have hf := hf.prune [0, 3, 9, 10, 11] rfl
   have H := H.let [] [] [] [0] rfl rfl rfl rfl
   exact ⟨(size, i), (Option.some.inj hR1).symm, hf, H⟩
 rintro a w ⟨⟨size2, i2⟩, rfl, hf, H⟩
 try dsimp only at hF
 refine then_n (sq (reg (pr 1 hf rfl rfl fun a hf => ?_)))
 obtain ⟨l, hl, hF⟩ := bind_some hF
 refine wl0 rfl (op_growN hf H (Action) 136 TF.cl171 grow_spec_171 rfl hl (by decide) fun A3 c3 a w hf H => ?_)
 refine pr 1 hf rfl rfl fun a hf => ?_
 refine wl_end (then_n (sq (sq (reg (pr 3 hf rfl rfl fun a hf => ?_)))))
 refine wl_end (then_n ?_)
 have H := H.rowWeak 0 rfl
 obtain ⟨out2, hB1, hF⟩ := bind_some hF
 have hf := hf.prune [6, 25, 26, 27] rfl
 have H := H.let [] [true] [] [0] rfl rfl rfl rfl
 refine loopC (fun (s : List Action × Int) (a : Act) (w : World) => match s with | (newslice, i3) => ∃ (A4 : Option Addr) (c4 : Nat) (E : Go.TypeId), Fr a 36 [(6, (.slice A4 newslice.length c4)), (25, (.slice A slices.length c)), (26, (.int .i64 (slices.length : Int))), (27, (.int .i64 i3))] ∧ Mem ⟨w0, []⟩ S [] [⟨.sh false, E, A4, c4, (newslice : List Action)⟩] [] [(false, MP.val [(.slice A slices.length c)] (slices : List (List Action)))] w) (fun k (s : List Action × Int) => slices_Concat_impl_Action_impl_Action_L2 fu slices k s.1 s.2 = some out2) (fun s => out2 = s) (l, 0) fu hB1 ⟨A3, c3, 136, hf, H⟩ (fun s h => by cases h) ?_ ?_
 ·rintro fk ⟨newslice, i3⟩ a w hR1 hI
  replace hR1 : slices_Concat_impl_Action_impl_Action_L2 fu slices (fk + 1) newslice i3 = some out2 := hR1
  rw [slices_Concat_impl_Action_impl_Action_L2] at hR1
  obtain ⟨A4, c4, E, hf, H⟩ := hI
  refine sq (reg (pr 1 hf rfl rfl fun a hf => ?_))
  refine wl_end (then_n (sq (iteB hR1 (fun hc3 hR1 => cd_t hf rfl hc3 ?_) fun hc3 hR1 => cd_f hf rfl hc3 ?_)))
  ·refine wp_skip (then_n (sq (wp_block (sq (reg ?_)))))
   obtain ⟨e2, he2, hR1⟩ := bind_some hR1
   refine wl0 rfl (op_iaddr hf H Tryz.underlying190 TF.sz65 0 rfl rfl rfl he2 (by decide) fun p2 o2 cs2 a hf hr2 H => ?_)
   obtain ⟨A5, c5, rfl, hl3⟩ := list_cells hr2
   have H := H.push (false, MP.val [(.slice A5 e2.length c5)] e2) hl3
   refine wl0 rfl (op_q hf (rq_loadI hf H TF.ls65 1 0 rfl rfl rfl) rfl (by decide) fun a hf => ?_)
   refine pr 1 hf rfl rfl fun a hf => ?_
   refine wl_end (then_n (reg (pr 2 hf rfl rfl fun a hf => ?_)))
   obtain ⟨l2, hl2, hR1⟩ := bind_some hR1
   refine wl0 rfl (op_appI hf H Tryz.underlying65 TF.ai136 rfl (by decide) 0 0 rfl rfl rfl rfl (.inl rfl) hl2 (by decide) fun E2 A6 c6 a w hf H => ?_)
   refine pr 1 hf rfl rfl fun a hf => ?_
   refine wl_end (blk_n (then_n (reg (pr 2 hf rfl rfl fun a hf => ?_))))
   refine wl_end ?_
   have hf := hf.prune [6, 25, 26, 27] rfl
   have H := H.let [] [true] [] [2] rfl rfl rfl rfl
   exact then_n ⟨(l2, w64 (i3 + 1)), hR1, A6, c6, E2, hf, H⟩
  ·refine wp_exit (then_x (then_x (blk_e (?_))))
   have hf := hf.prune [6, 25, 26, 27] rfl
   have H := H.let [] [true] [] [0] rfl rfl rfl rfl
   exact ⟨(newslice, i3), (Option.some.inj hR1).symm, A4, c4, E, hf, H⟩
 rintro a w ⟨⟨newslice2, i4⟩, rfl, A7, c7, E3, hf, H⟩
 try dsimp only at hF
 refine then_n (sq (reg (pr 2 hf rfl rfl fun a hf => ?_)))
 refine wl_end (then_n (wp_ret (?_)))
 have H := H.freeze 0 rfl
 obtain rfl := Option.some.inj hF
 refine ret_1 (fn := Tryz.f105) (r := .tmp 2) hf rfl (rv_tmp hf rfl) ?_
 exact ⟨_, rfl, H.bel, (mk_list (rep_end (α := List Action) (H.get 0 rfl)))⟩

/- loop.example/g00897/impl.copyLight -/
set_option maxHeartbeats 1000000 in
theorem impl_copyLight_ok {fu : Nat} {w0 : World} {S : Nat → Prop} {v0_ : Value} {x1 : Light} {r : Light} (h0 : VR w0 S v0_ x1) (hF : impl_copyLight fu x1 = some r) :
    Calls Tryz.prog 170 [v0_].toArray w0 fun e w' => ∃ v, e = .returned v ∧ (Below w0.heap.size w0 w' ∧ ∃ F0, VO w' F0 v r ∧ New w0 w' F0) := by
 obtain ⟨A, c, rfl, hl⟩ := Light_open h0
 have H := Mem.start ⟨w0, []⟩ S
 have H := H.pushArg (MP.val [(.slice A x1.Route.Fibers.length c)] x1.Route.Fibers) hl
 refine enter Tryz.func170 rfl rfl (nle rfl) rfl fun a hf => ?_
 rw [impl_copyLight] at hF
 refine sq (reg (wl0 rfl (op_box hf H rfl rfl (by decide) fun b' a w hf H => ?_)))
 refine wl0 rfl (op_alloc hf H TF.zv112 rfl (by decide) fun b2 a w hf H => ?_)
 refine wl_end (then_n (sq (drawn [8] (bs := [false, false, false, false, false, false, false, false, false]) (fuel := 9) (Checked.mixed Tryz.checked) rfl rfl fun w hb => ?_)))
 have H := H.keep hb
 refine tp 0 rfl rfl hf (by kernel_rfl) (fun _ => trivial) rfl fun a hf => ?_
 refine strT (H.let [false, true] [] [] [] rfl rfl rfl rfl) (fun w H => trivial) fun hS => ?_
 refine tS 1 [1, 7, 8] rfl rfl rfl rfl hf (by kernel_rfl) (by kernel_rfl) hS (fun w H => rq_loadB hf H TF.ls3 0 rfl rfl rfl) fun a hf => ?_
 refine tp 2 rfl rfl hf (by kernel_rfl) (fun _ => hS) rfl fun a hf => ?_
 refine tS 3 [3, 4, 7, 8] rfl rfl rfl rfl hf (by kernel_rfl) (by kernel_rfl) hS (fun w H => rq_loadBN hf H TF.la108 0 rfl rfl rfl rfl) fun a hf => ?_
 refine tp 5 rfl rfl hf (by kernel_rfl) (fun _ => hS) rfl fun a hf => ?_
 refine tS 6 [6, 7, 8] rfl rfl rfl rfl hf (by kernel_rfl) (by kernel_rfl) hS (fun w H => rq_loadBN hf H TF.la110 0 rfl rfl rfl rfl) fun a hf => ?_
 obtain ⟨y, hy, hF⟩ := bind_some hF
 refine n1 4 (by kernel_rfl) rfl rfl (op_call hf TF.cl152 rfl (by decide) (impl_copyRoute_ok (S := fun _ => True) (Route_mkv (x := x1.Route) (rep_true (α := List Int) (H.get 0 rfl))) hy) fun v w a hp hf => ?_)
 obtain ⟨hb, F, hp2, hN⟩ := hp
 obtain ⟨A2, c2, F2, rfl, rfl, hl2⟩ := Route_vo hp2
 have H := H.addOwn hb (X := [(⟨F2, MP.own F2 [(.slice A2 y.Fibers.length c2)] (y.Fibers : List Int)⟩ : DI)]) (by simpa using hN.1) (ps1 hl2 ps0) (by simpa using hN.2)
 have H := H.lend 0 rfl
 have hS := H.let [false, true] [] [false] [] rfl rfl rfl rfl
 refine ⟨fun _ => hS, ?_⟩
 refine tP 7 rfl rfl rfl rfl hf (by kernel_rfl) (fun _ => hS) (fun w => rq_build hf (cs := [(.int .i64 x1.Id), (.int .i64 y.Start), (.slice A2 y.Fibers.length c2), (.int .i64 x1.Block.First), (.int .i64 x1.Block.Count)]) rfl (fun w => by kernel_rfl)) fun a hf => ?_
 refine n1 8 (by kernel_rfl) rfl rfl (op_storeB hf H 0 TF.sz112 rfl rfl rfl rfl rfl rfl (nle rfl) fun w H => ?_)
 refine ⟨fun h => absurd h (by decide), ?_⟩
 refine dn (by kernel_rfl) ?_
 refine then_n (wp_ret (?_))
 obtain rfl := Option.some.inj hF
 refine ret_1 (fn := Tryz.f170) (r := .cell 2 112) hf rfl (rv_cellN hf H 0 TF.la112 rfl rfl rfl) ?_
 have hN := H.ends (X := [(⟨F2, MP.own F2 [(.slice A2 y.Fibers.length c2)] (y.Fibers : List Int)⟩ : DI)])
 simp only [List.flatMap_cons, List.flatMap_nil, List.append_nil, List.append_assoc] at hN
 exact ⟨_, rfl, H.bel, F2, ⟨_, Light_ownmk (x := ({ Id := x1.Id, Route := y, Block := x1.Block } : Light)) (H.ownAt 0 rfl), rfl⟩, by first | exact hN | simpa using hN⟩

/- loop.example/g00897/impl.copyActions -/
set_option maxHeartbeats 1000000 in
theorem impl_copyActions_ok {fu : Nat} {w0 : World} {S : Nat → Prop} {v0_ : Value} {l : List Action} {r : List Action} (h0 : VR w0 S v0_ l) (hF : impl_copyActions fu l = some r) :
    Calls Tryz.prog 104 [v0_].toArray w0 fun e w' => ∃ v, e = .returned v ∧ (Below w0.heap.size w0 w' ∧ ∃ F0, VO w' F0 v r ∧ New w0 w' F0) := by
 obtain ⟨A, c, rfl, hl⟩ := VR_list h0
 have H := Mem.start ⟨w0, []⟩ S
 have H := H.pushArg (MP.val [(.slice A l.length c)] l) hl
 refine enter Tryz.func104 rfl rfl (nle rfl) rfl fun a hf => ?_
 rw [impl_copyActions] at hF
 refine sq (reg (pr 1 hf rfl rfl fun a hf => ?_))
 refine wl_end (then_n (sq (reg (wl0 rfl (op_bslice hf H (.ow []) rfl 136 ([] : List Action) [] rfl (fun w => by kernel_rfl) rfl (by decide) rfl rfl (fun i x h => by simp at h) (by decide) fun A2 a w hf H => ?_)))))
 refine pr 1 hf rfl rfl fun a hf => ?_
 refine wl_end (then_n (sq (sq (reg (pr 3 hf rfl rfl fun a hf => ?_)))))
 refine wl_end (then_n ?_)
 obtain ⟨out2, hB1, hF⟩ := bind_some hF
 have hf := hf.prune [3, 7, 8, 9] rfl
 have H := H.let [] [true] [] [0] rfl rfl rfl rfl
 refine loopC (fun (s : List Action × Int) (a : Act) (w : World) => match s with | (out', i) => ∃ (A3 : Option Addr) (c2 : Nat) (E : Go.TypeId) (Fs : List (List Nat)), Fr a 24 [(3, (.slice A3 out'.length c2)), (7, (.slice A l.length c)), (8, (.int .i64 (l.length : Int))), (9, (.int .i64 i))] ∧ Mem ⟨w0, []⟩ S [] [⟨.ow Fs, E, A3, c2, (out' : List Action)⟩] [] [(false, MP.val [(.slice A l.length c)] (l : List Action))] w) (fun k (s : List Action × Int) => impl_copyActions_L1 fu l k s.1 s.2 = some out2) (fun s => out2 = s) (([] : List Action), 0) fu hB1 ⟨A2, 0, 136, [], hf, H⟩ (fun s h => by cases h) ?_ ?_
 ·rintro fk ⟨out', i⟩ a w hR1 hI
  replace hR1 : impl_copyActions_L1 fu l (fk + 1) out' i = some out2 := hR1
  rw [impl_copyActions_L1] at hR1
  obtain ⟨A3, c2, E, Fs, hf, H⟩ := hI
  refine sq (reg (pr 1 hf rfl rfl fun a hf => ?_))
  refine wl_end (then_n (sq (iteB hR1 (fun hc hR1 => cd_t hf rfl hc ?_) fun hc hR1 => cd_f hf rfl hc ?_)))
  ·refine wp_skip (then_n (sq (wp_block (sq (reg ?_)))))
   obtain ⟨e, he, hR1⟩ := bind_some hR1
   refine wl0 rfl (op_iaddr hf H Tryz.underlying65 TF.sz136 0 rfl rfl rfl he (by decide) fun p o cs a hf hr H => ?_)
   obtain ⟨A4, c3, rfl, hl2⟩ := Action_cells hr
   have H := H.push (false, MP.val [(.slice A4 e.Light.Route.Fibers.length c3)] e.Light.Route.Fibers) hl2
   refine wl0 rfl (op_q hf (rq_loadIN hf H TF.la136 1 0 rfl rfl rfl rfl) rfl (by decide) fun a hf => ?_)
   refine wl0 rfl (op_alloc hf H TF.zv136 rfl (by decide) fun b' a w hf H => ?_)
   refine wl0 rfl (op_storeB hf H 0 TF.sz136 rfl rfl rfl rfl rfl rfl (nle rfl) fun w H => ?_)
   refine wl_end (then_n (drawn [] (bs := [false, false, false, false, false, false, false, false, false, false]) (fuel := 10) (Checked.mixed Tryz.checked) rfl rfl fun w hb => ?_))
   have H := H.keep hb
   refine tp 0 rfl rfl hf (by kernel_rfl) (fun _ => trivial) rfl fun a hf => ?_
   refine tp 1 rfl rfl hf (by kernel_rfl) (fun _ => trivial) rfl fun a hf => ?_
   refine strT (H.let [true] [false] [] [] rfl rfl rfl rfl) (fun w H => trivial) fun hS => ?_
   refine tS 2 [] rfl rfl rfl rfl hf (by kernel_rfl) (by kernel_rfl) hS (fun w H => rq_loadB hf H TF.ls3 0 rfl rfl rfl) fun a hf => ?_
   refine tp 3 rfl rfl hf (by kernel_rfl) (fun _ => hS) rfl fun a hf => ?_
   refine tS 4 [] rfl rfl rfl rfl hf (by kernel_rfl) (by kernel_rfl) hS (fun w H => rq_loadBN hf H TF.la112 0 rfl rfl rfl rfl) fun a hf => ?_
   obtain ⟨y, hy, hR1⟩ := bind_some hR1
   refine n1 5 (by kernel_rfl) rfl rfl (op_call hf TF.cl170 rfl (by decide) (impl_copyLight_ok (S := fun _ => True) (Light_mkv (x := e.Light) (rep_true (α := List Int) (H.get 0 rfl))) hy) fun v w a hp hf => ?_)
   obtain ⟨hb, F, hp2, hN⟩ := hp
   obtain ⟨A5, c4, F2, rfl, rfl, hl3⟩ := Light_vo hp2
   have H := H.addOwn hb (X := [(⟨F2, MP.own F2 [(.slice A5 y.Route.Fibers.length c4)] (y.Route.Fibers : List Int)⟩ : DI)]) (by simpa using hN.1) (ps1 hl3 ps0) (by simpa using hN.2)
   have H := H.lend 0 rfl
   have hS := H.let [true] [false] [false] [] rfl rfl rfl rfl
   refine ⟨fun _ => hS, ?_⟩
   refine tP 6 rfl rfl rfl rfl hf (by kernel_rfl) (fun _ => hS) (fun w => rq_build hf (cs := [(.int .i64 e.Kind), (.int .i64 y.Id), (.int .i64 y.Route.Start), (.slice A5 y.Route.Fibers.length c4), (.int .i64 y.Block.First), (.int .i64 y.Block.Count)]) rfl (fun w => by kernel_rfl)) fun a hf => ?_
   have H := H.recast (X := [(⟨F2, MP.own F2 [(.slice A5 y.Route.Fibers.length c4)] (y.Route.Fibers : List Int)⟩ : DI)]) (Y := [(⟨F2, MP.own F2 [(.int .i64 e.Kind), (.int .i64 y.Id), (.int .i64 y.Route.Start), (.slice A5 y.Route.Fibers.length c4), (.int .i64 y.Block.First), (.int .i64 y.Block.Count)] (({ Kind := e.Kind, Light := y } : Action) : Action)⟩ : DI)]) (List.Perm.of_eq (by simp)) fun _ => ps1 (Action_ownmk (x := ({ Kind := e.Kind, Light := y } : Action)) (H.ownAt 0 rfl)) ps0
   refine n1 7 (by kernel_rfl) rfl rfl (op_bsliceO hf 136 H rfl (fun w => by kernel_rfl) (by decide) fun A6 a w hf H => ?_)
   have hS := H.let [true] [false, false] [] [] rfl rfl rfl rfl
   refine ⟨fun _ => hS, ?_⟩
   obtain ⟨l2, hl2, hR1⟩ := bind_some hR1
   have H := H.frontR 1 rfl
   refine n1 8 (by kernel_rfl) rfl rfl (op_appO hf H Tryz.underlying65 TF.ai136 rfl (by decide) rfl rfl hl2 (by decide) fun E2 A7 c5 a w hf H => ?_)
   have hS := H.let [true] [false] [] [] rfl rfl rfl rfl
   refine ⟨fun _ => hS, ?_⟩
   refine tp 9 rfl rfl hf (by kernel_rfl) (fun _ => hS) rfl fun a hf => ?_
   refine dn (by kernel_rfl) ?_
   have hf := hf.prune [3, 7, 8, 9] rfl
   refine blk_n (then_n (reg (pr 2 hf rfl rfl fun a hf => ?_)))
   refine wl_end ?_
   have hf := hf.prune [3, 7, 8, 9] rfl
   have H := H.let [false] [true] [] [3] rfl rfl rfl rfl
   exact then_n ⟨(l2, w64 (i + 1)), hR1, A7, c5, E2, Fs ++ [F2], hf, H⟩
  ·refine wp_exit (then_x (then_x (blk_e (?_))))
   have hf := hf.prune [3, 7, 8, 9] rfl
   have H := H.let [] [true] [] [0] rfl rfl rfl rfl
   exact ⟨(out', i), (Option.some.inj hR1).symm, A3, c2, E, Fs, hf, H⟩
 rintro a w ⟨⟨out3, i2⟩, rfl, A8, c6, E3, Fs2, hf, H⟩
 try dsimp only at hF
 refine then_n (sq (reg (pr 2 hf rfl rfl fun a hf => ?_)))
 refine wl_end (then_n (wp_ret (?_)))
 obtain ⟨F3, H⟩ := H.freezeOwn 0 rfl
 have H := H.lend 0 rfl
 obtain rfl := Option.some.inj hF
 refine ret_1 (fn := Tryz.f104) (r := .tmp 2) hf rfl (rv_tmp hf rfl) ?_
 have hN := H.ends (X := [(⟨F3, MP.own F3 [(.slice A8 out3.length c6)] (out3 : List Action)⟩ : DI)])
 simp only [List.flatMap_cons, List.flatMap_nil, List.append_nil, List.append_assoc] at hN
 exact ⟨_, rfl, H.bel, F3, (mko_list (H.ownAt 0 rfl)), by first | exact hN | simpa using hN⟩

/- loop.example/g00897/impl.PlanDifference -/
set_option maxHeartbeats 1000000 in
theorem impl_PlanDifference_ok {fu : Nat} {w0 : World} {S : Nat → Prop} {v0_ : Value} {v1_ : Value} {p : Plan} {q : Plan} {r : List Action × Bool} (h0 : VR w0 S v0_ p) (h1 : VR w0 S v1_ q) (hF : impl_PlanDifference fu p q = some r) :
    Calls Tryz.prog 43 [v0_, v1_].toArray w0 fun e w' => ∃ v, e = .returned v ∧ (Below w0.heap.size w0 w' ∧ ∃ F0, ∃ u0 u1, v = .tuple #[u0, u1] ∧ VO w' F0 u0 r.1 ∧ VR w' (St ⟨w0, []⟩ S [] [] [] true) u1 r.2 ∧ New w0 w' F0) := by
 obtain ⟨A, c, A2, c2, A3, c3, rfl, hl, hl2, hl3⟩ := Plan_open h0
 obtain ⟨A4, c4, A5, c5, A6, c6, rfl, hl4, hl5, hl6⟩ := Plan_open h1
 have H := Mem.start ⟨w0, []⟩ S
 have H := H.pushArg (MP.val [(.slice A p.Network.Nodes.length c)] p.Network.Nodes) hl
 have H := H.pushArg (MP.val [(.slice A2 p.Network.Fibers.length c2)] p.Network.Fibers) hl2
 have H := H.pushArg (MP.val [(.slice A3 p.Lights.length c3)] p.Lights) hl3
 have H := H.pushArg (MP.val [(.slice A4 q.Network.Nodes.length c4)] q.Network.Nodes) hl4
 have H := H.pushArg (MP.val [(.slice A5 q.Network.Fibers.length c5)] q.Network.Fibers) hl5
 have H := H.pushArg (MP.val [(.slice A6 q.Lights.length c6)] q.Lights) hl6
 refine enter Tryz.func43 rfl rfl (nle rfl) rfl fun a hf => ?_
 rw [impl_PlanDifference] at hF
 refine sq (reg (wl0 rfl (op_box hf H rfl rfl (by decide) fun b' a w hf H => ?_)))
 refine wl0 rfl (op_box hf H rfl rfl (by decide) fun b2 a w hf H => ?_)
 refine pr 2 hf rfl rfl fun a hf => ?_
 refine wl_end (then_n (sq (sq ?_)))
 obtain ⟨c7, hGc7, hF⟩ := bind_some hF
 have fh := hf.prune [2, 3] rfl
 have Hm := H.let [true, true] [] [] [0, 1, 2, 3, 4, 5] rfl rfl rfl rfl
 refine midF 30 (.bool c7) fh Hm ?_ fun a w hf H => ?_
 ·refine reg (wl0 rfl (op_q hf (rq_loadBN hf H TF.la37 1 rfl rfl rfl rfl) rfl (by decide) fun a hf => ?_))
  obtain ⟨y, hy, hGc7⟩ := bind_some hGc7
  refine wl0 rfl (op_call hf TF.cl72 rfl (by decide) (impl_IsValidPlan_ok (S := fun _ => True) (Plan_mkv (x := p) (rep_true (α := List ByteArray) (H.get 5 rfl)) (rep_true (α := List Fiber) (H.get 4 rfl)) (rep_true (α := List Light) (H.get 3 rfl))) hy) fun v w a hp hf => ?_)
  obtain ⟨hb, hp⟩ := hp
  obtain rfl := VR_bool hp
  have H := H.keep hb
  refine pr 2 hf rfl rfl fun a hf => ?_
  refine iteB hGc7 (fun hc hGc7 => ?_) fun hc hGc7 => ?_
  ·have hf := hf.lit 18 rfl hc
   refine pr 12 hf rfl rfl fun a hf => ?_
   obtain rfl := Option.some.inj hGc7
   have hf := hf.prune [30, 2, 3] rfl
   have H := H.let [true, true] [] [] [0, 1, 2, 3, 4, 5] rfl rfl rfl rfl
   exact wl_end ⟨hf, H⟩
  ·have hf := hf.lit 18 rfl hc
   refine wlg hf rfl rfl rfl (op_q hf (rq_loadBN hf H TF.la37 0 rfl rfl rfl rfl) rfl (by decide) fun a hf => ?_)
   obtain ⟨y2, hy2, hGc7⟩ := bind_some hGc7
   refine wlg hf rfl rfl rfl (op_call hf TF.cl72 rfl (by decide) (impl_IsValidPlan_ok (S := fun _ => True) (Plan_mkv (x := q) (rep_true (α := List ByteArray) (H.get 2 rfl)) (rep_true (α := List Fiber) (H.get 1 rfl)) (rep_true (α := List Light) (H.get 0 rfl))) hy2) fun v2 w a hp2 hf => ?_)
   obtain ⟨hb2, hp2⟩ := hp2
   obtain rfl := VR_bool hp2
   have H := H.keep hb2
   refine pr 3 hf rfl rfl fun a hf => ?_
   refine iteB hGc7 (fun hc2 hGc7 => ?_) fun hc2 hGc7 => ?_
   ·have hf := hf.lit 23 rfl hc2
    refine pr 7 hf rfl rfl fun a hf => ?_
    obtain rfl := Option.some.inj hGc7
    have hf := hf.prune [30, 2, 3] rfl
    have H := H.let [true, true] [] [] [0, 1, 2, 3, 4, 5] rfl rfl rfl rfl
    exact wl_end ⟨hf, H⟩
   ·have hf := hf.lit 23 rfl hc2
    refine pr 1 hf rfl rfl fun a hf => ?_
    refine wlg hf rfl rfl rfl (op_q hf (rq_loadBN hf H TF.la34 1 rfl rfl rfl rfl) rfl (by decide) fun a hf => ?_)
    refine pr 1 hf rfl rfl fun a hf => ?_
    refine wlg hf rfl rfl rfl (op_q hf (rq_loadBN hf H TF.la34 0 rfl rfl rfl rfl) rfl (by decide) fun a hf => ?_)
    obtain ⟨y3, hy3, hGc7⟩ := bind_some hGc7
    refine wlg hf rfl rfl rfl (op_call hf TF.cl101 rfl (by decide) (impl_equalNetworks_ok (S := fun _ => True) (Network_mkv (x := p.Network) (rep_true (α := List ByteArray) (H.get 5 rfl)) (rep_true (α := List Fiber) (H.get 4 rfl))) (Network_mkv (x := q.Network) (rep_true (α := List ByteArray) (H.get 2 rfl)) (rep_true (α := List Fiber) (H.get 1 rfl))) hy3) fun v3 w a hp3 hf => ?_)
    obtain ⟨hb3, hp3⟩ := hp3
    obtain rfl := VR_bool hp3
    have H := H.keep hb3
    refine pr 2 hf rfl rfl fun a hf => ?_
    obtain rfl := Option.some.inj hGc7
    have hf := hf.prune [30, 2, 3] rfl
    have H := H.let [true, true] [] [] [0, 1, 2, 3, 4, 5] rfl rfl rfl rfl
    exact wl_end ⟨hf, H⟩
 refine then_n (iteB hF (fun hc3 hF => cd_t hf rfl hc3 ?_) fun hc3 hF => cd_f hf rfl hc3 ?_)
 ·refine sq (reg (pr 2 hf rfl rfl fun a hf => ?_))
  refine wl_end (then_n (wp_ret (then_r (?_))))
  have H := H.ownNil (Action)
  have H := H.lend 0 rfl
  obtain rfl := Option.some.inj hF
  refine ret_2 (fn := Tryz.f43) (r := .tmp 4) (s := .tmp 5) hf rfl (rv_tmp hf rfl) (rv_tmp hf rfl) ?_
  have hN := H.ends (X := [(⟨[], MP.own [] [(.slice none 0 0)] ([] : List Action)⟩ : DI)])
  simp only [List.flatMap_cons, List.flatMap_nil, List.append_nil, List.append_assoc] at hN
  exact ⟨_, rfl, H.bel, [], _, _, rfl, (mko_list (H.ownAt 0 rfl)), mk_bool, by first | exact hN | simpa using hN⟩
 ·refine wp_skip (then_n (sq (reg (wl0 rfl (op_bslice hf H (.sh true) rfl 136 ([] : List Action) [] rfl (fun w => by kernel_rfl) rfl (by decide) rfl trivial el0 (by decide) fun A7 a w hf H => ?_)))))
  refine wl0 rfl (op_bslice hf H (.sh true) rfl 136 ([] : List Action) [] rfl (fun w => by kernel_rfl) rfl (by decide) rfl trivial el0 (by decide) fun A8 a w hf H => ?_)
  refine wl0 rfl (op_bslice hf H (.sh true) rfl 136 ([] : List Action) [] rfl (fun w => by kernel_rfl) rfl (by decide) rfl trivial el0 (by decide) fun A9 a w hf H => ?_)
  refine pr 3 hf rfl rfl fun a hf => ?_
  refine wl_end (then_n (sq (sq (reg (pr 1 hf rfl rfl fun a hf => ?_)))))
  refine wl0 rfl (op_q hf (rq_loadB hf H TF.ls35 1 rfl rfl rfl) rfl (by decide) fun a hf => ?_)
  refine pr 2 hf rfl rfl fun a hf => ?_
  refine wl_end (then_n ?_)
  have H := H.rowWeak 2 rfl
  obtain ⟨out', hB1, hF⟩ := bind_some hF
  have hf := hf.prune [2, 3, 6, 7, 8, 35, 36, 37] rfl
  have H := H.frontR 1 rfl
  have H := H.frontR 1 rfl
  have H := H.frontR 2 rfl
  have H := H.let [true, true] [true, true, true] [] [0, 1, 2, 3, 4, 5] rfl rfl rfl rfl
  refine loopC (fun (s : List Action × Int) (a : Act) (w : World) => match s with | (removes, i) => ∃ (A10 : Option Addr) (c8 : Nat) (E : Go.TypeId), Fr a 96 [(2, (.pointer (some ⟨b', 0, none⟩))), (3, (.pointer (some ⟨b2, 0, none⟩))), (6, (.slice A10 removes.length c8)), (7, (.slice A8 0 0)), (8, (.slice A9 0 0)), (35, (.slice A3 p.Lights.length c3)), (36, (.int .i64 (p.Lights.length : Int))), (37, (.int .i64 i))] ∧ Mem ⟨w0, []⟩ S [⟨b2, 37, [(.slice A4 q.Network.Nodes.length c4), (.slice A5 q.Network.Fibers.length c5), (.slice A6 q.Lights.length c6)]⟩, ⟨b', 37, [(.slice A p.Network.Nodes.length c), (.slice A2 p.Network.Fibers.length c2), (.slice A3 p.Lights.length c3)]⟩] [⟨.sh false, E, A10, c8, (removes : List Action)⟩, ⟨.sh true, 136, A9, 0, (([] : List Action) : List Action)⟩, ⟨.sh true, 136, A8, 0, (([] : List Action) : List Action)⟩] [] [(false, MP.val [(.slice A6 q.Lights.length c6)] (q.Lights : List Light)), (false, MP.val [(.slice A5 q.Network.Fibers.length c5)] (q.Network.Fibers : List Fiber)), (false, MP.val [(.slice A4 q.Network.Nodes.length c4)] (q.Network.Nodes : List ByteArray)), (false, MP.val [(.slice A3 p.Lights.length c3)] (p.Lights : List Light)), (false, MP.val [(.slice A2 p.Network.Fibers.length c2)] (p.Network.Fibers : List Fiber)), (false, MP.val [(.slice A p.Network.Nodes.length c)] (p.Network.Nodes : List ByteArray))] w) (fun k (s : List Action × Int) => impl_PlanDifference_L1 fu p q k s.1 s.2 = some out') (fun s => out' = s) (([] : List Action), 0) fu hB1 ⟨A7, 0, 136, hf, H⟩ (fun s h => by cases h) ?_ ?_
  ·rintro fk ⟨removes, i⟩ a w hR1 hI
   replace hR1 : impl_PlanDifference_L1 fu p q (fk + 1) removes i = some out' := hR1
   rw [impl_PlanDifference_L1] at hR1
   obtain ⟨A10, c8, E, hf, H⟩ := hI
   refine sq (reg (pr 1 hf rfl rfl fun a hf => ?_))
   refine wl_end (then_n (sq (iteB hR1 (fun hc4 hR1 => cd_t hf rfl hc4 ?_) fun hc4 hR1 => cd_f hf rfl hc4 ?_)))
   ·refine wp_skip (then_n (sq (wp_block (sq (reg ?_)))))
    obtain ⟨e, he, hR1⟩ := bind_some hR1
    refine wl0 rfl (op_iaddr hf H Tryz.underlying35 TF.sz112 3 rfl rfl rfl he (by decide) fun p2 o cs a hf hr H => ?_)
    obtain ⟨A11, c9, rfl, hl7⟩ := Light_cells hr
    have H := H.push (false, MP.val [(.slice A11 e.Route.Fibers.length c9)] e.Route.Fibers) hl7
    refine wl0 rfl (op_q hf (rq_loadIN hf H TF.la112 1 0 rfl rfl rfl rfl) rfl (by decide) fun a hf => ?_)
    refine wl0 rfl (op_alloc hf H TF.zv112 rfl (by decide) fun b3 a w hf H => ?_)
    refine wl0 rfl (op_storeB hf H 0 TF.sz112 rfl rfl rfl rfl rfl rfl (nle rfl) fun w H => ?_)
    refine wl_end (then_n (sq (reg (wl0 rfl (op_q hf (rq_loadBN hf H TF.la37 1 rfl rfl rfl rfl) rfl (by decide) fun a hf => ?_)))))
    refine pr 1 hf rfl rfl fun a hf => ?_
    refine wl0 rfl (op_q hf (rq_loadB hf H TF.ls3 0 rfl rfl rfl) rfl (by decide) fun a hf => ?_)
    obtain ⟨y4, hy4, hR1⟩ := bind_some hR1
    refine wl0 rfl (op_call hf TF.cl102 rfl (by decide) (impl_lightAt_ok (S := fun _ => True) (Plan_mkv (x := q) (rep_true (α := List ByteArray) (H.get 4 rfl)) (rep_true (α := List Fiber) (H.get 3 rfl)) (rep_true (α := List Light) (H.get 2 rfl))) mk_int hy4) fun v4 w a hp4 hf => ?_)
    obtain ⟨hb4, hp4⟩ := hp4
    obtain rfl := VR_int hp4
    have H := H.keep hb4
    refine pr 1 hf rfl rfl fun a hf => ?_
    refine wl_end (then_n (iteB hR1 (fun hc5 hR1 => cd_t hf rfl hc5 ?_) fun hc5 hR1 => cd_f hf rfl hc5 ?_))
    ·refine reg (pr 1 hf rfl rfl fun a hf => ?_)
     refine wl0 rfl (op_q hf (rq_loadBN hf H TF.la112 0 rfl rfl rfl rfl) rfl (by decide) fun a hf => ?_)
     refine wl0 rfl (op_q hf (rq_build hf (cs := [(.int .i64 2), (.int .i64 e.Id), (.int .i64 e.Route.Start), (.slice A11 e.Route.Fibers.length c9), (.int .i64 e.Block.First), (.int .i64 e.Block.Count)]) rfl (fun w => by kernel_rfl)) rfl (by decide) fun a hf => ?_)
     refine wl0 rfl (op_bslice hf H (.sh false) rfl 136 ([({ Kind := 2, Light := e } : Action)] : List Action) [(.int .i64 2), (.int .i64 e.Id), (.int .i64 e.Route.Start), (.slice A11 e.Route.Fibers.length c9), (.int .i64 e.Block.First), (.int .i64 e.Block.Count)] rfl (fun w => by kernel_rfl) rfl (by decide) rfl trivial (el1 (y := ({ Kind := 2, Light := e } : Action)) ((Action_mk (x := ({ Kind := 2, Light := e } : Action)) (H.get 0 rfl)))) (by decide) fun A12 a w hf H => ?_)
     obtain ⟨l, hl, hR1⟩ := bind_some hR1
     refine wl0 rfl (op_appR hf H Tryz.underlying65 TF.ai136 rfl (by decide) 1 0 rfl rfl rfl rfl (.inl rfl) hl (by decide) fun E2 A13 c10 a w hf H => ?_)
     refine pr 1 hf rfl rfl fun a hf => ?_
     have hf := hf.prune [2, 3, 6, 7, 8, 35, 36, 37] rfl
     refine wl_end (blk_n (then_n (reg (pr 2 hf rfl rfl fun a hf => ?_))))
     refine wl_end ?_
     have hf := hf.prune [2, 3, 6, 7, 8, 35, 36, 37] rfl
     have H := H.let [false, true, true] [false, true, true, true] [] [2, 3, 4, 5, 6, 7] rfl rfl rfl rfl
     exact then_n ⟨(l, w64 (i + 1)), hR1, A13, c10, E2, hf, H⟩
    ·refine wp_skip (blk_n (then_n (reg (pr 2 hf rfl rfl fun a hf => ?_))))
     refine wl_end ?_
     have hf := hf.prune [2, 3, 6, 7, 8, 35, 36, 37] rfl
     have H := H.let [false, true, true] [true, true, true] [] [2, 3, 4, 5, 6, 7] rfl rfl rfl rfl
     exact then_n ⟨(removes, w64 (i + 1)), hR1, A10, c8, E, hf, H⟩
   ·refine wp_exit (then_x (then_x (blk_e (?_))))
    have hf := hf.prune [2, 3, 6, 7, 8, 35, 36, 37] rfl
    have H := H.let [true, true] [true, true, true] [] [0, 1, 2, 3, 4, 5] rfl rfl rfl rfl
    exact ⟨(removes, i), (Option.some.inj hR1).symm, A10, c8, E, hf, H⟩
  rintro a w ⟨⟨removes2, i2⟩, rfl, A14, c11, E3, hf, H⟩
  try dsimp only at hF
  refine then_n (sq (sq (reg (pr 1 hf rfl rfl fun a hf => ?_))))
  refine wl0 rfl (op_q hf (rq_loadB hf H TF.ls35 0 rfl rfl rfl) rfl (by decide) fun a hf => ?_)
  refine pr 2 hf rfl rfl fun a hf => ?_
  refine wl_end (then_n ?_)
  have H := H.rowWeak 1 rfl
  have H := H.rowWeak 2 rfl
  obtain ⟨out2, hB1, hF⟩ := bind_some hF
  have hf := hf.prune [2, 6, 7, 8, 53, 54, 55] rfl
  have H := H.frontR 1 rfl
  have H := H.frontR 2 rfl
  have H := H.let [false, true] [true, true, true] [] [0, 3, 4, 5] rfl rfl rfl rfl
  refine loopC (fun (s : List Action × Int × List Action) (a : Act) (w : World) => match s with | (adds, i3, moves) => ∃ (A15 : Option Addr) (c12 : Nat) (E4 : Go.TypeId) (A16 : Option Addr) (c13 : Nat) (E5 : Go.TypeId), Fr a 96 [(2, (.pointer (some ⟨b', 0, none⟩))), (6, (.slice A14 removes2.length c11)), (7, (.slice A16 moves.length c13)), (8, (.slice A15 adds.length c12)), (53, (.slice A6 q.Lights.length c6)), (54, (.int .i64 (q.Lights.length : Int))), (55, (.int .i64 i3))] ∧ Mem ⟨w0, []⟩ S [⟨b', 37, [(.slice A p.Network.Nodes.length c), (.slice A2 p.Network.Fibers.length c2), (.slice A3 p.Lights.length c3)]⟩] [⟨.sh false, E5, A16, c13, (moves : List Action)⟩, ⟨.sh false, E4, A15, c12, (adds : List Action)⟩, ⟨.sh false, E3, A14, c11, (removes2 : List Action)⟩] [] [(false, MP.val [(.slice A6 q.Lights.length c6)] (q.Lights : List Light)), (false, MP.val [(.slice A3 p.Lights.length c3)] (p.Lights : List Light)), (false, MP.val [(.slice A2 p.Network.Fibers.length c2)] (p.Network.Fibers : List Fiber)), (false, MP.val [(.slice A p.Network.Nodes.length c)] (p.Network.Nodes : List ByteArray))] w) (fun k (s : List Action × Int × List Action) => impl_PlanDifference_L2 fu p q k s.1 s.2.1 s.2.2 = some out2) (fun s => out2 = s) (([] : List Action), 0, ([] : List Action)) fu hB1 ⟨A9, 0, 136, A8, 0, 136, hf, H⟩ (fun s h => by cases h) ?_ ?_
  ·rintro fk ⟨adds, i3, moves⟩ a w hR1 hI
   replace hR1 : impl_PlanDifference_L2 fu p q (fk + 1) adds i3 moves = some out2 := hR1
   rw [impl_PlanDifference_L2] at hR1
   obtain ⟨A15, c12, E4, A16, c13, E5, hf, H⟩ := hI
   refine sq (reg (pr 1 hf rfl rfl fun a hf => ?_))
   refine wl_end (then_n (sq (iteB hR1 (fun hc6 hR1 => cd_t hf rfl hc6 ?_) fun hc6 hR1 => cd_f hf rfl hc6 ?_)))
   ·refine wp_skip (then_n (sq (wp_block (sq (reg ?_)))))
    obtain ⟨e2, he2, hR1⟩ := bind_some hR1
    refine wl0 rfl (op_iaddr hf H Tryz.underlying35 TF.sz112 0 rfl rfl rfl he2 (by decide) fun p3 o2 cs2 a hf hr2 H => ?_)
    obtain ⟨A17, c14, rfl, hl8⟩ := Light_cells hr2
    have H := H.push (false, MP.val [(.slice A17 e2.Route.Fibers.length c14)] e2.Route.Fibers) hl8
    refine wl0 rfl (op_q hf (rq_loadIN hf H TF.la112 1 0 rfl rfl rfl rfl) rfl (by decide) fun a hf => ?_)
    refine wl0 rfl (op_alloc hf H TF.zv112 rfl (by decide) fun b4 a w hf H => ?_)
    refine wl0 rfl (op_storeB hf H 0 TF.sz112 rfl rfl rfl rfl rfl rfl (nle rfl) fun w H => ?_)
    refine wl_end (then_n (sq (reg (wl0 rfl (op_q hf (rq_loadBN hf H TF.la37 1 rfl rfl rfl rfl) rfl (by decide) fun a hf => ?_)))))
    refine pr 1 hf rfl rfl fun a hf => ?_
    refine wl0 rfl (op_q hf (rq_loadB hf H TF.ls3 0 rfl rfl rfl) rfl (by decide) fun a hf => ?_)
    obtain ⟨y5, hy5, hR1⟩ := bind_some hR1
    refine wl0 rfl (op_call hf TF.cl102 rfl (by decide) (impl_lightAt_ok (S := fun _ => True) (Plan_mkv (x := p) (rep_true (α := List ByteArray) (H.get 5 rfl)) (rep_true (α := List Fiber) (H.get 4 rfl)) (rep_true (α := List Light) (H.get 3 rfl))) mk_int hy5) fun v5 w a hp5 hf => ?_)
    obtain ⟨hb5, hp5⟩ := hp5
    obtain rfl := VR_int hp5
    have H := H.keep hb5
    refine pr 1 hf rfl rfl fun a hf => ?_
    refine wl_end (then_n (wp_block (sq (reg (pr 3 hf rfl rfl fun a hf => ?_)))))
    refine wl_end (then_n (iteB hR1 (fun hc7 hR1 => cd_t hf rfl hc7 ?_) fun hc7 hR1 => cd_f hf rfl hc7 ?_))
    ·refine reg (pr 1 hf rfl rfl fun a hf => ?_)
     refine wl0 rfl (op_q hf (rq_loadBN hf H TF.la112 0 rfl rfl rfl rfl) rfl (by decide) fun a hf => ?_)
     refine wl0 rfl (op_q hf (rq_build hf (cs := [(.int .i64 1), (.int .i64 e2.Id), (.int .i64 e2.Route.Start), (.slice A17 e2.Route.Fibers.length c14), (.int .i64 e2.Block.First), (.int .i64 e2.Block.Count)]) rfl (fun w => by kernel_rfl)) rfl (by decide) fun a hf => ?_)
     refine wl0 rfl (op_bslice hf H (.sh false) rfl 136 ([({ Kind := 1, Light := e2 } : Action)] : List Action) [(.int .i64 1), (.int .i64 e2.Id), (.int .i64 e2.Route.Start), (.slice A17 e2.Route.Fibers.length c14), (.int .i64 e2.Block.First), (.int .i64 e2.Block.Count)] rfl (fun w => by kernel_rfl) rfl (by decide) rfl trivial (el1 (y := ({ Kind := 1, Light := e2 } : Action)) ((Action_mk (x := ({ Kind := 1, Light := e2 } : Action)) (H.get 0 rfl)))) (by decide) fun A18 a w hf H => ?_)
     obtain ⟨l2, hl2, hR1⟩ := bind_some hR1
     refine wl0 rfl (op_appR hf H Tryz.underlying65 TF.ai136 rfl (by decide) 2 0 rfl rfl rfl rfl (.inl rfl) hl2 (by decide) fun E6 A19 c15 a w hf H => ?_)
     refine pr 1 hf rfl rfl fun a hf => ?_
     have hf := hf.prune [2, 6, 7, 8, 53, 54, 55] rfl
     refine wl_end (blk_n (blk_n (then_n (reg (pr 2 hf rfl rfl fun a hf => ?_)))))
     refine wl_end ?_
     have hf := hf.prune [2, 6, 7, 8, 53, 54, 55] rfl
     have H := H.let [false, true] [false, true, true, true] [] [2, 3, 4, 5] rfl rfl rfl rfl
     exact then_n ⟨(l2, w64 (i3 + 1), moves), hR1, A19, c15, E6, A16, c13, E5, hf, H⟩
    ·refine sq (drawn [] (bs := [false, false, false, false, false, false, false, false, false]) (fuel := 9) (Checked.mixed Tryz.checked) rfl rfl fun w hb => ?_)
     have H := H.keep hb
     refine tp 0 rfl rfl hf (by kernel_rfl) (fun _ => trivial) rfl fun a hf => ?_
     refine strT (H.let [false, true] [false, false, false] [] [] rfl rfl rfl rfl) (fun w H => trivial) fun hS => ?_
     refine tS 1 [] rfl rfl rfl rfl hf (by kernel_rfl) (by kernel_rfl) hS (fun w H => rq_loadB hf H TF.ls35 0 rfl rfl rfl) fun a hf => ?_
     refine tp 2 rfl rfl hf (by kernel_rfl) (fun _ => hS) rfl fun a hf => ?_
     obtain ⟨e3, he3, hR1⟩ := bind_some hR1
     obtain ⟨p4, o3, cs3, hx, hr3, H⟩ := pre_iaddr H Tryz.underlying35 TF.sz112 3 rfl he3
     refine tP 3 rfl rfl rfl rfl hf (by kernel_rfl) (fun _ => hS) (fun w => rq_iaddrE hf rfl rfl rfl hx w) fun a hf => ?_
     obtain ⟨A20, c16, rfl, hl9⟩ := Light_cells hr3
     have H := H.push (false, MP.val [(.slice A20 e3.Route.Fibers.length c16)] e3.Route.Fibers) hl9
     refine strT (H.let [false, true] [false, false, false] [] [1] rfl rfl rfl rfl) (fun w H => H.let [true] [] [] [] rfl rfl rfl rfl) fun hS => ?_
     refine tS 4 [] rfl rfl rfl rfl hf (by kernel_rfl) (by kernel_rfl) hS (fun w H => rq_loadIN hf H TF.la112 0 0 rfl rfl rfl rfl) fun a hf => ?_
     refine strT (H.let [true, true] [false, false, false] [] [1] rfl rfl rfl rfl) (fun w H => H.let [false, true] [] [] [0] rfl rfl rfl rfl) fun hS => ?_
     refine tS 5 [] rfl rfl rfl rfl hf (by kernel_rfl) (by kernel_rfl) hS (fun w H => rq_loadBN hf H TF.la112 0 rfl rfl rfl rfl) fun a hf => ?_
     obtain ⟨y6, hy6, hR1⟩ := bind_some hR1
     refine n1 6 (by kernel_rfl) rfl rfl (op_call hf TF.cl103 rfl (by decide) (impl_equalLights_ok (S := fun _ => True) (Light_mkv (x := e3) (rep_true (α := List Int) (H.get 0 rfl))) (Light_mkv (x := e2) (rep_true (α := List Int) (H.get 2 rfl))) hy6) fun v6 w a hp6 hf => ?_)
     obtain ⟨hb6, hp6⟩ := hp6
     obtain rfl := VR_bool hp6
     have H := H.keep hb6
     have hS := H.let [true, true] [false, false, false] [] [1] rfl rfl rfl rfl
     refine ⟨fun _ => hS, ?_⟩
     refine tp 7 rfl rfl hf (by kernel_rfl) (fun _ => hS) rfl fun a hf => ?_
     refine tp 8 rfl rfl hf (by kernel_rfl) (fun _ => hS) rfl fun a hf => ?_
     refine dn (by kernel_rfl) ?_
     have hf := hf.prune [2, 6, 7, 8, 12, 53, 54, 55, 71] rfl
     refine then_n (iteB hR1 (fun hc8 hR1 => cd_t hf rfl hc8 ?_) fun hc8 hR1 => cd_f hf rfl hc8 ?_)
     ·refine reg (pr 1 hf rfl rfl fun a hf => ?_)
      refine wl0 rfl (op_q hf (rq_loadBN hf H TF.la112 0 rfl rfl rfl rfl) rfl (by decide) fun a hf => ?_)
      refine wl0 rfl (op_q hf (rq_build hf (cs := [(.int .i64 3), (.int .i64 e2.Id), (.int .i64 e2.Route.Start), (.slice A17 e2.Route.Fibers.length c14), (.int .i64 e2.Block.First), (.int .i64 e2.Block.Count)]) rfl (fun w => by kernel_rfl)) rfl (by decide) fun a hf => ?_)
      refine wl0 rfl (op_bslice hf H (.sh false) rfl 136 ([({ Kind := 3, Light := e2 } : Action)] : List Action) [(.int .i64 3), (.int .i64 e2.Id), (.int .i64 e2.Route.Start), (.slice A17 e2.Route.Fibers.length c14), (.int .i64 e2.Block.First), (.int .i64 e2.Block.Count)] rfl (fun w => by kernel_rfl) rfl (by decide) rfl trivial (el1 (y := ({ Kind := 3, Light := e2 } : Action)) ((Action_mk (x := ({ Kind := 3, Light := e2 } : Action)) (H.get 2 rfl)))) (by decide) fun A21 a w hf H => ?_)
      obtain ⟨l3, hl3, hR1⟩ := bind_some hR1
      refine wl0 rfl (op_appR hf H Tryz.underlying65 TF.ai136 rfl (by decide) 1 0 rfl rfl rfl rfl (.inl rfl) hl3 (by decide) fun E7 A22 c17 a w hf H => ?_)
      refine pr 1 hf rfl rfl fun a hf => ?_
      refine wl_end (blk_n (blk_n (then_n (reg (pr 2 hf rfl rfl fun a hf => ?_)))))
      refine wl_end ?_
      have hf := hf.prune [2, 6, 7, 8, 53, 54, 55] rfl
      have H := H.let [false, true] [false, true, true, true] [] [4, 5, 6, 7] rfl rfl rfl rfl
      exact then_n ⟨(adds, w64 (i3 + 1), l3), hR1, A15, c12, E4, A22, c17, E7, hf, H⟩
     ·refine wp_skip (blk_n (blk_n (then_n (reg (pr 2 hf rfl rfl fun a hf => ?_)))))
      refine wl_end ?_
      have hf := hf.prune [2, 6, 7, 8, 53, 54, 55] rfl
      have H := H.let [false, true] [true, true, true] [] [4, 5, 6, 7] rfl rfl rfl rfl
      exact then_n ⟨(adds, w64 (i3 + 1), moves), hR1, A15, c12, E4, A16, c13, E5, hf, H⟩
   ·refine wp_exit (then_x (then_x (blk_e (?_))))
    have hf := hf.prune [2, 6, 7, 8, 53, 54, 55] rfl
    have H := H.let [true] [true, true, true] [] [0, 1, 2, 3] rfl rfl rfl rfl
    exact ⟨(adds, i3, moves), (Option.some.inj hR1).symm, A15, c12, E4, A16, c13, E5, hf, H⟩
  rintro a w ⟨⟨adds2, i4, moves2⟩, rfl, A23, c18, E8, A24, c19, E9, hf, H⟩
  try dsimp only at hF
  refine then_n (sq (reg (pr 3 hf rfl rfl fun a hf => ?_)))
  have H := H.freeze 2 rfl
  have H := H.freeze 0 rfl
  have H := H.freeze 0 rfl
  refine wl0 rfl (op_bslice hf H (.sh false) rfl 65 ([removes2, moves2, adds2] : List (List Action)) [(.slice A14 removes2.length c11), (.slice A24 moves2.length c19), (.slice A23 adds2.length c18)] rfl (fun w => by kernel_rfl) rfl (by decide) rfl trivial (elL [([(.slice A14 removes2.length c11)], (removes2 : List Action)), ([(.slice A24 moves2.length c19)], (moves2 : List Action)), ([(.slice A23 adds2.length c18)], (adds2 : List Action))] (al1 (x := (removes2 : List Action)) (H.get 2 rfl) (al1 (x := (moves2 : List Action)) (H.get 1 rfl) (al1 (x := (adds2 : List Action)) (H.get 0 rfl) al0)))) (by decide) fun A25 a w hf H => ?_)
  have H := H.freeze 0 rfl
  obtain ⟨y7, hy7, hF⟩ := bind_some hF
  refine wl0 rfl (op_call hf TF.cl105 rfl (by decide) (slices_Concat_impl_Action_impl_Action_ok (mk_list (H.get 0 rfl)) hy7) fun v7 w a hp7 hf => ?_)
  obtain ⟨hb7, hp7⟩ := hp7
  obtain ⟨A26, c20, rfl, hl10⟩ := VR_list hp7
  replace hl10 := H.res (f := MP.val [(.slice A26 y7.length c20)] y7) hl10
  have H := H.keep hb7
  have H := H.push (false, MP.val [(.slice A26 y7.length c20)] y7) hl10
  obtain ⟨y8, hy8, hF⟩ := bind_some hF
  refine wl0 rfl (op_call hf TF.cl104 rfl (by decide) (impl_copyActions_ok (S := fun _ => True) (mk_list (rep_true (α := List Action) (H.get 0 rfl))) hy8) fun v8 w a hp8 hf => ?_)
  obtain ⟨hb8, F, hp9, hN⟩ := hp8
  obtain ⟨A27, c21, rfl, hl11⟩ := VO_list hp9
  have H := H.addOwn hb8 (X := [(⟨F, MP.own F [(.slice A27 y8.length c21)] (y8 : List Action)⟩ : DI)]) (by simpa using hN.1) (ps1 hl11 ps0) (by simpa using hN.2)
  have H := H.lend 0 rfl
  refine pr 1 hf rfl rfl fun a hf => ?_
  have hf := hf.prune [14] rfl
  refine wl_end (then_n (sq (sq (reg (pr 3 hf rfl rfl fun a hf => ?_)))))
  refine wl_end (then_n (iteB hF (fun hc9 hF => cd_t hf rfl hc9 ?_) fun hc9 hF => cd_f hf rfl hc9 ?_))
  ·refine sq (reg (pr 2 hf rfl rfl fun a hf => ?_))
   refine wl_end (then_n (wp_ret (then_r (?_))))
   have H := H.ownNil (Action)
   have H := H.lend 0 rfl
   obtain rfl := Option.some.inj hF
   refine ret_2 (fn := Tryz.f43) (r := .tmp 4) (s := .tmp 5) hf rfl (rv_tmp hf rfl) (rv_tmp hf rfl) ?_
   have hN := H.ends (X := [(⟨[], MP.own [] [(.slice none 0 0)] ([] : List Action)⟩ : DI)])
   simp only [List.flatMap_cons, List.flatMap_nil, List.append_nil, List.append_assoc] at hN
   exact ⟨_, rfl, H.bel, [], _, _, rfl, (mko_list (H.ownAt 0 rfl)), mk_bool, by first | exact hN | simpa using hN⟩
  ·refine wp_skip (then_n (sq (reg (pr 3 hf rfl rfl fun a hf => ?_))))
   refine wl_end (then_n (wp_ret (?_)))
   obtain rfl := Option.some.inj hF
   refine ret_2 (fn := Tryz.f43) (r := .tmp 4) (s := .tmp 5) hf rfl (rv_tmp hf rfl) (rv_tmp hf rfl) ?_
   have hN := H.ends (X := [(⟨F, MP.own F [(.slice A27 y8.length c21)] (y8 : List Action)⟩ : DI)])
   simp only [List.flatMap_cons, List.flatMap_nil, List.append_nil, List.append_assoc] at hN
   exact ⟨_, rfl, H.bel, F, _, _, rfl, (mko_list (H.ownAt 0 rfl)), mk_bool, by first | exact hN | simpa using hN⟩

/- loop.example/g00897/laws.eqAction -/
set_option maxHeartbeats 1000000 in
theorem laws_eqAction_ok {fu : Nat} {w0 : World} {S : Nat → Prop} {v0_ : Value} {v1_ : Value} {a' : Action} {b' : Action} {r : Bool} (h0 : VR w0 S v0_ a') (h1 : VR w0 S v1_ b') (hF : laws_eqAction fu a' b' = some r) :
    Calls Tryz.prog 106 [v0_, v1_].toArray w0 fun e w' => ∃ v, e = .returned v ∧ (Below w0.heap.size w0 w' ∧ VR w' (St ⟨w0, []⟩ S [] [] [] true) v r) := by
 obtain ⟨A, c, rfl, hl⟩ := Action_open h0
 obtain ⟨A2, c2, rfl, hl2⟩ := Action_open h1
 have H := Mem.start ⟨w0, []⟩ S
 have H := H.pushArg (MP.val [(.slice A a'.Light.Route.Fibers.length c)] a'.Light.Route.Fibers) hl
 have H := H.pushArg (MP.val [(.slice A2 b'.Light.Route.Fibers.length c2)] b'.Light.Route.Fibers) hl2
 refine enter Tryz.func106 rfl rfl (nle rfl) rfl fun a hf => ?_
 rw [laws_eqAction] at hF
 refine sq (reg (wl0 rfl (op_box hf H rfl rfl (by decide) fun b2 a w hf H => ?_)))
 refine wl0 rfl (op_box hf H rfl rfl (by decide) fun b3 a w hf H => ?_)
 refine pr 1 hf rfl rfl fun a hf => ?_
 refine wl_end (then_n (sq (sq (reg (pr 1 hf rfl rfl fun a hf => ?_)))))
 refine wl0 rfl (op_q hf (rq_loadB hf H TF.ls3 1 rfl rfl rfl) rfl (by decide) fun a hf => ?_)
 refine pr 1 hf rfl rfl fun a hf => ?_
 refine wl0 rfl (op_q hf (rq_loadB hf H TF.ls3 0 rfl rfl rfl) rfl (by decide) fun a hf => ?_)
 refine pr 1 hf rfl rfl fun a hf => ?_
 refine wl_end (then_n (iteB hF (fun hc hF => cd_t hf rfl hc ?_) fun hc hF => cd_f hf rfl hc ?_))
 ·refine sq (reg (pr 1 hf rfl rfl fun a hf => ?_))
  refine wl_end (then_n (wp_ret (then_r (?_))))
  obtain rfl := Option.some.inj hF
  refine ret_1 (fn := Tryz.f106) (r := .tmp 4) hf rfl (rv_tmp hf rfl) ?_
  exact ⟨_, rfl, H.bel, mk_bool⟩
 ·refine wp_skip (then_n (sq (sq (reg (pr 1 hf rfl rfl fun a hf => ?_)))))
  refine wl0 rfl (op_q hf (rq_loadBN hf H TF.la112 1 rfl rfl rfl rfl) rfl (by decide) fun a hf => ?_)
  refine pr 1 hf rfl rfl fun a hf => ?_
  refine wl0 rfl (op_q hf (rq_loadBN hf H TF.la112 0 rfl rfl rfl rfl) rfl (by decide) fun a hf => ?_)
  obtain ⟨y, hy, hF⟩ := bind_some hF
  refine wl0 rfl (op_call hf TF.cl133 rfl (by decide) (laws_eqLight_ok (S := fun _ => True) (Light_mkv (x := a'.Light) (rep_true (α := List Int) (H.get 1 rfl))) (Light_mkv (x := b'.Light) (rep_true (α := List Int) (H.get 0 rfl))) hy) fun v w a hp hf => ?_)
  obtain ⟨hb, hp⟩ := hp
  obtain rfl := VR_bool hp
  have H := H.keep hb
  refine pr 1 hf rfl rfl fun a hf => ?_
  have hf := hf.prune [15] rfl
  refine wl_end (then_n (iteB hF (fun hc2 hF => cd_t hf rfl hc2 ?_) fun hc2 hF => cd_f hf rfl hc2 ?_))
  ·refine sq (reg (pr 1 hf rfl rfl fun a hf => ?_))
   refine wl_end (then_n (wp_ret (then_r (?_))))
   obtain rfl := Option.some.inj hF
   refine ret_1 (fn := Tryz.f106) (r := .tmp 4) hf rfl (rv_tmp hf rfl) ?_
   exact ⟨_, rfl, H.bel, mk_bool⟩
  ·refine wp_skip (then_n (sq (reg (pr 1 hf rfl rfl fun a hf => ?_))))
   refine wl_end (then_n (wp_ret (?_)))
   obtain rfl := Option.some.inj hF
   refine ret_1 (fn := Tryz.f106) (r := .tmp 4) hf rfl (rv_tmp hf rfl) ?_
   exact ⟨_, rfl, H.bel, mk_bool⟩

/- loop.example/g00897/laws.eqActionS -/
set_option maxHeartbeats 1000000 in
theorem laws_eqActionS_ok {fu : Nat} {w0 : World} {S : Nat → Prop} {v0_ : Value} {v1_ : Value} {a' : List Action} {b' : List Action} {r : Bool} (h0 : VR w0 S v0_ a') (h1 : VR w0 S v1_ b') (hF : laws_eqActionS fu a' b' = some r) :
    Calls Tryz.prog 44 [v0_, v1_].toArray w0 fun e w' => ∃ v, e = .returned v ∧ (Below w0.heap.size w0 w' ∧ VR w' (St ⟨w0, []⟩ S [] [] [] true) v r) := by
 obtain ⟨A, c, rfl, hl⟩ := VR_list h0
 obtain ⟨A2, c2, rfl, hl2⟩ := VR_list h1
 have H := Mem.start ⟨w0, []⟩ S
 have H := H.pushArg (MP.val [(.slice A a'.length c)] a') hl
 have H := H.pushArg (MP.val [(.slice A2 b'.length c2)] b') hl2
 refine enter Tryz.func44 rfl rfl (nle rfl) rfl fun a hf => ?_
 rw [laws_eqActionS] at hF
 refine sq (reg (pr 1 hf rfl rfl fun a hf => ?_))
 refine wl_end (then_n (sq (sq (reg (pr 5 hf rfl rfl fun a hf => ?_)))))
 refine wl_end (then_n (iteB hF (fun hc hF => cd_t hf rfl hc ?_) fun hc hF => cd_f hf rfl hc ?_))
 ·refine sq (reg (pr 1 hf rfl rfl fun a hf => ?_))
  refine wl_end (then_n (wp_ret (then_r (?_))))
  obtain rfl := Option.some.inj hF
  refine ret_1 (fn := Tryz.f44) (r := .tmp 4) hf rfl (rv_tmp hf rfl) ?_
  exact ⟨_, rfl, H.bel, mk_bool⟩
 ·refine wp_skip (then_n (sq (sq (reg (pr 1 hf rfl rfl fun a hf => ?_)))))
  refine wl_end (then_n ?_)
  obtain ⟨out', hB1, hF⟩ := bind_some hF
  have hf := hf.prune [0, 1, 5] rfl
  have H := H.let [] [] [] [0, 1] rfl rfl rfl rfl
  refine loopC (fun (s : Int) (a : Act) (w : World) => match s with | i => Fr a 27 [(0, (.slice A a'.length c)), (1, (.slice A2 b'.length c2)), (5, (.int .i64 i))] ∧ Mem ⟨w0, []⟩ S [] [] [] [(false, MP.val [(.slice A2 b'.length c2)] (b' : List Action)), (false, MP.val [(.slice A a'.length c)] (a' : List Action))] w) (fun k (s : Int) => laws_eqActionS_L1 fu a' b' k s = some out') (fun s => out' = Out.next s) 0 fu hB1 ⟨hf, H⟩ (fun s h => by cases h) ?_ ?_
  ·rintro fk i a w hR1 hI
   replace hR1 : laws_eqActionS_L1 fu a' b' (fk + 1) i = some out' := hR1
   rw [laws_eqActionS_L1] at hR1
   obtain ⟨hf, H⟩ := hI
   refine sq (sq (reg (pr 4 hf rfl rfl fun a hf => ?_)))
   refine wl_end (then_n (iteB hR1 (fun hc2 hR1 => cd_t hf rfl hc2 ?_) fun hc2 hR1 => cd_f hf rfl hc2 ?_))
   ·refine wp_skip (then_n (sq (wp_block (sq (drawn [] (bs := [false, false, false, false, false, false, false, false, false, false]) (fuel := 10) (Checked.mixed Tryz.checked) rfl rfl fun w hb => ?_)))))
    have H := H.keep hb
    refine tp 0 rfl rfl hf (by kernel_rfl) (fun _ => trivial) rfl fun a hf => ?_
    refine tp 1 rfl rfl hf (by kernel_rfl) (fun _ => trivial) rfl fun a hf => ?_
    obtain ⟨e, he, hR1⟩ := bind_some hR1
    obtain ⟨p, o, cs, hx, hr, H⟩ := pre_iaddr H Tryz.underlying65 TF.sz136 1 rfl he
    refine tP 2 rfl rfl rfl rfl hf (by kernel_rfl) (fun _ => trivial) (fun w => rq_iaddrE hf rfl rfl rfl hx w) fun a hf => ?_
    obtain ⟨A3, c3, rfl, hl3⟩ := Action_cells hr
    have H := H.push (false, MP.val [(.slice A3 e.Light.Route.Fibers.length c3)] e.Light.Route.Fibers) hl3
    refine strT (H.let [] [] [] [1] rfl rfl rfl rfl) (fun w H => trivial) fun hS => ?_
    refine tS 3 [] rfl rfl rfl rfl hf (by kernel_rfl) (by kernel_rfl) hS (fun w H => rq_loadIN hf H TF.la136 0 0 rfl rfl rfl rfl) fun a hf => ?_
    refine tp 4 rfl rfl hf (by kernel_rfl) (fun _ => hS) rfl fun a hf => ?_
    refine tp 5 rfl rfl hf (by kernel_rfl) (fun _ => hS) rfl fun a hf => ?_
    obtain ⟨e2, he2, hR1⟩ := bind_some hR1
    obtain ⟨p2, o2, cs2, hx2, hr2, H⟩ := pre_iaddr H Tryz.underlying65 TF.sz136 2 rfl he2
    refine tP 6 rfl rfl rfl rfl hf (by kernel_rfl) (fun _ => hS) (fun w => rq_iaddrE hf rfl rfl rfl hx2 w) fun a hf => ?_
    obtain ⟨A4, c4, rfl, hl4⟩ := Action_cells hr2
    have H := H.push (false, MP.val [(.slice A4 e2.Light.Route.Fibers.length c4)] e2.Light.Route.Fibers) hl4
    refine strT (H.let [] [] [] [1, 3] rfl rfl rfl rfl) (fun w H => H.let [] [] [] [1] rfl rfl rfl rfl) fun hS => ?_
    refine tS 7 [] rfl rfl rfl rfl hf (by kernel_rfl) (by kernel_rfl) hS (fun w H => rq_loadIN hf H TF.la136 0 0 rfl rfl rfl rfl) fun a hf => ?_
    obtain ⟨y, hy, hR1⟩ := bind_some hR1
    refine n1 8 (by kernel_rfl) rfl rfl (op_call hf TF.cl106 rfl (by decide) (laws_eqAction_ok (S := fun _ => True) (Action_mkv (x := e) (rep_true (α := List Int) (H.get 2 rfl))) (Action_mkv (x := e2) (rep_true (α := List Int) (H.get 0 rfl))) hy) fun v w a hp hf => ?_)
    obtain ⟨hb, hp⟩ := hp
    obtain rfl := VR_bool hp
    have H := H.keep hb
    have hS := H.let [] [] [] [1, 3] rfl rfl rfl rfl
    refine ⟨fun _ => hS, ?_⟩
    refine tp 9 rfl rfl hf (by kernel_rfl) (fun _ => hS) rfl fun a hf => ?_
    refine dn (by kernel_rfl) ?_
    have hf := hf.prune [0, 1, 5, 26] rfl
    refine then_n (iteB hR1 (fun hc3 hR1 => cd_t hf rfl hc3 ?_) fun hc3 hR1 => cd_f hf rfl hc3 ?_)
    ·refine sq (reg (pr 1 hf rfl rfl fun a hf => ?_))
     refine wl_end (then_n (wp_ret (blk_r (then_r (then_r (blk_r (then_r (then_r (?_)))))))))
     obtain rfl := Option.some.inj hR1
     replace hF := on_ret hF
     obtain rfl := Option.some.inj hF
     refine ret_1 (fn := Tryz.f44) (r := .tmp 4) hf rfl (rv_tmp hf rfl) ?_
     exact ⟨_, rfl, H.bel, mk_bool⟩
    ·refine wp_skip (blk_n (then_n (reg (pr 3 hf rfl rfl fun a hf => ?_))))
     refine wl_end ?_
     have hf := hf.prune [0, 1, 5] rfl
     have H := H.let [] [] [] [4, 5] rfl rfl rfl rfl
     exact then_n ⟨w64 (i + 1), hR1, hf, H⟩
   ·refine wp_exit (then_x (then_x (blk_e (?_))))
    have hf := hf.prune [0, 1, 5] rfl
    have H := H.let [] [] [] [0, 1] rfl rfl rfl rfl
    exact ⟨i, (Option.some.inj hR1).symm, hf, H⟩
  rintro a w ⟨i2, rfl, hf, H⟩
  replace hF := on_next hF
  refine then_n (sq (reg (pr 1 hf rfl rfl fun a hf => ?_)))
  refine wl_end (then_n (wp_ret (?_)))
  obtain rfl := Option.some.inj hF
  refine ret_1 (fn := Tryz.f44) (r := .tmp 4) hf rfl (rv_tmp hf rfl) ?_
  exact ⟨_, rfl, H.bel, mk_bool⟩

/- loop.example/g00897/laws.markActionS -/
set_option maxHeartbeats 1000000 in
theorem laws_markActionS_ok {fu : Nat} {w0 : World} {S : Nat → Prop} {F : List Nat} {cs : List Value} {v1_ : Value} {a' : List Action} {k' : Int} {r : Int × List Action} (hO : GoTy.own w0 F cs a') (hn : F.Nodup) (h1 : VR w0 S v1_ k') (hF : laws_markActionS fu a' k' = some r) :
    Calls Tryz.prog 45 [(bif GoTy.agg (List Action) then .agg cs.toArray else cs.headD undef), v1_].toArray w0 fun e w' => ∃ v, e = .returned v ∧ (Chg w0 w' F ∧ VR w' (fun _ => True) v r.1 ∧ ∃ F', GoTy.own w' F' cs r.2 ∧ Back w0 w' F F') := by
 obtain rfl := VR_int h1
 obtain ⟨A, c, rfl, hO⟩ := own_list hO
 have H := Mem.startG S hO hn
 obtain ⟨Fs, E, H, -⟩ := H.thaw rfl
 refine enter Tryz.func45 rfl rfl (nle rfl) rfl fun a hf => ?_
 rw [laws_markActionS] at hF
 refine sq (reg (pr 1 hf rfl rfl fun a hf => ?_))
 refine wl_end (then_n (sq (sq (reg (pr 1 hf rfl rfl fun a hf => ?_)))))
 refine wl_end (then_n ?_)
 obtain ⟨out', hB1, hF⟩ := bind_some hF
 have hf := hf.prune [0, 1, 5] rfl
 have hf : Fr a 64 [(0, (.slice A a'.length c)), (1, (.int .i64 k')), (5, (.int .i64 0))] := by first | exact hf | (simp only [List.length_set] at hf; exact hf)
 have H := H.let [] [true] [] [] rfl rfl rfl rfl
 refine loopC (fun (s : List Action × Int × Int) (a : Act) (w : World) => match s with | (a2, k2, i) => ∃ (Fs2 : List (List Nat)), a2.length = a'.length ∧ Fr a 64 [(0, (.slice A a'.length c)), (1, (.int .i64 k2)), (5, (.int .i64 i))] ∧ Mem ⟨w0, F⟩ S [] [⟨.ow Fs2, E, A, c, (a2 : List Action)⟩] [] [] w) (fun k (s : List Action × Int × Int) => laws_markActionS_L1 fu k s.1 s.2.1 s.2.2 = some out') (fun s => out' = s) (a', k', 0) fu hB1 ⟨Fs, rfl, hf, H⟩ (fun s h => by cases h) ?_ ?_
 ·rintro fk ⟨a2, k2, i⟩ a w hR1 hI
  replace hR1 : laws_markActionS_L1 fu (fk + 1) a2 k2 i = some out' := hR1
  rw [laws_markActionS_L1] at hR1
  obtain ⟨Fs2, hlen, hf, H⟩ := hI
  have hf : Fr a 64 [(0, (.slice A a2.length c)), (1, (.int .i64 k2)), (5, (.int .i64 i))] := by rw [hlen]; exact hf
  refine sq (sq (reg (pr 4 hf rfl rfl fun a hf => ?_)))
  refine wl_end (then_n (iteB hR1 (fun hc hR1 => cd_t hf rfl hc ?_) fun hc hR1 => cd_f hf rfl hc ?_))
  ·refine wp_skip (then_n (sq (wp_block (sq (reg (pr 3 hf rfl rfl fun a hf => ?_))))))
   obtain ⟨e, he, hR1⟩ := bind_some hR1
   refine wl0 rfl (op_iaddrR hf H Tryz.underlying65 TF.sz136 0 rfl rfl rfl he (by decide) fun p o cs a hf hA hr hk => ?_)
   have hrk := hr
   obtain ⟨A2, c2, rfl, hl⟩ := Action_cells hr
   have H := H.push (true, MP.val [(.slice A2 e.Light.Route.Fibers.length c2)] e.Light.Route.Fibers) hl
   refine pr 1 hf rfl rfl fun a hf => ?_
   refine wl0 rfl (op_storeR (e' := ({ Kind := k2, Light := e.Light } : Action)) (o := o) (off := 0) hf H TF.sz3 0 rfl rfl rfl rfl rfl (nle rfl) rfl hA he (st_own fun F cs h => by obtain ⟨A0, c0, F0, rfl, rfl, l0⟩ := Action_own h; exact Action_ownmk (x := ({ Kind := k2, Light := e.Light } : Action)) l0) fun w H => ?_)
   replace hf : Fr a 64 [(0, (.slice A a2.length c)), (1, (.int .i64 k2)), (5, (.int .i64 i)), (6, (.int .i64 i)), (7, (.slice A a2.length c)), (8, (.int .i64 (a2.length : Int))), (9, (.bool (decide (i < (a2.length : Int))))), (12, (.slice A a2.length c)), (13, (.int .i64 i)), (14, (.int .i64 k2)), (15, (.pointer (some ⟨p, o + 0, none⟩))), (16, (.pointer (some ⟨p, o + 0, none⟩)))] := hf.prune [0, 1, 5, 6, 7, 8, 9, 12, 13, 14, 15, 16] rfl
   replace hf : Fr a 64 [(0, (.slice A (a2.set (i).toNat ({ Kind := k2, Light := e.Light } : Action)).length c)), (1, (.int .i64 k2)), (5, (.int .i64 i)), (6, (.int .i64 i)), (7, (.slice A (a2.set (i).toNat ({ Kind := k2, Light := e.Light } : Action)).length c)), (8, (.int .i64 (a2.length : Int))), (9, (.bool (decide (i < (a2.length : Int))))), (12, (.slice A (a2.set (i).toNat ({ Kind := k2, Light := e.Light } : Action)).length c)), (13, (.int .i64 i)), (14, (.int .i64 k2)), (15, (.pointer (some ⟨p, o + 0, none⟩))), (16, (.pointer (some ⟨p, o + 0, none⟩)))] := by simpa only [List.length_set, Nat.add_zero] using hf
   refine wl_end (then_n (sq (reg (pr 3 hf rfl rfl fun a hf => ?_))))
   refine wl_end (then_n (sq (reg (pr 3 hf rfl rfl fun a hf => ?_))))
   obtain ⟨e2, he2, hR1⟩ := bind_some hR1
   refine wl0 rfl (op_iaddrR hf H Tryz.underlying65 TF.sz136 0 rfl rfl rfl he2 (by decide) fun p2 o2 cs2 a hf hA2 hr2 hk2 => ?_)
   have hrk2 := hr2
   obtain ⟨A3, c3, rfl, hl2⟩ := Action_cells hr2
   have H := H.push (true, MP.val [(.slice A3 e2.Light.Route.Fibers.length c3)] e2.Light.Route.Fibers) hl2
   refine pr 2 hf rfl rfl fun a hf => ?_
   refine wl0 rfl (op_storeR (e' := ({ Kind := e2.Kind, Light := ({ Id := w64 (k2 + 1), Route := e2.Light.Route, Block := e2.Light.Block } : Light) } : Action)) (o := o2) (off := 1) hf H TF.sz3 0 rfl rfl rfl rfl rfl (nle rfl) rfl hA2 he2 (st_own fun F cs h => by obtain ⟨A0, c0, F0, rfl, rfl, l0⟩ := Action_own h; exact Action_ownmk (x := ({ Kind := e2.Kind, Light := ({ Id := w64 (k2 + 1), Route := e2.Light.Route, Block := e2.Light.Block } : Light) } : Action)) l0) fun w H => ?_)
   replace hf : Fr a 64 [(0, (.slice A (a2.set (i).toNat ({ Kind := k2, Light := e.Light } : Action)).length c)), (1, (.int .i64 (w64 (k2 + 1)))), (5, (.int .i64 i)), (6, (.int .i64 i)), (7, (.slice A (a2.set (i).toNat ({ Kind := k2, Light := e.Light } : Action)).length c)), (8, (.int .i64 (a2.length : Int))), (9, (.bool (decide (i < (a2.length : Int))))), (12, (.slice A (a2.set (i).toNat ({ Kind := k2, Light := e.Light } : Action)).length c)), (13, (.int .i64 i)), (14, (.int .i64 k2)), (15, (.pointer (some ⟨p, o + 0, none⟩))), (16, (.pointer (some ⟨p, o + 0, none⟩))), (17, (.int .i64 k2)), (18, (.int .i64 (w64 (k2 + 1)))), (19, (.slice A (a2.set (i).toNat ({ Kind := k2, Light := e.Light } : Action)).length c)), (20, (.int .i64 i)), (21, (.int .i64 (w64 (k2 + 1)))), (22, (.pointer (some ⟨p2, o2 + 0, none⟩))), (23, (.pointer (some ⟨p2, o2 + 1, none⟩))), (24, (.pointer (some ⟨p2, o2 + 1, none⟩)))] := hf.prune [0, 1, 5, 6, 7, 8, 9, 12, 13, 14, 15, 16, 17, 18, 19, 20, 21, 22, 23, 24] rfl
   replace hf : Fr a 64 [(0, (.slice A ((a2.set (i).toNat ({ Kind := k2, Light := e.Light } : Action)).set (i).toNat ({ Kind := e2.Kind, Light := ({ Id := w64 (k2 + 1), Route := e2.Light.Route, Block := e2.Light.Block } : Light) } : Action)).length c)), (1, (.int .i64 (w64 (k2 + 1)))), (5, (.int .i64 i)), (6, (.int .i64 i)), (7, (.slice A ((a2.set (i).toNat ({ Kind := k2, Light := e.Light } : Action)).set (i).toNat ({ Kind := e2.Kind, Light := ({ Id := w64 (k2 + 1), Route := e2.Light.Route, Block := e2.Light.Block } : Light) } : Action)).length c)), (8, (.int .i64 (a2.length : Int))), (9, (.bool (decide (i < (a2.length : Int))))), (12, (.slice A ((a2.set (i).toNat ({ Kind := k2, Light := e.Light } : Action)).set (i).toNat ({ Kind := e2.Kind, Light := ({ Id := w64 (k2 + 1), Route := e2.Light.Route, Block := e2.Light.Block } : Light) } : Action)).length c)), (13, (.int .i64 i)), (14, (.int .i64 k2)), (15, (.pointer (some ⟨p, o + 0, none⟩))), (16, (.pointer (some ⟨p, o + 0, none⟩))), (17, (.int .i64 k2)), (18, (.int .i64 (w64 (k2 + 1)))), (19, (.slice A ((a2.set (i).toNat ({ Kind := k2, Light := e.Light } : Action)).set (i).toNat ({ Kind := e2.Kind, Light := ({ Id := w64 (k2 + 1), Route := e2.Light.Route, Block := e2.Light.Block } : Light) } : Action)).length c)), (20, (.int .i64 i)), (21, (.int .i64 (w64 (k2 + 1)))), (22, (.pointer (some ⟨p2, o2 + 0, none⟩))), (23, (.pointer (some ⟨p2, o2 + 1, none⟩))), (24, (.pointer (some ⟨p2, o2 + 1, none⟩)))] := by simpa only [List.length_set, Nat.add_zero] using hf
   have hf := hf.prune [0, 1, 5] rfl
   refine wl_end (then_n (sq (reg (pr 3 hf rfl rfl fun a hf => ?_))))
   refine wl_end (then_n (sq (reg (pr 3 hf rfl rfl fun a hf => ?_))))
   obtain ⟨e3, he3, hR1⟩ := bind_some hR1
   refine wl0 rfl (op_iaddrR hf H Tryz.underlying65 TF.sz136 0 rfl rfl rfl he3 (by decide) fun p3 o3 cs3 a hf hA3 hr3 hk3 => ?_)
   have hrk3 := hr3
   obtain ⟨A4, c4, rfl, hl3⟩ := Action_cells hr3
   have H := H.push (true, MP.val [(.slice A4 e3.Light.Route.Fibers.length c4)] e3.Light.Route.Fibers) hl3
   refine pr 3 hf rfl rfl fun a hf => ?_
   refine wl0 rfl (op_storeR (e' := ({ Kind := e3.Kind, Light := ({ Id := e3.Light.Id, Route := ({ Start := w64 ((w64 (k2 + 1)) + 1), Fibers := e3.Light.Route.Fibers } : Route), Block := e3.Light.Block } : Light) } : Action)) (o := o3) (off := 2) hf H TF.sz3 0 rfl rfl rfl rfl rfl (nle rfl) rfl hA3 he3 (st_own fun F cs h => by obtain ⟨A0, c0, F0, rfl, rfl, l0⟩ := Action_own h; exact Action_ownmk (x := ({ Kind := e3.Kind, Light := ({ Id := e3.Light.Id, Route := ({ Start := w64 ((w64 (k2 + 1)) + 1), Fibers := e3.Light.Route.Fibers } : Route), Block := e3.Light.Block } : Light) } : Action)) l0) fun w H => ?_)
   replace hf : Fr a 64 [(0, (.slice A ((a2.set (i).toNat ({ Kind := k2, Light := e.Light } : Action)).set (i).toNat ({ Kind := e2.Kind, Light := ({ Id := w64 (k2 + 1), Route := e2.Light.Route, Block := e2.Light.Block } : Light) } : Action)).length c)), (1, (.int .i64 (w64 ((w64 (k2 + 1)) + 1)))), (5, (.int .i64 i)), (25, (.int .i64 (w64 (k2 + 1)))), (26, (.int .i64 (w64 ((w64 (k2 + 1)) + 1)))), (27, (.slice A ((a2.set (i).toNat ({ Kind := k2, Light := e.Light } : Action)).set (i).toNat ({ Kind := e2.Kind, Light := ({ Id := w64 (k2 + 1), Route := e2.Light.Route, Block := e2.Light.Block } : Light) } : Action)).length c)), (28, (.int .i64 i)), (29, (.int .i64 (w64 ((w64 (k2 + 1)) + 1)))), (30, (.pointer (some ⟨p3, o3 + 0, none⟩))), (31, (.pointer (some ⟨p3, o3 + 1, none⟩))), (32, (.pointer (some ⟨p3, o3 + 2, none⟩))), (33, (.pointer (some ⟨p3, o3 + 2, none⟩)))] := hf.prune [0, 1, 5, 25, 26, 27, 28, 29, 30, 31, 32, 33] rfl
   replace hf : Fr a 64 [(0, (.slice A (((a2.set (i).toNat ({ Kind := k2, Light := e.Light } : Action)).set (i).toNat ({ Kind := e2.Kind, Light := ({ Id := w64 (k2 + 1), Route := e2.Light.Route, Block := e2.Light.Block } : Light) } : Action)).set (i).toNat ({ Kind := e3.Kind, Light := ({ Id := e3.Light.Id, Route := ({ Start := w64 ((w64 (k2 + 1)) + 1), Fibers := e3.Light.Route.Fibers } : Route), Block := e3.Light.Block } : Light) } : Action)).length c)), (1, (.int .i64 (w64 ((w64 (k2 + 1)) + 1)))), (5, (.int .i64 i)), (25, (.int .i64 (w64 (k2 + 1)))), (26, (.int .i64 (w64 ((w64 (k2 + 1)) + 1)))), (27, (.slice A (((a2.set (i).toNat ({ Kind := k2, Light := e.Light } : Action)).set (i).toNat ({ Kind := e2.Kind, Light := ({ Id := w64 (k2 + 1), Route := e2.Light.Route, Block := e2.Light.Block } : Light) } : Action)).set (i).toNat ({ Kind := e3.Kind, Light := ({ Id := e3.Light.Id, Route := ({ Start := w64 ((w64 (k2 + 1)) + 1), Fibers := e3.Light.Route.Fibers } : Route), Block := e3.Light.Block } : Light) } : Action)).length c)), (28, (.int .i64 i)), (29, (.int .i64 (w64 ((w64 (k2 + 1)) + 1)))), (30, (.pointer (some ⟨p3, o3 + 0, none⟩))), (31, (.pointer (some ⟨p3, o3 + 1, none⟩))), (32, (.pointer (some ⟨p3, o3 + 2, none⟩))), (33, (.pointer (some ⟨p3, o3 + 2, none⟩)))] := by simpa only [List.length_set, Nat.add_zero] using hf
   refine wl_end (then_n (sq (reg (pr 3 hf rfl rfl fun a hf => ?_))))
   refine wl_end (then_n (sq (reg (pr 2 hf rfl rfl fun a hf => ?_))))
   obtain ⟨e4, he4, hR1⟩ := bind_some hR1
   refine wl0 rfl (op_iaddrR hf H Tryz.underlying65 TF.sz136 0 rfl rfl rfl he4 (by decide) fun p4 o4 cs4 a hf hA4 hr4 hk4 => ?_)
   have hrk4 := hr4
   obtain ⟨A5, c5, rfl, hl4⟩ := Action_cells hr4
   have H := H.push (true, MP.val [(.slice A5 e4.Light.Route.Fibers.length c5)] e4.Light.Route.Fibers) hl4
   refine pr 3 hf rfl rfl fun a hf => ?_
   refine wl0 rfl (op_q hf (rq_load1 hf TF.ls44 rfl (hk4 3 _ rfl)) rfl (by decide) fun a hf => ?_)
   refine pr 1 hf rfl rfl fun a hf => ?_
   obtain ⟨y, hy, hR1⟩ := bind_some hR1
   obtain ⟨F2, hO, hNd, hnx⟩ := H.mutEl rfl he4 hA4 hrk4 hk4 Action_lens_Light_Route_Fibers rfl
   refine wl0 rfl (op_call hf TF.cl26 rfl (by decide) (laws_markIntS_ok (S := fun _ => True) (cs := [(.slice A5 e4.Light.Route.Fibers.length c5)]) hO hNd mk_int hy) fun v w a hp hf => ?_)
   obtain ⟨hch, hv, F3, ho, hbk⟩ := hp
   obtain rfl := VR_int hv
   obtain ⟨Fs3, H⟩ := hnx _ _ _ hch ho hbk
   replace hf : Fr a 64 [(0, (.slice A (((a2.set (i).toNat ({ Kind := k2, Light := e.Light } : Action)).set (i).toNat ({ Kind := e2.Kind, Light := ({ Id := w64 (k2 + 1), Route := e2.Light.Route, Block := e2.Light.Block } : Light) } : Action)).set (i).toNat ({ Kind := e3.Kind, Light := ({ Id := e3.Light.Id, Route := ({ Start := w64 ((w64 (k2 + 1)) + 1), Fibers := e3.Light.Route.Fibers } : Route), Block := e3.Light.Block } : Light) } : Action)).length c)), (1, (.int .i64 (w64 ((w64 ((w64 (k2 + 1)) + 1)) + 1)))), (5, (.int .i64 i)), (25, (.int .i64 (w64 (k2 + 1)))), (26, (.int .i64 (w64 ((w64 (k2 + 1)) + 1)))), (27, (.slice A (((a2.set (i).toNat ({ Kind := k2, Light := e.Light } : Action)).set (i).toNat ({ Kind := e2.Kind, Light := ({ Id := w64 (k2 + 1), Route := e2.Light.Route, Block := e2.Light.Block } : Light) } : Action)).set (i).toNat ({ Kind := e3.Kind, Light := ({ Id := e3.Light.Id, Route := ({ Start := w64 ((w64 (k2 + 1)) + 1), Fibers := e3.Light.Route.Fibers } : Route), Block := e3.Light.Block } : Light) } : Action)).length c)), (28, (.int .i64 i)), (29, (.int .i64 (w64 ((w64 (k2 + 1)) + 1)))), (30, (.pointer (some ⟨p3, o3 + 0, none⟩))), (31, (.pointer (some ⟨p3, o3 + 1, none⟩))), (32, (.pointer (some ⟨p3, o3 + 2, none⟩))), (33, (.pointer (some ⟨p3, o3 + 2, none⟩))), (34, (.int .i64 (w64 ((w64 (k2 + 1)) + 1)))), (35, (.int .i64 (w64 ((w64 ((w64 (k2 + 1)) + 1)) + 1)))), (36, (.slice A (((a2.set (i).toNat ({ Kind := k2, Light := e.Light } : Action)).set (i).toNat ({ Kind := e2.Kind, Light := ({ Id := w64 (k2 + 1), Route := e2.Light.Route, Block := e2.Light.Block } : Light) } : Action)).set (i).toNat ({ Kind := e3.Kind, Light := ({ Id := e3.Light.Id, Route := ({ Start := w64 ((w64 (k2 + 1)) + 1), Fibers := e3.Light.Route.Fibers } : Route), Block := e3.Light.Block } : Light) } : Action)).length c)), (37, (.int .i64 i)), (38, (.pointer (some ⟨p4, o4 + 0, none⟩))), (39, (.pointer (some ⟨p4, o4 + 1, none⟩))), (40, (.pointer (some ⟨p4, o4 + 2, none⟩))), (41, (.pointer (some ⟨p4, o4 + 3, none⟩))), (42, (.slice A5 e4.Light.Route.Fibers.length c5)), (43, (.int .i64 (w64 ((w64 ((w64 (k2 + 1)) + 1)) + 1)))), (44, (.int .i64 y.1))] := hf.prune [0, 1, 5, 25, 26, 27, 28, 29, 30, 31, 32, 33, 34, 35, 36, 37, 38, 39, 40, 41, 42, 43, 44] rfl
   replace hf : Fr a 64 [(0, (.slice A ((((a2.set (i).toNat ({ Kind := k2, Light := e.Light } : Action)).set (i).toNat ({ Kind := e2.Kind, Light := ({ Id := w64 (k2 + 1), Route := e2.Light.Route, Block := e2.Light.Block } : Light) } : Action)).set (i).toNat ({ Kind := e3.Kind, Light := ({ Id := e3.Light.Id, Route := ({ Start := w64 ((w64 (k2 + 1)) + 1), Fibers := e3.Light.Route.Fibers } : Route), Block := e3.Light.Block } : Light) } : Action)).set (i).toNat ({ e4 with Light := { e4.Light with Route := { e4.Light.Route with Fibers := y.2 } } })).length c)), (1, (.int .i64 (w64 ((w64 ((w64 (k2 + 1)) + 1)) + 1)))), (5, (.int .i64 i)), (25, (.int .i64 (w64 (k2 + 1)))), (26, (.int .i64 (w64 ((w64 (k2 + 1)) + 1)))), (27, (.slice A ((((a2.set (i).toNat ({ Kind := k2, Light := e.Light } : Action)).set (i).toNat ({ Kind := e2.Kind, Light := ({ Id := w64 (k2 + 1), Route := e2.Light.Route, Block := e2.Light.Block } : Light) } : Action)).set (i).toNat ({ Kind := e3.Kind, Light := ({ Id := e3.Light.Id, Route := ({ Start := w64 ((w64 (k2 + 1)) + 1), Fibers := e3.Light.Route.Fibers } : Route), Block := e3.Light.Block } : Light) } : Action)).set (i).toNat ({ e4 with Light := { e4.Light with Route := { e4.Light.Route with Fibers := y.2 } } })).length c)), (28, (.int .i64 i)), (29, (.int .i64 (w64 ((w64 (k2 + 1)) + 1)))), (30, (.pointer (some ⟨p3, o3 + 0, none⟩))), (31, (.pointer (some ⟨p3, o3 + 1, none⟩))), (32, (.pointer (some ⟨p3, o3 + 2, none⟩))), (33, (.pointer (some ⟨p3, o3 + 2, none⟩))), (34, (.int .i64 (w64 ((w64 (k2 + 1)) + 1)))), (35, (.int .i64 (w64 ((w64 ((w64 (k2 + 1)) + 1)) + 1)))), (36, (.slice A ((((a2.set (i).toNat ({ Kind := k2, Light := e.Light } : Action)).set (i).toNat ({ Kind := e2.Kind, Light := ({ Id := w64 (k2 + 1), Route := e2.Light.Route, Block := e2.Light.Block } : Light) } : Action)).set (i).toNat ({ Kind := e3.Kind, Light := ({ Id := e3.Light.Id, Route := ({ Start := w64 ((w64 (k2 + 1)) + 1), Fibers := e3.Light.Route.Fibers } : Route), Block := e3.Light.Block } : Light) } : Action)).set (i).toNat ({ e4 with Light := { e4.Light with Route := { e4.Light.Route with Fibers := y.2 } } })).length c)), (37, (.int .i64 i)), (38, (.pointer (some ⟨p4, o4 + 0, none⟩))), (39, (.pointer (some ⟨p4, o4 + 1, none⟩))), (40, (.pointer (some ⟨p4, o4 + 2, none⟩))), (41, (.pointer (some ⟨p4, o4 + 3, none⟩))), (42, (.slice A5 e4.Light.Route.Fibers.length c5)), (43, (.int .i64 (w64 ((w64 ((w64 (k2 + 1)) + 1)) + 1)))), (44, (.int .i64 y.1))] := by simpa only [List.length_set, Nat.add_zero] using hf
   refine pr 1 hf rfl rfl fun a hf => ?_
   have hf := hf.prune [0, 1, 5] rfl
   refine wl_end (then_n (sq (reg (pr 3 hf rfl rfl fun a hf => ?_))))
   obtain ⟨e5, he5, hR1⟩ := bind_some hR1
   refine wl0 rfl (op_iaddrR hf H Tryz.underlying65 TF.sz136 0 rfl rfl rfl he5 (by decide) fun p5 o5 cs5 a hf hA5 hr5 hk5 => ?_)
   have hrk5 := hr5
   obtain ⟨A6, c6, rfl, hl5⟩ := Action_cells hr5
   have H := H.push (true, MP.val [(.slice A6 e5.Light.Route.Fibers.length c6)] e5.Light.Route.Fibers) hl5
   refine pr 3 hf rfl rfl fun a hf => ?_
   refine wl0 rfl (op_storeR (e' := ({ Kind := e5.Kind, Light := ({ Id := e5.Light.Id, Route := e5.Light.Route, Block := ({ First := y.1, Count := e5.Light.Block.Count } : Block) } : Light) } : Action)) (o := o5) (off := 4) hf H TF.sz3 0 rfl rfl rfl rfl rfl (nle rfl) rfl hA5 he5 (st_own fun F cs h => by obtain ⟨A0, c0, F0, rfl, rfl, l0⟩ := Action_own h; exact Action_ownmk (x := ({ Kind := e5.Kind, Light := ({ Id := e5.Light.Id, Route := e5.Light.Route, Block := ({ First := y.1, Count := e5.Light.Block.Count } : Block) } : Light) } : Action)) l0) fun w H => ?_)
   replace hf : Fr a 64 [(0, (.slice A ((((a2.set (i).toNat ({ Kind := k2, Light := e.Light } : Action)).set (i).toNat ({ Kind := e2.Kind, Light := ({ Id := w64 (k2 + 1), Route := e2.Light.Route, Block := e2.Light.Block } : Light) } : Action)).set (i).toNat ({ Kind := e3.Kind, Light := ({ Id := e3.Light.Id, Route := ({ Start := w64 ((w64 (k2 + 1)) + 1), Fibers := e3.Light.Route.Fibers } : Route), Block := e3.Light.Block } : Light) } : Action)).set (i).toNat ({ e4 with Light := { e4.Light with Route := { e4.Light.Route with Fibers := y.2 } } })).length c)), (1, (.int .i64 y.1)), (5, (.int .i64 i)), (45, (.slice A ((((a2.set (i).toNat ({ Kind := k2, Light := e.Light } : Action)).set (i).toNat ({ Kind := e2.Kind, Light := ({ Id := w64 (k2 + 1), Route := e2.Light.Route, Block := e2.Light.Block } : Light) } : Action)).set (i).toNat ({ Kind := e3.Kind, Light := ({ Id := e3.Light.Id, Route := ({ Start := w64 ((w64 (k2 + 1)) + 1), Fibers := e3.Light.Route.Fibers } : Route), Block := e3.Light.Block } : Light) } : Action)).set (i).toNat ({ e4 with Light := { e4.Light with Route := { e4.Light.Route with Fibers := y.2 } } })).length c)), (46, (.int .i64 i)), (47, (.int .i64 y.1)), (48, (.pointer (some ⟨p5, o5 + 0, none⟩))), (49, (.pointer (some ⟨p5, o5 + 1, none⟩))), (50, (.pointer (some ⟨p5, o5 + 4, none⟩))), (51, (.pointer (some ⟨p5, o5 + 4, none⟩)))] := hf.prune [0, 1, 5, 45, 46, 47, 48, 49, 50, 51] rfl
   replace hf : Fr a 64 [(0, (.slice A (((((a2.set (i).toNat ({ Kind := k2, Light := e.Light } : Action)).set (i).toNat ({ Kind := e2.Kind, Light := ({ Id := w64 (k2 + 1), Route := e2.Light.Route, Block := e2.Light.Block } : Light) } : Action)).set (i).toNat ({ Kind := e3.Kind, Light := ({ Id := e3.Light.Id, Route := ({ Start := w64 ((w64 (k2 + 1)) + 1), Fibers := e3.Light.Route.Fibers } : Route), Block := e3.Light.Block } : Light) } : Action)).set (i).toNat ({ e4 with Light := { e4.Light with Route := { e4.Light.Route with Fibers := y.2 } } })).set (i).toNat ({ Kind := e5.Kind, Light := ({ Id := e5.Light.Id, Route := e5.Light.Route, Block := ({ First := y.1, Count := e5.Light.Block.Count } : Block) } : Light) } : Action)).length c)), (1, (.int .i64 y.1)), (5, (.int .i64 i)), (45, (.slice A (((((a2.set (i).toNat ({ Kind := k2, Light := e.Light } : Action)).set (i).toNat ({ Kind := e2.Kind, Light := ({ Id := w64 (k2 + 1), Route := e2.Light.Route, Block := e2.Light.Block } : Light) } : Action)).set (i).toNat ({ Kind := e3.Kind, Light := ({ Id := e3.Light.Id, Route := ({ Start := w64 ((w64 (k2 + 1)) + 1), Fibers := e3.Light.Route.Fibers } : Route), Block := e3.Light.Block } : Light) } : Action)).set (i).toNat ({ e4 with Light := { e4.Light with Route := { e4.Light.Route with Fibers := y.2 } } })).set (i).toNat ({ Kind := e5.Kind, Light := ({ Id := e5.Light.Id, Route := e5.Light.Route, Block := ({ First := y.1, Count := e5.Light.Block.Count } : Block) } : Light) } : Action)).length c)), (46, (.int .i64 i)), (47, (.int .i64 y.1)), (48, (.pointer (some ⟨p5, o5 + 0, none⟩))), (49, (.pointer (some ⟨p5, o5 + 1, none⟩))), (50, (.pointer (some ⟨p5, o5 + 4, none⟩))), (51, (.pointer (some ⟨p5, o5 + 4, none⟩)))] := by simpa only [List.length_set, Nat.add_zero] using hf
   refine wl_end (then_n (sq (reg (pr 3 hf rfl rfl fun a hf => ?_))))
   refine wl_end (then_n (sq (reg (pr 3 hf rfl rfl fun a hf => ?_))))
   obtain ⟨e6, he6, hR1⟩ := bind_some hR1
   refine wl0 rfl (op_iaddrR hf H Tryz.underlying65 TF.sz136 0 rfl rfl rfl he6 (by decide) fun p6 o6 cs6 a hf hA6 hr6 hk6 => ?_)
   have hrk6 := hr6
   obtain ⟨A7, c7, rfl, hl6⟩ := Action_cells hr6
   have H := H.push (true, MP.val [(.slice A7 e6.Light.Route.Fibers.length c7)] e6.Light.Route.Fibers) hl6
   refine pr 3 hf rfl rfl fun a hf => ?_
   refine wl0 rfl (op_storeR (e' := ({ Kind := e6.Kind, Light := ({ Id := e6.Light.Id, Route := e6.Light.Route, Block := ({ First := e6.Light.Block.First, Count := w64 (y.1 + 1) } : Block) } : Light) } : Action)) (o := o6) (off := 5) hf H TF.sz3 0 rfl rfl rfl rfl rfl (nle rfl) rfl hA6 he6 (st_own fun F cs h => by obtain ⟨A0, c0, F0, rfl, rfl, l0⟩ := Action_own h; exact Action_ownmk (x := ({ Kind := e6.Kind, Light := ({ Id := e6.Light.Id, Route := e6.Light.Route, Block := ({ First := e6.Light.Block.First, Count := w64 (y.1 + 1) } : Block) } : Light) } : Action)) l0) fun w H => ?_)
   replace hf : Fr a 64 [(0, (.slice A (((((a2.set (i).toNat ({ Kind := k2, Light := e.Light } : Action)).set (i).toNat ({ Kind := e2.Kind, Light := ({ Id := w64 (k2 + 1), Route := e2.Light.Route, Block := e2.Light.Block } : Light) } : Action)).set (i).toNat ({ Kind := e3.Kind, Light := ({ Id := e3.Light.Id, Route := ({ Start := w64 ((w64 (k2 + 1)) + 1), Fibers := e3.Light.Route.Fibers } : Route), Block := e3.Light.Block } : Light) } : Action)).set (i).toNat ({ e4 with Light := { e4.Light with Route := { e4.Light.Route with Fibers := y.2 } } })).set (i).toNat ({ Kind := e5.Kind, Light := ({ Id := e5.Light.Id, Route := e5.Light.Route, Block := ({ First := y.1, Count := e5.Light.Block.Count } : Block) } : Light) } : Action)).length c)), (1, (.int .i64 (w64 (y.1 + 1)))), (5, (.int .i64 i)), (45, (.slice A (((((a2.set (i).toNat ({ Kind := k2, Light := e.Light } : Action)).set (i).toNat ({ Kind := e2.Kind, Light := ({ Id := w64 (k2 + 1), Route := e2.Light.Route, Block := e2.Light.Block } : Light) } : Action)).set (i).toNat ({ Kind := e3.Kind, Light := ({ Id := e3.Light.Id, Route := ({ Start := w64 ((w64 (k2 + 1)) + 1), Fibers := e3.Light.Route.Fibers } : Route), Block := e3.Light.Block } : Light) } : Action)).set (i).toNat ({ e4 with Light := { e4.Light with Route := { e4.Light.Route with Fibers := y.2 } } })).set (i).toNat ({ Kind := e5.Kind, Light := ({ Id := e5.Light.Id, Route := e5.Light.Route, Block := ({ First := y.1, Count := e5.Light.Block.Count } : Block) } : Light) } : Action)).length c)), (46, (.int .i64 i)), (47, (.int .i64 y.1)), (48, (.pointer (some ⟨p5, o5 + 0, none⟩))), (49, (.pointer (some ⟨p5, o5 + 1, none⟩))), (50, (.pointer (some ⟨p5, o5 + 4, none⟩))), (51, (.pointer (some ⟨p5, o5 + 4, none⟩))), (52, (.int .i64 y.1)), (53, (.int .i64 (w64 (y.1 + 1)))), (54, (.slice A (((((a2.set (i).toNat ({ Kind := k2, Light := e.Light } : Action)).set (i).toNat ({ Kind := e2.Kind, Light := ({ Id := w64 (k2 + 1), Route := e2.Light.Route, Block := e2.Light.Block } : Light) } : Action)).set (i).toNat ({ Kind := e3.Kind, Light := ({ Id := e3.Light.Id, Route := ({ Start := w64 ((w64 (k2 + 1)) + 1), Fibers := e3.Light.Route.Fibers } : Route), Block := e3.Light.Block } : Light) } : Action)).set (i).toNat ({ e4 with Light := { e4.Light with Route := { e4.Light.Route with Fibers := y.2 } } })).set (i).toNat ({ Kind := e5.Kind, Light := ({ Id := e5.Light.Id, Route := e5.Light.Route, Block := ({ First := y.1, Count := e5.Light.Block.Count } : Block) } : Light) } : Action)).length c)), (55, (.int .i64 i)), (56, (.int .i64 (w64 (y.1 + 1)))), (57, (.pointer (some ⟨p6, o6 + 0, none⟩))), (58, (.pointer (some ⟨p6, o6 + 1, none⟩))), (59, (.pointer (some ⟨p6, o6 + 4, none⟩))), (60, (.pointer (some ⟨p6, o6 + 5, none⟩)))] := hf.prune [0, 1, 5, 45, 46, 47, 48, 49, 50, 51, 52, 53, 54, 55, 56, 57, 58, 59, 60] rfl
   replace hf : Fr a 64 [(0, (.slice A ((((((a2.set (i).toNat ({ Kind := k2, Light := e.Light } : Action)).set (i).toNat ({ Kind := e2.Kind, Light := ({ Id := w64 (k2 + 1), Route := e2.Light.Route, Block := e2.Light.Block } : Light) } : Action)).set (i).toNat ({ Kind := e3.Kind, Light := ({ Id := e3.Light.Id, Route := ({ Start := w64 ((w64 (k2 + 1)) + 1), Fibers := e3.Light.Route.Fibers } : Route), Block := e3.Light.Block } : Light) } : Action)).set (i).toNat ({ e4 with Light := { e4.Light with Route := { e4.Light.Route with Fibers := y.2 } } })).set (i).toNat ({ Kind := e5.Kind, Light := ({ Id := e5.Light.Id, Route := e5.Light.Route, Block := ({ First := y.1, Count := e5.Light.Block.Count } : Block) } : Light) } : Action)).set (i).toNat ({ Kind := e6.Kind, Light := ({ Id := e6.Light.Id, Route := e6.Light.Route, Block := ({ First := e6.Light.Block.First, Count := w64 (y.1 + 1) } : Block) } : Light) } : Action)).length c)), (1, (.int .i64 (w64 (y.1 + 1)))), (5, (.int .i64 i)), (45, (.slice A ((((((a2.set (i).toNat ({ Kind := k2, Light := e.Light } : Action)).set (i).toNat ({ Kind := e2.Kind, Light := ({ Id := w64 (k2 + 1), Route := e2.Light.Route, Block := e2.Light.Block } : Light) } : Action)).set (i).toNat ({ Kind := e3.Kind, Light := ({ Id := e3.Light.Id, Route := ({ Start := w64 ((w64 (k2 + 1)) + 1), Fibers := e3.Light.Route.Fibers } : Route), Block := e3.Light.Block } : Light) } : Action)).set (i).toNat ({ e4 with Light := { e4.Light with Route := { e4.Light.Route with Fibers := y.2 } } })).set (i).toNat ({ Kind := e5.Kind, Light := ({ Id := e5.Light.Id, Route := e5.Light.Route, Block := ({ First := y.1, Count := e5.Light.Block.Count } : Block) } : Light) } : Action)).set (i).toNat ({ Kind := e6.Kind, Light := ({ Id := e6.Light.Id, Route := e6.Light.Route, Block := ({ First := e6.Light.Block.First, Count := w64 (y.1 + 1) } : Block) } : Light) } : Action)).length c)), (46, (.int .i64 i)), (47, (.int .i64 y.1)), (48, (.pointer (some ⟨p5, o5 + 0, none⟩))), (49, (.pointer (some ⟨p5, o5 + 1, none⟩))), (50, (.pointer (some ⟨p5, o5 + 4, none⟩))), (51, (.pointer (some ⟨p5, o5 + 4, none⟩))), (52, (.int .i64 y.1)), (53, (.int .i64 (w64 (y.1 + 1)))), (54, (.slice A ((((((a2.set (i).toNat ({ Kind := k2, Light := e.Light } : Action)).set (i).toNat ({ Kind := e2.Kind, Light := ({ Id := w64 (k2 + 1), Route := e2.Light.Route, Block := e2.Light.Block } : Light) } : Action)).set (i).toNat ({ Kind := e3.Kind, Light := ({ Id := e3.Light.Id, Route := ({ Start := w64 ((w64 (k2 + 1)) + 1), Fibers := e3.Light.Route.Fibers } : Route), Block := e3.Light.Block } : Light) } : Action)).set (i).toNat ({ e4 with Light := { e4.Light with Route := { e4.Light.Route with Fibers := y.2 } } })).set (i).toNat ({ Kind := e5.Kind, Light := ({ Id := e5.Light.Id, Route := e5.Light.Route, Block := ({ First := y.1, Count := e5.Light.Block.Count } : Block) } : Light) } : Action)).set (i).toNat ({ Kind := e6.Kind, Light := ({ Id := e6.Light.Id, Route := e6.Light.Route, Block := ({ First := e6.Light.Block.First, Count := w64 (y.1 + 1) } : Block) } : Light) } : Action)).length c)), (55, (.int .i64 i)), (56, (.int .i64 (w64 (y.1 + 1)))), (57, (.pointer (some ⟨p6, o6 + 0, none⟩))), (58, (.pointer (some ⟨p6, o6 + 1, none⟩))), (59, (.pointer (some ⟨p6, o6 + 4, none⟩))), (60, (.pointer (some ⟨p6, o6 + 5, none⟩)))] := by simpa only [List.length_set, Nat.add_zero] using hf
   have hf := hf.prune [0, 1, 5] rfl
   refine wl_end (then_n (reg (pr 3 hf rfl rfl fun a hf => ?_)))
   refine wl_end (blk_n (then_n (reg (pr 3 hf rfl rfl fun a hf => ?_))))
   refine wl_end ?_
   have hf := hf.prune [0, 1, 5] rfl
   have hf : Fr a 64 [(0, (.slice A a'.length c)), (1, (.int .i64 (w64 ((w64 (y.1 + 1)) + 1)))), (5, (.int .i64 (w64 (i + 1))))] := by first | exact hf | (simp only [List.length_set, hlen] at hf; exact hf)
   have H := H.let [] [true] [] [] rfl rfl rfl rfl
   exact then_n ⟨((((((a2.set (i).toNat ({ Kind := k2, Light := e.Light } : Action)).set (i).toNat ({ Kind := e2.Kind, Light := ({ Id := w64 (k2 + 1), Route := e2.Light.Route, Block := e2.Light.Block } : Light) } : Action)).set (i).toNat ({ Kind := e3.Kind, Light := ({ Id := e3.Light.Id, Route := ({ Start := w64 ((w64 (k2 + 1)) + 1), Fibers := e3.Light.Route.Fibers } : Route), Block := e3.Light.Block } : Light) } : Action)).set (i).toNat ({ e4 with Light := { e4.Light with Route := { e4.Light.Route with Fibers := y.2 } } })).set (i).toNat ({ Kind := e5.Kind, Light := ({ Id := e5.Light.Id, Route := e5.Light.Route, Block := ({ First := y.1, Count := e5.Light.Block.Count } : Block) } : Light) } : Action)).set (i).toNat ({ Kind := e6.Kind, Light := ({ Id := e6.Light.Id, Route := e6.Light.Route, Block := ({ First := e6.Light.Block.First, Count := w64 (y.1 + 1) } : Block) } : Light) } : Action), w64 ((w64 (y.1 + 1)) + 1), w64 (i + 1)), hR1, Fs3, (by simp only [List.length_set, hlen]), hf, H⟩
  ·refine wp_exit (then_x (then_x (blk_e (?_))))
   have hf := hf.prune [0, 1, 5] rfl
   have hf : Fr a 64 [(0, (.slice A a'.length c)), (1, (.int .i64 k2)), (5, (.int .i64 i))] := by first | exact hf | (simp only [List.length_set, hlen] at hf; exact hf)
   have H := H.let [] [true] [] [] rfl rfl rfl rfl
   exact ⟨(a2, k2, i), (Option.some.inj hR1).symm, Fs2, (by simp only [List.length_set, hlen]), hf, H⟩
 rintro a w ⟨⟨a3, k3, i2⟩, rfl, Fs4, hlen, hf, H⟩
 try dsimp only at hlen
 have hf : Fr a 64 [(0, (.slice A a3.length c)), (1, (.int .i64 k3)), (5, (.int .i64 i2))] := by rw [hlen]; exact hf
 try dsimp only at hF
 refine then_n (sq (reg (pr 2 hf rfl rfl fun a hf => ?_)))
 refine wl_end (then_n (wp_ret (?_)))
 obtain ⟨F', H⟩ := H.freezeOwn 0 rfl
 rw [hlen] at H
 obtain rfl := Option.some.inj hF
 refine ret_1 (fn := Tryz.f45) (r := .tmp 4) hf rfl (rv_tmp hf rfl) ?_
 exact ⟨_, rfl, H.chg, mk_int, _, H.ownAt 0 rfl, H.back⟩

/- loop.example/g00897/laws.heldActionS -/
set_option maxHeartbeats 1000000 in
theorem laws_heldActionS_ok {fu : Nat} {w0 : World} {S : Nat → Prop} {v0_ : Value} {v1_ : Value} {a' : List Action} {k' : Int} {r : Int} (h0 : VR w0 S v0_ a') (h1 : VR w0 S v1_ k') (hF : laws_heldActionS fu a' k' = some r) :
    Calls Tryz.prog 46 [v0_, v1_].toArray w0 fun e w' => ∃ v, e = .returned v ∧ (Below w0.heap.size w0 w' ∧ VR w' (St ⟨w0, []⟩ S [] [] [] true) v r) := by
 obtain ⟨A, c, rfl, hl⟩ := VR_list h0
 obtain rfl := VR_int h1
 have H := Mem.start ⟨w0, []⟩ S
 have H := H.pushArg (MP.val [(.slice A a'.length c)] a') hl
 refine enter Tryz.func46 rfl rfl (nle rfl) rfl fun a hf => ?_
 rw [laws_heldActionS] at hF
 refine sq (reg (pr 1 hf rfl rfl fun a hf => ?_))
 refine wl_end (then_n (sq (sq (reg (pr 1 hf rfl rfl fun a hf => ?_)))))
 refine wl_end (then_n ?_)
 obtain ⟨out', hB1, hF⟩ := bind_some hF
 have hf := hf.prune [0, 1, 5] rfl
 have H := H.let [] [] [] [0] rfl rfl rfl rfl
 refine loopC (fun (s : Int × Int) (a : Act) (w : World) => match s with | (k2, i) => Fr a 76 [(0, (.slice A a'.length c)), (1, (.int .i64 k2)), (5, (.int .i64 i))] ∧ Mem ⟨w0, []⟩ S [] [] [] [(false, MP.val [(.slice A a'.length c)] (a' : List Action))] w) (fun k (s : Int × Int) => laws_heldActionS_L1 fu a' k s.1 s.2 = some out') (fun s => out' = Out.next s) (k', 0) fu hB1 ⟨hf, H⟩ (fun s h => by cases h) ?_ ?_
 ·rintro fk ⟨k2, i⟩ a w hR1 hI
  replace hR1 : laws_heldActionS_L1 fu a' (fk + 1) k2 i = some out' := hR1
  rw [laws_heldActionS_L1] at hR1
  obtain ⟨hf, H⟩ := hI
  refine sq (sq (reg (pr 4 hf rfl rfl fun a hf => ?_)))
  refine wl_end (then_n (iteB hR1 (fun hc hR1 => cd_t hf rfl hc ?_) fun hc hR1 => cd_f hf rfl hc ?_))
  ·refine wp_skip (then_n (sq (wp_block (sq (sq (reg (pr 2 hf rfl rfl fun a hf => ?_)))))))
   obtain ⟨e, he, hR1⟩ := bind_some hR1
   refine wl0 rfl (op_iaddr hf H Tryz.underlying65 TF.sz136 0 rfl rfl rfl he (by decide) fun p o cs a hf hr H => ?_)
   obtain ⟨A2, c2, rfl, hl2⟩ := Action_cells hr
   have H := H.push (false, MP.val [(.slice A2 e.Light.Route.Fibers.length c2)] e.Light.Route.Fibers) hl2
   refine pr 1 hf rfl rfl fun a hf => ?_
   refine wl0 rfl (op_q hf (rq_loadI hf H TF.ls3 1 0 rfl rfl rfl) rfl (by decide) fun a hf => ?_)
   refine pr 2 hf rfl rfl fun a hf => ?_
   refine wl_end (then_n (iteB hR1 (fun hc2 hR1 => cd_t hf rfl hc2 ?_) fun hc2 hR1 => cd_f hf rfl hc2 ?_))
   ·refine sq (reg (pr 1 hf rfl rfl fun a hf => ?_))
    have hf := hf.prune [4] rfl
    refine wl_end (then_n (wp_ret (then_r (blk_r (then_r (then_r (blk_r (then_r (then_r (?_))))))))))
    obtain rfl := Option.some.inj hR1
    replace hF := on_ret hF
    obtain rfl := Option.some.inj hF
    refine ret_1 (fn := Tryz.f46) (r := .tmp 4) hf rfl (rv_tmp hf rfl) ?_
    exact ⟨_, rfl, H.bel, mk_int⟩
   ·refine wp_skip (then_n (sq (reg (pr 3 hf rfl rfl fun a hf => ?_))))
    have hf := hf.prune [0, 1, 5] rfl
    refine wl_end (then_n (sq (sq (reg (pr 2 hf rfl rfl fun a hf => ?_)))))
    obtain ⟨e2, he2, hR1⟩ := bind_some hR1
    refine wl0 rfl (op_iaddr hf H Tryz.underlying65 TF.sz136 2 rfl rfl rfl he2 (by decide) fun p2 o2 cs2 a hf hr2 H => ?_)
    obtain ⟨A3, c3, rfl, hl3⟩ := Action_cells hr2
    have H := H.push (false, MP.val [(.slice A3 e2.Light.Route.Fibers.length c3)] e2.Light.Route.Fibers) hl3
    refine pr 2 hf rfl rfl fun a hf => ?_
    refine wl0 rfl (op_q hf (rq_loadI hf H TF.ls3 1 1 rfl rfl rfl) rfl (by decide) fun a hf => ?_)
    refine pr 2 hf rfl rfl fun a hf => ?_
    refine wl_end (then_n (iteB hR1 (fun hc3 hR1 => cd_t hf rfl hc3 ?_) fun hc3 hR1 => cd_f hf rfl hc3 ?_))
    ·refine sq (reg (pr 1 hf rfl rfl fun a hf => ?_))
     refine wl_end (then_n (wp_ret (then_r (blk_r (then_r (then_r (blk_r (then_r (then_r (?_))))))))))
     obtain rfl := Option.some.inj hR1
     replace hF := on_ret hF
     obtain rfl := Option.some.inj hF
     refine ret_1 (fn := Tryz.f46) (r := .tmp 4) hf rfl (rv_tmp hf rfl) ?_
     exact ⟨_, rfl, H.bel, mk_int⟩
    ·refine wp_skip (then_n (sq (reg (pr 3 hf rfl rfl fun a hf => ?_))))
     refine wl_end (then_n (sq (sq (reg (pr 2 hf rfl rfl fun a hf => ?_)))))
     obtain ⟨e3, he3, hR1⟩ := bind_some hR1
     refine wl0 rfl (op_iaddr hf H Tryz.underlying65 TF.sz136 4 rfl rfl rfl he3 (by decide) fun p3 o3 cs3 a hf hr3 H => ?_)
     obtain ⟨A4, c4, rfl, hl4⟩ := Action_cells hr3
     have H := H.push (false, MP.val [(.slice A4 e3.Light.Route.Fibers.length c4)] e3.Light.Route.Fibers) hl4
     refine pr 3 hf rfl rfl fun a hf => ?_
     refine wl0 rfl (op_q hf (rq_loadI hf H TF.ls3 1 2 rfl rfl rfl) rfl (by decide) fun a hf => ?_)
     refine pr 2 hf rfl rfl fun a hf => ?_
     have hf := hf.prune [0, 1, 5, 39] rfl
     refine wl_end (then_n (iteB hR1 (fun hc4 hR1 => cd_t hf rfl hc4 ?_) fun hc4 hR1 => cd_f hf rfl hc4 ?_))
     ·refine sq (reg (pr 1 hf rfl rfl fun a hf => ?_))
      refine wl_end (then_n (wp_ret (then_r (blk_r (then_r (then_r (blk_r (then_r (then_r (?_))))))))))
      obtain rfl := Option.some.inj hR1
      replace hF := on_ret hF
      obtain rfl := Option.some.inj hF
      refine ret_1 (fn := Tryz.f46) (r := .tmp 4) hf rfl (rv_tmp hf rfl) ?_
      exact ⟨_, rfl, H.bel, mk_int⟩
     ·refine wp_skip (then_n (sq (reg (pr 3 hf rfl rfl fun a hf => ?_))))
      refine wl_end (then_n (sq (reg (pr 2 hf rfl rfl fun a hf => ?_))))
      obtain ⟨e4, he4, hR1⟩ := bind_some hR1
      refine wl0 rfl (op_iaddr hf H Tryz.underlying65 TF.sz136 6 rfl rfl rfl he4 (by decide) fun p4 o4 cs4 a hf hr4 H => ?_)
      obtain ⟨A5, c5, rfl, hl5⟩ := Action_cells hr4
      have H := H.push (false, MP.val [(.slice A5 e4.Light.Route.Fibers.length c5)] e4.Light.Route.Fibers) hl5
      refine pr 3 hf rfl rfl fun a hf => ?_
      refine wl0 rfl (op_q hf (rq_loadI hf H TF.ls44 1 3 rfl rfl rfl) rfl (by decide) fun a hf => ?_)
      refine pr 1 hf rfl rfl fun a hf => ?_
      obtain ⟨y, hy, hR1⟩ := bind_some hR1
      refine wl0 rfl (op_call hf TF.cl27 rfl (by decide) (laws_heldIntS_ok (S := fun _ => True) (mk_list (rep_true (α := List Int) (H.get 0 rfl))) mk_int hy) fun v w a hp hf => ?_)
      obtain ⟨hb, hp⟩ := hp
      obtain rfl := VR_int hp
      have H := H.keep hb
      refine pr 1 hf rfl rfl fun a hf => ?_
      refine wl_end (then_n (sq (sq (reg (pr 2 hf rfl rfl fun a hf => ?_)))))
      have hf := hf.prune [0, 1, 5, 52] rfl
      refine wl_end (then_n (iteB hR1 (fun hc5 hR1 => cd_t hf rfl hc5 ?_) fun hc5 hR1 => cd_f hf rfl hc5 ?_))
      ·refine sq (reg (pr 1 hf rfl rfl fun a hf => ?_))
       refine wl_end (then_n (wp_ret (then_r (blk_r (then_r (then_r (blk_r (then_r (then_r (?_))))))))))
       obtain rfl := Option.some.inj hR1
       replace hF := on_ret hF
       obtain rfl := Option.some.inj hF
       refine ret_1 (fn := Tryz.f46) (r := .tmp 4) hf rfl (rv_tmp hf rfl) ?_
       exact ⟨_, rfl, H.bel, mk_int⟩
      ·refine wp_skip (then_n (sq (sq (reg (pr 2 hf rfl rfl fun a hf => ?_)))))
       obtain ⟨e5, he5, hR1⟩ := bind_some hR1
       refine wl0 rfl (op_iaddr hf H Tryz.underlying65 TF.sz136 8 rfl rfl rfl he5 (by decide) fun p5 o5 cs5 a hf hr5 H => ?_)
       obtain ⟨A6, c6, rfl, hl6⟩ := Action_cells hr5
       have H := H.push (false, MP.val [(.slice A6 e5.Light.Route.Fibers.length c6)] e5.Light.Route.Fibers) hl6
       refine pr 3 hf rfl rfl fun a hf => ?_
       refine wl0 rfl (op_q hf (rq_loadI hf H TF.ls3 1 4 rfl rfl rfl) rfl (by decide) fun a hf => ?_)
       refine pr 2 hf rfl rfl fun a hf => ?_
       refine wl_end (then_n (iteB hR1 (fun hc6 hR1 => cd_t hf rfl hc6 ?_) fun hc6 hR1 => cd_f hf rfl hc6 ?_))
       ·refine sq (reg (pr 1 hf rfl rfl fun a hf => ?_))
        have hf := hf.prune [4] rfl
        refine wl_end (then_n (wp_ret (then_r (blk_r (then_r (then_r (blk_r (then_r (then_r (?_))))))))))
        obtain rfl := Option.some.inj hR1
        replace hF := on_ret hF
        obtain rfl := Option.some.inj hF
        refine ret_1 (fn := Tryz.f46) (r := .tmp 4) hf rfl (rv_tmp hf rfl) ?_
        exact ⟨_, rfl, H.bel, mk_int⟩
       ·refine wp_skip (then_n (sq (reg (pr 3 hf rfl rfl fun a hf => ?_))))
        refine wl_end (then_n (sq (sq (reg (pr 2 hf rfl rfl fun a hf => ?_)))))
        obtain ⟨e6, he6, hR1⟩ := bind_some hR1
        refine wl0 rfl (op_iaddr hf H Tryz.underlying65 TF.sz136 10 rfl rfl rfl he6 (by decide) fun p6 o6 cs6 a hf hr6 H => ?_)
        obtain ⟨A7, c7, rfl, hl7⟩ := Action_cells hr6
        have H := H.push (false, MP.val [(.slice A7 e6.Light.Route.Fibers.length c7)] e6.Light.Route.Fibers) hl7
        refine pr 3 hf rfl rfl fun a hf => ?_
        refine wl0 rfl (op_q hf (rq_loadI hf H TF.ls3 1 5 rfl rfl rfl) rfl (by decide) fun a hf => ?_)
        refine pr 2 hf rfl rfl fun a hf => ?_
        have hf := hf.prune [0, 1, 5, 72] rfl
        refine wl_end (then_n (iteB hR1 (fun hc7 hR1 => cd_t hf rfl hc7 ?_) fun hc7 hR1 => cd_f hf rfl hc7 ?_))
        ·refine sq (reg (pr 1 hf rfl rfl fun a hf => ?_))
         refine wl_end (then_n (wp_ret (then_r (blk_r (then_r (then_r (blk_r (then_r (then_r (?_))))))))))
         obtain rfl := Option.some.inj hR1
         replace hF := on_ret hF
         obtain rfl := Option.some.inj hF
         refine ret_1 (fn := Tryz.f46) (r := .tmp 4) hf rfl (rv_tmp hf rfl) ?_
         exact ⟨_, rfl, H.bel, mk_int⟩
        ·refine wp_skip (then_n (reg (pr 3 hf rfl rfl fun a hf => ?_)))
         refine wl_end (blk_n (then_n (reg (pr 3 hf rfl rfl fun a hf => ?_))))
         refine wl_end ?_
         have hf := hf.prune [0, 1, 5] rfl
         have H := H.let [] [] [] [12] rfl rfl rfl rfl
         exact then_n ⟨(w64 ((w64 (y + 1)) + 1), w64 (i + 1)), hR1, hf, H⟩
  ·refine wp_exit (then_x (then_x (blk_e (?_))))
   have hf := hf.prune [0, 1, 5] rfl
   have H := H.let [] [] [] [0] rfl rfl rfl rfl
   exact ⟨(k2, i), (Option.some.inj hR1).symm, hf, H⟩
 rintro a w ⟨⟨k3, i2⟩, rfl, hf, H⟩
 replace hF := on_next hF
 try dsimp only at hF
 refine then_n (sq (reg (pr 2 hf rfl rfl fun a hf => ?_)))
 refine wl_end (then_n (wp_ret (?_)))
 obtain rfl := Option.some.inj hF
 refine ret_1 (fn := Tryz.f46) (r := .tmp 4) hf rfl (rv_tmp hf rfl) ?_
 exact ⟨_, rfl, H.bel, mk_int⟩

/- loop.example/g00897/laws.FnExactPlanDifference -/
set_option maxHeartbeats 1000000 in
theorem laws_FnExactPlanDifference_ok {fu : Nat} {w0 : World} {S : Nat → Prop} {v0_ : Value} {v1_ : Value} {aP : Plan} {aQ : Plan} {r : Bool} (h0 : VR w0 S v0_ aP) (h1 : VR w0 S v1_ aQ) (hF : laws_FnExactPlanDifference fu aP aQ = some r) :
    Calls Tryz.prog 11 [v0_, v1_].toArray w0 fun e w' => ∃ v, e = .returned v ∧ (Below w0.heap.size w0 w' ∧ VR w' (St ⟨w0, []⟩ S [] [] [] true) v r) := by
 obtain ⟨A, c, A2, c2, A3, c3, rfl, hl, hl2, hl3⟩ := Plan_open h0
 obtain ⟨A4, c4, A5, c5, A6, c6, rfl, hl4, hl5, hl6⟩ := Plan_open h1
 have H := Mem.start ⟨w0, []⟩ S
 have H := H.pushArg (MP.val [(.slice A aP.Network.Nodes.length c)] aP.Network.Nodes) hl
 have H := H.pushArg (MP.val [(.slice A2 aP.Network.Fibers.length c2)] aP.Network.Fibers) hl2
 have H := H.pushArg (MP.val [(.slice A3 aP.Lights.length c3)] aP.Lights) hl3
 have H := H.pushArg (MP.val [(.slice A4 aQ.Network.Nodes.length c4)] aQ.Network.Nodes) hl4
 have H := H.pushArg (MP.val [(.slice A5 aQ.Network.Fibers.length c5)] aQ.Network.Fibers) hl5
 have H := H.pushArg (MP.val [(.slice A6 aQ.Lights.length c6)] aQ.Lights) hl6
 refine enter Tryz.func11 rfl rfl (nle rfl) rfl fun a hf => ?_
 rw [laws_FnExactPlanDifference] at hF
 refine sq (reg (wl0 rfl (op_box hf H rfl rfl (by decide) fun b' a w hf H => ?_)))
 refine wl0 rfl (op_box hf H rfl rfl (by decide) fun b2 a w hf H => ?_)
 refine pr 1 hf rfl rfl fun a hf => ?_
 refine wl_end (then_n (sq (reg (pr 1 hf rfl rfl fun a hf => ?_))))
 refine wl_end (then_n (sq (reg (wl0 rfl (op_q hf (rq_loadBN hf H TF.la28 1 rfl rfl rfl rfl) rfl (by decide) fun a hf => ?_)))))
 refine pr 1 hf rfl rfl fun a hf => ?_
 obtain ⟨y, hy, hF⟩ := bind_some hF
 refine wl0 rfl (op_call hf TF.cl15 rfl (by decide) (laws_szPlan_ok (S := fun _ => True) (Plan_mkv (x := aP) (rep_true (α := List ByteArray) (H.get 5 rfl)) (rep_true (α := List Fiber) (H.get 4 rfl)) (rep_true (α := List Light) (H.get 3 rfl))) mk_int hy) fun v w a hp hf => ?_)
 obtain ⟨hb, hp⟩ := hp
 obtain rfl := VR_int hp
 have H := H.keep hb
 refine pr 1 hf rfl rfl fun a hf => ?_
 refine wl_end (then_n (sq (sq (reg (pr 2 hf rfl rfl fun a hf => ?_)))))
 refine wl_end (then_n (iteB hF (fun hc hF => cd_t hf rfl hc ?_) fun hc hF => cd_f hf rfl hc ?_))
 ·refine sq (reg (pr 1 hf rfl rfl fun a hf => ?_))
  refine wl_end (then_n (wp_ret (then_r (?_))))
  obtain rfl := Option.some.inj hF
  refine ret_1 (fn := Tryz.f11) (r := .tmp 4) hf rfl (rv_tmp hf rfl) ?_
  exact ⟨_, rfl, H.bel, mk_bool⟩
 ·refine wp_skip (then_n (sq (reg (wl0 rfl (op_q hf (rq_loadBN hf H TF.la28 0 rfl rfl rfl rfl) rfl (by decide) fun a hf => ?_)))))
  refine pr 1 hf rfl rfl fun a hf => ?_
  obtain ⟨y2, hy2, hF⟩ := bind_some hF
  refine wl0 rfl (op_call hf TF.cl15 rfl (by decide) (laws_szPlan_ok (S := fun _ => True) (Plan_mkv (x := aQ) (rep_true (α := List ByteArray) (H.get 2 rfl)) (rep_true (α := List Fiber) (H.get 1 rfl)) (rep_true (α := List Light) (H.get 0 rfl))) mk_int hy2) fun v2 w a hp2 hf => ?_)
  obtain ⟨hb2, hp2⟩ := hp2
  obtain rfl := VR_int hp2
  have H := H.keep hb2
  refine pr 1 hf rfl rfl fun a hf => ?_
  refine wl_end (then_n (sq (sq (reg (pr 2 hf rfl rfl fun a hf => ?_)))))
  have hf := hf.prune [2, 3, 26] rfl
  refine wl_end (then_n (iteB hF (fun hc2 hF => cd_t hf rfl hc2 ?_) fun hc2 hF => cd_f hf rfl hc2 ?_))
  ·refine sq (reg (pr 1 hf rfl rfl fun a hf => ?_))
   refine wl_end (then_n (wp_ret (then_r (?_))))
   obtain rfl := Option.some.inj hF
   refine ret_1 (fn := Tryz.f11) (r := .tmp 4) hf rfl (rv_tmp hf rfl) ?_
   exact ⟨_, rfl, H.bel, mk_bool⟩
  ·refine wp_skip (then_n (sq (drawn [] (bs := [false, false, false, false, false, false, false, false, false, false]) (fuel := 10) (Checked.mixed Tryz.checked) rfl rfl fun w hb => ?_)))
   have H := H.keep hb
   refine strT (H.let [false, true] [] [] [] rfl rfl rfl rfl) (fun w H => trivial) fun hS => ?_
   refine tS 0 [] rfl rfl rfl rfl hf (by kernel_rfl) (by kernel_rfl) hS (fun w H => rq_loadBN hf H TF.la28 0 rfl rfl rfl rfl) fun a hf => ?_
   refine strT (H.let [true, true] [] [] [] rfl rfl rfl rfl) (fun w H => H.let [false, true] [] [] [] rfl rfl rfl rfl) fun hS => ?_
   refine tS 2 [] rfl rfl rfl rfl hf (by kernel_rfl) (by kernel_rfl) hS (fun w H => rq_loadBN hf H TF.la28 0 rfl rfl rfl rfl) fun a hf => ?_
   obtain ⟨y3, hy3, hF⟩ := bind_some hF
   refine n1 1 (by kernel_rfl) rfl rfl (op_call hf TF.cl17 rfl (by decide) (laws_toPlan_ok (S := fun _ => True) (Plan_mkv (x := aP) (rep_true (α := List ByteArray) (H.get 5 rfl)) (rep_true (α := List Fiber) (H.get 4 rfl)) (rep_true (α := List Light) (H.get 3 rfl))) hy3) fun v3 w a hp3 hf => ?_)
   obtain ⟨hb3, F, hp4, hN⟩ := hp3
   obtain ⟨A7, c7, F2, A8, c8, F3, A9, c9, F4, rfl, rfl, hl7, hl8, hl9⟩ := Plan_vo hp4
   have H := H.addOwn hb3 (X := [(⟨F2, MP.own F2 [(.slice A7 y3.Network.Nodes.length c7)] (y3.Network.Nodes : List ByteArray)⟩ : DI), (⟨F3, MP.own F3 [(.slice A8 y3.Network.Fibers.length c8)] (y3.Network.Fibers : List Fiber)⟩ : DI), (⟨F4, MP.own F4 [(.slice A9 y3.Lights.length c9)] (y3.Lights : List Light)⟩ : DI)]) (by simpa using hN.1) (ps1 hl7 (ps1 hl8 (ps1 hl9 ps0))) (by simpa using hN.2)
   have H := H.lend 0 rfl
   have H := H.lend 1 rfl
   have H := H.lend 2 rfl
   have hS := H.let [true, true] [] [false, false, false] [] rfl rfl rfl rfl
   refine ⟨fun _ => hS, ?_⟩
   obtain ⟨y4, hy4, hF⟩ := bind_some hF
   refine n1 3 (by kernel_rfl) rfl rfl (op_call hf TF.cl17 rfl (by decide) (laws_toPlan_ok (S := fun _ => True) (Plan_mkv (x := aQ) (rep_true (α := List ByteArray) (H.get 5 rfl)) (rep_true (α := List Fiber) (H.get 4 rfl)) (rep_true (α := List Light) (H.get 3 rfl))) hy4) fun v4 w a hp5 hf => ?_)
   obtain ⟨hb4, F5, hp6, hN2⟩ := hp5
   obtain ⟨A10, c10, F6, A11, c11, F7, A12, c12, F8, rfl, rfl, hl10, hl11, hl12⟩ := Plan_vo hp6
   have H := H.addOwn hb4 (X := [(⟨F6, MP.own F6 [(.slice A10 y4.Network.Nodes.length c10)] (y4.Network.Nodes : List ByteArray)⟩ : DI), (⟨F7, MP.own F7 [(.slice A11 y4.Network.Fibers.length c11)] (y4.Network.Fibers : List Fiber)⟩ : DI), (⟨F8, MP.own F8 [(.slice A12 y4.Lights.length c12)] (y4.Lights : List Light)⟩ : DI)]) (by simpa using hN2.1) (ps1 hl10 (ps1 hl11 (ps1 hl12 ps0))) (by simpa using hN2.2)
   have H := H.lend 0 rfl
   have H := H.lend 1 rfl
   have H := H.lend 2 rfl
   have hS := H.let [true, true] [] [false, false, false, false, false, false] [] rfl rfl rfl rfl
   refine ⟨fun _ => hS, ?_⟩
   obtain ⟨y5, hy5, hF⟩ := bind_some hF
   refine n1 4 (by kernel_rfl) rfl rfl (op_call hf TF.cl42 rfl (by decide) (spec_PlanDifference_ok (S := fun _ => True) (Plan_mkv (x := y3) (rep_true (α := List ByteArray) (H.get 5 rfl)) (rep_true (α := List Fiber) (H.get 4 rfl)) (rep_true (α := List Light) (H.get 3 rfl))) (Plan_mkv (x := y4) (rep_true (α := List ByteArray) (H.get 2 rfl)) (rep_true (α := List Fiber) (H.get 1 rfl)) (rep_true (α := List Light) (H.get 0 rfl))) hy5) fun v5 w a hp7 hf => ?_)
   obtain ⟨hb5, F9, v6, v7, rfl, hp8, hp9, hN3⟩ := hp7
   obtain ⟨A13, c13, rfl, hl13⟩ := VO_list hp8
   obtain rfl := VR_bool hp9
   have H := H.addOwn hb5 (X := [(⟨F9, MP.own F9 [(.slice A13 y5.1.length c13)] (y5.1 : List Action)⟩ : DI)]) (by simpa using hN3.1) (ps1 hl13 ps0) (by simpa using hN3.2)
   have H := H.lend 0 rfl
   have hS := H.let [true, true] [] [false, false, false, false, false, false, false] [] rfl rfl rfl rfl
   refine ⟨fun _ => hS, ?_⟩
   refine tp 5 rfl rfl hf (by kernel_rfl) (fun _ => hS) rfl fun a hf => ?_
   refine tp 6 rfl rfl hf (by kernel_rfl) (fun _ => hS) rfl fun a hf => ?_
   refine tp 7 rfl rfl hf (by kernel_rfl) (fun _ => hS) rfl fun a hf => ?_
   refine tp 8 rfl rfl hf (by kernel_rfl) (fun _ => hS) rfl fun a hf => ?_
   refine tp 9 rfl rfl hf (by kernel_rfl) (fun _ => hS) rfl fun a hf => ?_
   refine dn (by kernel_rfl) ?_
   refine then_n (sq (reg (wl0 rfl (op_q hf (rq_loadBN hf H TF.la28 1 rfl rfl rfl rfl) rfl (by decide) fun a hf => ?_))))
   obtain ⟨y6, hy6, hF⟩ := bind_some hF
   refine wl0 rfl (op_call hf TF.cl17 rfl (by decide) (laws_toPlan_ok (S := fun _ => True) (Plan_mkv (x := aP) (rep_true (α := List ByteArray) (H.get 12 rfl)) (rep_true (α := List Fiber) (H.get 11 rfl)) (rep_true (α := List Light) (H.get 10 rfl))) hy6) fun v8 w a hp10 hf => ?_)
   obtain ⟨hb6, F11, hp11, hN4⟩ := hp10
   obtain ⟨A14, c14, F12, A15, c15, F13, A16, c16, F14, rfl, rfl, hl14, hl15, hl16⟩ := Plan_vo hp11
   have H := H.addOwn hb6 (X := [(⟨F12, MP.own F12 [(.slice A14 y6.Network.Nodes.length c14)] (y6.Network.Nodes : List ByteArray)⟩ : DI), (⟨F13, MP.own F13 [(.slice A15 y6.Network.Fibers.length c15)] (y6.Network.Fibers : List Fiber)⟩ : DI), (⟨F14, MP.own F14 [(.slice A16 y6.Lights.length c16)] (y6.Lights : List Light)⟩ : DI)]) (by simpa using hN4.1) (ps1 hl14 (ps1 hl15 (ps1 hl16 ps0))) (by simpa using hN4.2)
   have H := H.lend 0 rfl
   have H := H.lend 1 rfl
   have H := H.lend 2 rfl
   refine wl0 rfl (op_alloc hf H TF.zv37 rfl (by decide) fun b3 a w hf H => ?_)
   refine wl0 rfl (op_storeB hf H 0 TF.sz37 rfl rfl rfl rfl rfl rfl (nle rfl) fun w H => ?_)
   refine wl_end (then_n (sq (reg (wl0 rfl (op_q hf (rq_loadBN hf H TF.la28 1 rfl rfl rfl rfl) rfl (by decide) fun a hf => ?_)))))
   obtain ⟨y7, hy7, hF⟩ := bind_some hF
   refine wl0 rfl (op_call hf TF.cl17 rfl (by decide) (laws_toPlan_ok (S := fun _ => True) (Plan_mkv (x := aQ) (rep_true (α := List ByteArray) (H.get 12 rfl)) (rep_true (α := List Fiber) (H.get 11 rfl)) (rep_true (α := List Light) (H.get 10 rfl))) hy7) fun v9 w a hp12 hf => ?_)
   obtain ⟨hb7, F15, hp13, hN5⟩ := hp12
   obtain ⟨A17, c17, F16, A18, c18, F17, A19, c19, F18, rfl, rfl, hl17, hl18, hl19⟩ := Plan_vo hp13
   have H := H.addOwn hb7 (X := [(⟨F16, MP.own F16 [(.slice A17 y7.Network.Nodes.length c17)] (y7.Network.Nodes : List ByteArray)⟩ : DI), (⟨F17, MP.own F17 [(.slice A18 y7.Network.Fibers.length c18)] (y7.Network.Fibers : List Fiber)⟩ : DI), (⟨F18, MP.own F18 [(.slice A19 y7.Lights.length c19)] (y7.Lights : List Light)⟩ : DI)]) (by simpa using hN5.1) (ps1 hl17 (ps1 hl18 (ps1 hl19 ps0))) (by simpa using hN5.2)
   have H := H.lend 0 rfl
   have H := H.lend 1 rfl
   have H := H.lend 2 rfl
   refine wl0 rfl (op_alloc hf H TF.zv37 rfl (by decide) fun b4 a w hf H => ?_)
   refine wl0 rfl (op_storeB hf H 0 TF.sz37 rfl rfl rfl rfl rfl rfl (nle rfl) fun w H => ?_)
   have hf := hf.prune [2, 3, 6, 7, 8, 9] rfl
   refine wl_end (then_n (sq (reg (wl0 rfl (op_q hf (rq_loadBN hf H TF.la37 1 rfl rfl rfl rfl) rfl (by decide) fun a hf => ?_)))))
   refine wl0 rfl (op_q hf (rq_loadBN hf H TF.la37 0 rfl rfl rfl rfl) rfl (by decide) fun a hf => ?_)
   obtain ⟨y8, hy8, hF⟩ := bind_some hF
   refine wl0 rfl (op_call hf TF.cl43 rfl (by decide) (impl_PlanDifference_ok (S := fun _ => True) (Plan_mkv (x := y6) (rep_true (α := List ByteArray) (H.get 5 rfl)) (rep_true (α := List Fiber) (H.get 4 rfl)) (rep_true (α := List Light) (H.get 3 rfl))) (Plan_mkv (x := y7) (rep_true (α := List ByteArray) (H.get 2 rfl)) (rep_true (α := List Fiber) (H.get 1 rfl)) (rep_true (α := List Light) (H.get 0 rfl))) hy8) fun v10 w a hp14 hf => ?_)
   obtain ⟨hb8, F19, v11, v12, rfl, hp15, hp16, hN6⟩ := hp14
   obtain ⟨A20, c20, rfl, hl20⟩ := VO_list hp15
   obtain rfl := VR_bool hp16
   have H := H.addOwn hb8 (X := [(⟨F19, MP.own F19 [(.slice A20 y8.1.length c20)] (y8.1 : List Action)⟩ : DI)]) (by simpa using hN6.1) (ps1 hl20 ps0) (by simpa using hN6.2)
   have H := H.lend 0 rfl
   refine pr 5 hf rfl rfl fun a hf => ?_
   refine wl_end (then_n (sq (sq ?_)))
   obtain ⟨c21, hGc21, hF⟩ := bind_some hF
   have fh := hf.prune [2, 3, 6, 7, 8, 9, 10, 11] rfl
   have Hm := H.let [true, true, true, true] [] [true, true, true, true, true, true, true, true, false, false, false, false, false, false] [0, 1, 2, 3, 4, 5, 6, 7, 14, 15, 16, 17, 18, 19] rfl rfl rfl rfl
   refine midF 53 (.bool c21) fh Hm ?_ fun a w hf H => ?_
   ·refine reg (pr 2 hf rfl rfl fun a hf => ?_)
    obtain ⟨y9, hy9, hGc21⟩ := bind_some hGc21
    refine wl0 rfl (op_call hf TF.cl44 rfl (by decide) (laws_eqActionS_ok (S := fun _ => True) (mk_list (rep_true (α := List Action) (H.get 0 rfl))) (mk_list (rep_true (α := List Action) (H.get 7 rfl))) hy9) fun v13 w a hp17 hf => ?_)
    obtain ⟨hb9, hp17⟩ := hp17
    obtain rfl := VR_bool hp17
    have H := H.keep hb9
    refine pr 2 hf rfl rfl fun a hf => ?_
    refine iteB hGc21 (fun hc3 hGc21 => ?_) fun hc3 hGc21 => ?_
    ·have hf := hf.lit 49 rfl hc3
     refine pr 4 hf rfl rfl fun a hf => ?_
     obtain rfl := Option.some.inj hGc21
     have hf := hf.prune [53, 2, 3, 6, 7, 8, 9, 10, 11] rfl
     have H := H.let [true, true, true, true] [] [true, true, true, true, true, true, true, true, false, false, false, false, false, false] [0, 1, 2, 3, 4, 5, 6, 7, 14, 15, 16, 17, 18, 19] rfl rfl rfl rfl
     exact wl_end ⟨hf, H⟩
    ·have hf := hf.lit 49 rfl hc3
     refine pr 4 hf rfl rfl fun a hf => ?_
     obtain rfl := Option.some.inj hGc21
     have hf := hf.prune [53, 2, 3, 6, 7, 8, 9, 10, 11] rfl
     have H := H.let [true, true, true, true] [] [true, true, true, true, true, true, true, true, false, false, false, false, false, false] [0, 1, 2, 3, 4, 5, 6, 7, 14, 15, 16, 17, 18, 19] rfl rfl rfl rfl
     exact wl_end ⟨hf, H⟩
   refine then_n (iteB hF (fun hc4 hF => cd_t hf rfl hc4 ?_) fun hc4 hF => cd_f hf rfl hc4 ?_)
   ·refine sq (reg (pr 1 hf rfl rfl fun a hf => ?_))
    refine wl_end (then_n (wp_ret (then_r (?_))))
    obtain rfl := Option.some.inj hF
    refine ret_1 (fn := Tryz.f11) (r := .tmp 4) hf rfl (rv_tmp hf rfl) ?_
    exact ⟨_, rfl, H.bel, mk_bool⟩
   ·refine wp_skip (then_n (sq (sq (drawn [] (bs := [false, false, false, false, false]) (fuel := 5) (Checked.mixed Tryz.checked) rfl rfl fun w hb => ?_))))
    have H := H.keep hb
    refine strT (H.let [false, true, false, false] [] [false, false, false, false, false, false, false, false] [] rfl rfl rfl rfl) (fun w H => trivial) fun hS => ?_
    refine tS 0 [] rfl rfl rfl rfl hf (by kernel_rfl) (by kernel_rfl) hS (fun w H => rq_loadBN hf H TF.la37 0 rfl rfl rfl rfl) fun a hf => ?_
    refine strT (H.let [false, true, false, true] [] [false, false, false, false, false, false, false, false] [] rfl rfl rfl rfl) (fun w H => H.let [true, false] [] [] [] rfl rfl rfl rfl) fun hS => ?_
    refine tS 1 [] rfl rfl rfl rfl hf (by kernel_rfl) (by kernel_rfl) hS (fun w H => rq_loadBN hf H TF.la28 1 rfl rfl rfl rfl) fun a hf => ?_
    obtain ⟨y10, hy10, hF⟩ := bind_some hF
    refine n1 2 (by kernel_rfl) rfl rfl (op_call hf TF.cl17 rfl (by decide) (laws_toPlan_ok (S := fun _ => True) (Plan_mkv (x := aP) (rep_true (α := List ByteArray) (H.get 13 rfl)) (rep_true (α := List Fiber) (H.get 12 rfl)) (rep_true (α := List Light) (H.get 11 rfl))) hy10) fun v14 w a hp18 hf => ?_)
    obtain ⟨hb10, F21, hp19, hN7⟩ := hp18
    obtain ⟨A21, c22, F22, A22, c23, F23, A23, c24, F24, rfl, rfl, hl21, hl22, hl23⟩ := Plan_vo hp19
    have H := H.addOwn hb10 (X := [(⟨F22, MP.own F22 [(.slice A21 y10.Network.Nodes.length c22)] (y10.Network.Nodes : List ByteArray)⟩ : DI), (⟨F23, MP.own F23 [(.slice A22 y10.Network.Fibers.length c23)] (y10.Network.Fibers : List Fiber)⟩ : DI), (⟨F24, MP.own F24 [(.slice A23 y10.Lights.length c24)] (y10.Lights : List Light)⟩ : DI)]) (by simpa using hN7.1) (ps1 hl21 (ps1 hl22 (ps1 hl23 ps0))) (by simpa using hN7.2)
    have H := H.lend 0 rfl
    have H := H.lend 1 rfl
    have H := H.lend 2 rfl
    have hS := H.let [false, true, false, true] [] [false, false, false, false, false, false, false, false, false, false, false] [] rfl rfl rfl rfl
    refine ⟨fun _ => hS, ?_⟩
    obtain ⟨y11, hy11, hF⟩ := bind_some hF
    refine n1 3 (by kernel_rfl) rfl rfl (op_call hf TF.cl19 rfl (by decide) (laws_eqPlan_ok (S := fun _ => True) (Plan_mkv (x := y6) (rep_true (α := List ByteArray) (H.get 9 rfl)) (rep_true (α := List Fiber) (H.get 8 rfl)) (rep_true (α := List Light) (H.get 7 rfl))) (Plan_mkv (x := y10) (rep_true (α := List ByteArray) (H.get 2 rfl)) (rep_true (α := List Fiber) (H.get 1 rfl)) (rep_true (α := List Light) (H.get 0 rfl))) hy11) fun v15 w a hp20 hf => ?_)
    obtain ⟨hb11, hp20⟩ := hp20
    obtain rfl := VR_bool hp20
    have H := H.keep hb11
    have hS := H.let [false, true, false, true] [] [false, false, false, false, false, false, false, false, false, false, false] [] rfl rfl rfl rfl
    refine ⟨fun _ => hS, ?_⟩
    refine tp 4 rfl rfl hf (by kernel_rfl) (fun _ => hS) rfl fun a hf => ?_
    refine dn (by kernel_rfl) ?_
    refine then_n (iteB hF (fun hc5 hF => cd_t hf rfl hc5 ?_) fun hc5 hF => cd_f hf rfl hc5 ?_)
    ·refine sq (reg (pr 1 hf rfl rfl fun a hf => ?_))
     have hf := hf.prune [4] rfl
     refine wl_end (then_n (wp_ret (then_r (?_))))
     obtain rfl := Option.some.inj hF
     refine ret_1 (fn := Tryz.f11) (r := .tmp 4) hf rfl (rv_tmp hf rfl) ?_
     exact ⟨_, rfl, H.bel, mk_bool⟩
    ·refine wp_skip (then_n (sq (sq (drawn [] (bs := [false, false, false, false, false]) (fuel := 5) (Checked.mixed Tryz.checked) rfl rfl fun w hb => ?_))))
     have H := H.keep hb
     refine strT (H.let [true, false, false, false] [] [false, false, false, false, false, false, false, false, false, false, false] [] rfl rfl rfl rfl) (fun w H => trivial) fun hS => ?_
     refine tS 0 [] rfl rfl rfl rfl hf (by kernel_rfl) (by kernel_rfl) hS (fun w H => rq_loadBN hf H TF.la37 0 rfl rfl rfl rfl) fun a hf => ?_
     refine strT (H.let [true, false, true, false] [] [false, false, false, false, false, false, false, false, false, false, false] [] rfl rfl rfl rfl) (fun w H => H.let [true, false] [] [] [] rfl rfl rfl rfl) fun hS => ?_
     refine tS 1 [] rfl rfl rfl rfl hf (by kernel_rfl) (by kernel_rfl) hS (fun w H => rq_loadBN hf H TF.la28 1 rfl rfl rfl rfl) fun a hf => ?_
     obtain ⟨y12, hy12, hF⟩ := bind_some hF
     refine n1 2 (by kernel_rfl) rfl rfl (op_call hf TF.cl17 rfl (by decide) (laws_toPlan_ok (S := fun _ => True) (Plan_mkv (x := aQ) (rep_true (α := List ByteArray) (H.get 13 rfl)) (rep_true (α := List Fiber) (H.get 12 rfl)) (rep_true (α := List Light) (H.get 11 rfl))) hy12) fun v16 w a hp21 hf => ?_)
     obtain ⟨hb12, F25, hp22, hN8⟩ := hp21
     obtain ⟨A24, c25, F26, A25, c26, F27, A26, c27, F28, rfl, rfl, hl24, hl25, hl26⟩ := Plan_vo hp22
     have H := H.addOwn hb12 (X := [(⟨F26, MP.own F26 [(.slice A24 y12.Network.Nodes.length c25)] (y12.Network.Nodes : List ByteArray)⟩ : DI), (⟨F27, MP.own F27 [(.slice A25 y12.Network.Fibers.length c26)] (y12.Network.Fibers : List Fiber)⟩ : DI), (⟨F28, MP.own F28 [(.slice A26 y12.Lights.length c27)] (y12.Lights : List Light)⟩ : DI)]) (by simpa using hN8.1) (ps1 hl24 (ps1 hl25 (ps1 hl26 ps0))) (by simpa using hN8.2)
     have H := H.lend 0 rfl
     have H := H.lend 1 rfl
     have H := H.lend 2 rfl
     have hS := H.let [true, false, true, false] [] [false, false, false, false, false, false, false, false, false, false, false, false, false, false] [] rfl rfl rfl rfl
     refine ⟨fun _ => hS, ?_⟩
     obtain ⟨y13, hy13, hF⟩ := bind_some hF
     refine n1 3 (by kernel_rfl) rfl rfl (op_call hf TF.cl19 rfl (by decide) (laws_eqPlan_ok (S := fun _ => True) (Plan_mkv (x := y7) (rep_true (α := List ByteArray) (H.get 9 rfl)) (rep_true (α := List Fiber) (H.get 8 rfl)) (rep_true (α := List Light) (H.get 7 rfl))) (Plan_mkv (x := y12) (rep_true (α := List ByteArray) (H.get 2 rfl)) (rep_true (α := List Fiber) (H.get 1 rfl)) (rep_true (α := List Light) (H.get 0 rfl))) hy13) fun v17 w a hp23 hf => ?_)
     obtain ⟨hb13, hp23⟩ := hp23
     obtain rfl := VR_bool hp23
     have H := H.keep hb13
     have hS := H.let [true, false, true, false] [] [false, false, false, false, false, false, false, false, false, false, false, false, false, false] [] rfl rfl rfl rfl
     refine ⟨fun _ => hS, ?_⟩
     refine tp 4 rfl rfl hf (by kernel_rfl) (fun _ => hS) rfl fun a hf => ?_
     refine dn (by kernel_rfl) ?_
     refine then_n (iteB hF (fun hc6 hF => cd_t hf rfl hc6 ?_) fun hc6 hF => cd_f hf rfl hc6 ?_)
     ·refine sq (reg (pr 1 hf rfl rfl fun a hf => ?_))
      have hf := hf.prune [4] rfl
      refine wl_end (then_n (wp_ret (then_r (?_))))
      obtain rfl := Option.some.inj hF
      refine ret_1 (fn := Tryz.f11) (r := .tmp 4) hf rfl (rv_tmp hf rfl) ?_
      exact ⟨_, rfl, H.bel, mk_bool⟩
     ·refine wp_skip (then_n (sq (reg (pr 1 hf rfl rfl fun a hf => ?_))))
      refine wl_end (then_n (sq (reg (wl0 rfl (op_q hf (rq_loadBN hf H TF.la37 1 rfl rfl rfl rfl) rfl (by decide) fun a hf => ?_)))))
      refine pr 1 hf rfl rfl fun a hf => ?_
      have H := H.frontD 12 rfl
      have H := H.frontD 12 rfl
      have H := H.frontD 12 rfl
      have H := H.recast (X := [(⟨F12, MP.own F12 [(.slice A14 y6.Network.Nodes.length c14)] (y6.Network.Nodes : List ByteArray)⟩ : DI), (⟨F13, MP.own F13 [(.slice A15 y6.Network.Fibers.length c15)] (y6.Network.Fibers : List Fiber)⟩ : DI), (⟨F14, MP.own F14 [(.slice A16 y6.Lights.length c16)] (y6.Lights : List Light)⟩ : DI)]) (Y := [(⟨(F12 ++ (F13 ++ F14)), MP.own (F12 ++ (F13 ++ F14)) [(.slice A14 y6.Network.Nodes.length c14), (.slice A15 y6.Network.Fibers.length c15), (.slice A16 y6.Lights.length c16)] (y6 : Plan)⟩ : DI)]) (List.Perm.of_eq (by simp)) fun _ => ps1 (Plan_ownmk (x := y6) (H.ownAt 0 rfl) (H.ownAt 1 rfl) (H.ownAt 2 rfl)) ps0
      obtain ⟨y14, hy14, hF⟩ := bind_some hF
      refine wl0 rfl (op_call hf TF.cl25 rfl (by decide) (laws_markPlan_ok (S := fun _ => True) (F := (F12 ++ (F13 ++ F14))) (cs := [(.slice A14 y6.Network.Nodes.length c14), (.slice A15 y6.Network.Fibers.length c15), (.slice A16 y6.Lights.length c16)]) (H.ownAt 0 rfl) H.diNd.1 mk_int hy14) fun v18 w a hp24 hf => ?_)
      obtain ⟨hch, hv, F29, ho, hbk⟩ := hp24
      obtain rfl := VR_int hv
      have H := H.wrote rfl hch ho hbk
      obtain ⟨F30, F31, F32, hFe, hl27, hl28, hl29⟩ := Plan_ownc (H.ownAt 0 rfl)
      have H := H.recast (X := [(⟨F29, MP.own F29 [(.slice A14 y6.Network.Nodes.length c14), (.slice A15 y6.Network.Fibers.length c15), (.slice A16 y6.Lights.length c16)] (y14.2 : Plan)⟩ : DI)]) (Y := [(⟨F30, MP.own F30 [(.slice A14 y6.Network.Nodes.length c14)] (y14.2.Network.Nodes : List ByteArray)⟩ : DI), (⟨F31, MP.own F31 [(.slice A15 y6.Network.Fibers.length c15)] (y14.2.Network.Fibers : List Fiber)⟩ : DI), (⟨F32, MP.own F32 [(.slice A16 y6.Lights.length c16)] (y14.2.Lights : List Light)⟩ : DI)]) (List.Perm.of_eq (by simp [hFe])) fun _ => (ps1 hl27 (ps1 hl28 (ps1 hl29 ps0)))
      have H := H.arg (p := MP.val [(.slice A aP.Network.Nodes.length c)] aP.Network.Nodes) hl
      have H := H.arg (p := MP.val [(.slice A2 aP.Network.Fibers.length c2)] aP.Network.Fibers) hl2
      have H := H.arg (p := MP.val [(.slice A3 aP.Lights.length c3)] aP.Lights) hl3
      have H := H.arg (p := MP.val [(.slice A4 aQ.Network.Nodes.length c4)] aQ.Network.Nodes) hl4
      have H := H.arg (p := MP.val [(.slice A5 aQ.Network.Fibers.length c5)] aQ.Network.Fibers) hl5
      have H := H.arg (p := MP.val [(.slice A6 aQ.Lights.length c6)] aQ.Lights) hl6
      have H := H.lend 0 rfl
      have H := H.lend 1 rfl
      have H := H.lend 2 rfl
      have H := H.lend 3 rfl
      have H := H.lend 4 rfl
      have H := H.lend 5 rfl
      have H := H.lend 6 rfl
      have H := H.lend 7 rfl
      have H := H.lend 8 rfl
      have H := H.lend 9 rfl
      have H := H.lend 10 rfl
      have H := H.lend 11 rfl
      have H := H.lend 12 rfl
      have H := H.lend 13 rfl
      refine pr 1 hf rfl rfl fun a hf => ?_
      have hf := hf.prune [2, 3, 6, 7, 9, 10, 11, 12] rfl
      refine wl_end (then_n (sq (reg (wl0 rfl (op_q hf (rq_loadBN hf H TF.la37 0 rfl rfl rfl rfl) rfl (by decide) fun a hf => ?_)))))
      refine pr 1 hf rfl rfl fun a hf => ?_
      have H := H.frontD 12 rfl
      have H := H.frontD 12 rfl
      have H := H.frontD 12 rfl
      have H := H.recast (X := [(⟨F16, MP.own F16 [(.slice A17 y7.Network.Nodes.length c17)] (y7.Network.Nodes : List ByteArray)⟩ : DI), (⟨F17, MP.own F17 [(.slice A18 y7.Network.Fibers.length c18)] (y7.Network.Fibers : List Fiber)⟩ : DI), (⟨F18, MP.own F18 [(.slice A19 y7.Lights.length c19)] (y7.Lights : List Light)⟩ : DI)]) (Y := [(⟨(F16 ++ (F17 ++ F18)), MP.own (F16 ++ (F17 ++ F18)) [(.slice A17 y7.Network.Nodes.length c17), (.slice A18 y7.Network.Fibers.length c18), (.slice A19 y7.Lights.length c19)] (y7 : Plan)⟩ : DI)]) (List.Perm.of_eq (by simp)) fun _ => ps1 (Plan_ownmk (x := y7) (H.ownAt 0 rfl) (H.ownAt 1 rfl) (H.ownAt 2 rfl)) ps0
      obtain ⟨y15, hy15, hF⟩ := bind_some hF
      refine wl0 rfl (op_call hf TF.cl25 rfl (by decide) (laws_markPlan_ok (S := fun _ => True) (F := (F16 ++ (F17 ++ F18))) (cs := [(.slice A17 y7.Network.Nodes.length c17), (.slice A18 y7.Network.Fibers.length c18), (.slice A19 y7.Lights.length c19)]) (H.ownAt 0 rfl) H.diNd.1 mk_int hy15) fun v19 w a hp25 hf => ?_)
      obtain ⟨hch2, hv2, F33, ho2, hbk2⟩ := hp25
      obtain rfl := VR_int hv2
      have H := H.wrote rfl hch2 ho2 hbk2
      obtain ⟨F34, F35, F36, hFe2, hl30, hl31, hl32⟩ := Plan_ownc (H.ownAt 0 rfl)
      have H := H.recast (X := [(⟨F33, MP.own F33 [(.slice A17 y7.Network.Nodes.length c17), (.slice A18 y7.Network.Fibers.length c18), (.slice A19 y7.Lights.length c19)] (y15.2 : Plan)⟩ : DI)]) (Y := [(⟨F34, MP.own F34 [(.slice A17 y7.Network.Nodes.length c17)] (y15.2.Network.Nodes : List ByteArray)⟩ : DI), (⟨F35, MP.own F35 [(.slice A18 y7.Network.Fibers.length c18)] (y15.2.Network.Fibers : List Fiber)⟩ : DI), (⟨F36, MP.own F36 [(.slice A19 y7.Lights.length c19)] (y15.2.Lights : List Light)⟩ : DI)]) (List.Perm.of_eq (by simp [hFe2])) fun _ => (ps1 hl30 (ps1 hl31 (ps1 hl32 ps0)))
      have H := H.arg (p := MP.val [(.slice A aP.Network.Nodes.length c)] aP.Network.Nodes) hl
      have H := H.arg (p := MP.val [(.slice A2 aP.Network.Fibers.length c2)] aP.Network.Fibers) hl2
      have H := H.arg (p := MP.val [(.slice A3 aP.Lights.length c3)] aP.Lights) hl3
      have H := H.arg (p := MP.val [(.slice A4 aQ.Network.Nodes.length c4)] aQ.Network.Nodes) hl4
      have H := H.arg (p := MP.val [(.slice A5 aQ.Network.Fibers.length c5)] aQ.Network.Fibers) hl5
      have H := H.arg (p := MP.val [(.slice A6 aQ.Lights.length c6)] aQ.Lights) hl6
      have H := H.lend 0 rfl
      have H := H.lend 1 rfl
      have H := H.lend 2 rfl
      have H := H.lend 3 rfl
      have H := H.lend 4 rfl
      have H := H.lend 5 rfl
      have H := H.lend 6 rfl
      have H := H.lend 7 rfl
      have H := H.lend 8 rfl
      have H := H.lend 9 rfl
      have H := H.lend 10 rfl
      have H := H.lend 11 rfl
      have H := H.lend 12 rfl
      have H := H.lend 13 rfl
      refine pr 1 hf rfl rfl fun a hf => ?_
      refine wl_end (then_n (sq (sq ?_)))
      obtain ⟨c28, hGc28, hF⟩ := bind_some hF
      have fh2 := hf.prune [2, 3, 6, 7, 10] rfl
      have Hm2 := H.let [false, false, true, true] [] [false, false, false, false, false, false, false, false, false, false, false, false, true, true] [0, 1, 14, 15, 16, 17, 18, 19] rfl rfl rfl rfl
      refine midF 82 (.bool c28) fh2 Hm2 ?_ fun a w hf H => ?_
      ·refine reg (pr 3 hf rfl rfl fun a hf => ?_)
       refine iteB hGc28 (fun hc7 hGc28 => ?_) fun hc7 hGc28 => ?_
       ·have hf := hf.lit 72 rfl hc7
        refine pr 10 hf rfl rfl fun a hf => ?_
        obtain rfl := Option.some.inj hGc28
        have hf := hf.prune [82, 2, 3, 6, 7, 10] rfl
        have H := H.let [false, false, true, true] [] [false, false, false, false, false, false, false, false, false, false, false, false, true, true] [0, 1, 14, 15, 16, 17, 18, 19] rfl rfl rfl rfl
        exact wl_end ⟨hf, H⟩
       ·have hf := hf.lit 72 rfl hc7
        refine pr 2 hf rfl rfl fun a hf => ?_
        obtain ⟨y16, hy16, hGc28⟩ := bind_some hGc28
        refine wlg hf rfl rfl rfl (op_call hf TF.cl44 rfl (by decide) (laws_eqActionS_ok (S := fun _ => True) (mk_list (rep_true (α := List Action) (H.get 1 rfl))) (mk_list (rep_true (α := List Action) (H.get 0 rfl))) hy16) fun v20 w a hp26 hf => ?_)
        obtain ⟨hb14, hp26⟩ := hp26
        obtain rfl := VR_bool hp26
        have H := H.keep hb14
        refine pr 3 hf rfl rfl fun a hf => ?_
        refine iteB hGc28 (fun hc8 hGc28 => ?_) fun hc8 hGc28 => ?_
        ·have hf := hf.lit 78 rfl hc8
         refine pr 4 hf rfl rfl fun a hf => ?_
         obtain rfl := Option.some.inj hGc28
         have hf := hf.prune [82, 2, 3, 6, 7, 10] rfl
         have H := H.let [false, false, true, true] [] [false, false, false, false, false, false, false, false, false, false, false, false, true, true] [0, 1, 14, 15, 16, 17, 18, 19] rfl rfl rfl rfl
         exact wl_end ⟨hf, H⟩
        ·have hf := hf.lit 78 rfl hc8
         refine pr 4 hf rfl rfl fun a hf => ?_
         obtain rfl := Option.some.inj hGc28
         have hf := hf.prune [82, 2, 3, 6, 7, 10] rfl
         have H := H.let [false, false, true, true] [] [false, false, false, false, false, false, false, false, false, false, false, false, true, true] [0, 1, 14, 15, 16, 17, 18, 19] rfl rfl rfl rfl
         exact wl_end ⟨hf, H⟩
      refine then_n (iteB hF (fun hc9 hF => cd_t hf rfl hc9 ?_) fun hc9 hF => cd_f hf rfl hc9 ?_)
      ·refine sq (reg (pr 1 hf rfl rfl fun a hf => ?_))
       refine wl_end (then_n (wp_ret (then_r (?_))))
       obtain rfl := Option.some.inj hF
       refine ret_1 (fn := Tryz.f11) (r := .tmp 4) hf rfl (rv_tmp hf rfl) ?_
       exact ⟨_, rfl, H.bel, mk_bool⟩
      ·refine wp_skip (then_n (sq (reg (pr 1 hf rfl rfl fun a hf => ?_))))
       refine wl_end (then_n (sq (reg (pr 2 hf rfl rfl fun a hf => ?_))))
       obtain ⟨y17, hy17, hF⟩ := bind_some hF
       refine wl0 rfl (op_call hf TF.cl45 rfl (by decide) (laws_markActionS_ok (S := fun _ => True) (F := F19) (cs := [(.slice A20 y8.1.length c20)]) (H.ownAt 0 rfl) H.diNd.1 mk_int hy17) fun v21 w a hp27 hf => ?_)
       obtain ⟨hch3, hv3, F37, ho3, hbk3⟩ := hp27
       obtain rfl := VR_int hv3
       have H := H.wrote rfl hch3 ho3 hbk3
       have H := H.arg (p := MP.val [(.slice A aP.Network.Nodes.length c)] aP.Network.Nodes) hl
       have H := H.arg (p := MP.val [(.slice A2 aP.Network.Fibers.length c2)] aP.Network.Fibers) hl2
       have H := H.arg (p := MP.val [(.slice A3 aP.Lights.length c3)] aP.Lights) hl3
       have H := H.arg (p := MP.val [(.slice A4 aQ.Network.Nodes.length c4)] aQ.Network.Nodes) hl4
       have H := H.arg (p := MP.val [(.slice A5 aQ.Network.Fibers.length c5)] aQ.Network.Fibers) hl5
       have H := H.arg (p := MP.val [(.slice A6 aQ.Lights.length c6)] aQ.Lights) hl6
       have H := H.lend 0 rfl
       have H := H.lend 1 rfl
       refine pr 1 hf rfl rfl fun a hf => ?_
       refine wl_end (then_n (sq (reg (pr 1 hf rfl rfl fun a hf => ?_))))
       refine wl_end (then_n (sq (reg (pr 2 hf rfl rfl fun a hf => ?_))))
       obtain ⟨y18, hy18, hF⟩ := bind_some hF
       refine wl0 rfl (op_call hf TF.cl46 rfl (by decide) (laws_heldActionS_ok (S := fun _ => True) (mk_list (rep_true (α := List Action) (H.get 1 rfl))) mk_int hy18) fun v22 w a hp28 hf => ?_)
       obtain ⟨hb15, hp28⟩ := hp28
       obtain rfl := VR_int hp28
       have H := H.keep hb15
       refine pr 1 hf rfl rfl fun a hf => ?_
       refine wl_end (then_n (sq (sq (reg (pr 2 hf rfl rfl fun a hf => ?_)))))
       refine wl_end (then_n (iteB hF (fun hc10 hF => cd_t hf rfl hc10 ?_) fun hc10 hF => cd_f hf rfl hc10 ?_))
       ·refine sq (reg (pr 1 hf rfl rfl fun a hf => ?_))
        have hf := hf.prune [4] rfl
        refine wl_end (then_n (wp_ret (then_r (?_))))
        obtain rfl := Option.some.inj hF
        refine ret_1 (fn := Tryz.f11) (r := .tmp 4) hf rfl (rv_tmp hf rfl) ?_
        exact ⟨_, rfl, H.bel, mk_bool⟩
       ·refine wp_skip (then_n (sq (sq (reg (pr 3 hf rfl rfl fun a hf => ?_)))))
        refine wl_end (then_n (iteB hF (fun hc11 hF => cd_t hf rfl hc11 ?_) fun hc11 hF => cd_f hf rfl hc11 ?_))
        ·refine sq (reg (pr 1 hf rfl rfl fun a hf => ?_))
         have hf := hf.prune [4] rfl
         refine wl_end (then_n (wp_ret (then_r (?_))))
         obtain rfl := Option.some.inj hF
         refine ret_1 (fn := Tryz.f11) (r := .tmp 4) hf rfl (rv_tmp hf rfl) ?_
         exact ⟨_, rfl, H.bel, mk_bool⟩
        ·refine wp_skip (then_n (sq (drawn [] (bs := [false, false, false, false, false, false, false, false, false, false]) (fuel := 10) (Checked.mixed Tryz.checked) rfl rfl fun w hb => ?_)))
         have H := H.keep hb
         refine strT (H.let [false, true] [] [false, false] [] rfl rfl rfl rfl) (fun w H => trivial) fun hS => ?_
         refine tS 0 [] rfl rfl rfl rfl hf (by kernel_rfl) (by kernel_rfl) hS (fun w H => rq_loadBN hf H TF.la28 0 rfl rfl rfl rfl) fun a hf => ?_
         refine strT (H.let [true, true] [] [false, false] [] rfl rfl rfl rfl) (fun w H => H.let [false, true] [] [] [] rfl rfl rfl rfl) fun hS => ?_
         refine tS 2 [] rfl rfl rfl rfl hf (by kernel_rfl) (by kernel_rfl) hS (fun w H => rq_loadBN hf H TF.la28 0 rfl rfl rfl rfl) fun a hf => ?_
         obtain ⟨y19, hy19, hF⟩ := bind_some hF
         refine n1 1 (by kernel_rfl) rfl rfl (op_call hf TF.cl17 rfl (by decide) (laws_toPlan_ok (S := fun _ => True) (Plan_mkv (x := aP) (rep_true (α := List ByteArray) (H.get 7 rfl)) (rep_true (α := List Fiber) (H.get 6 rfl)) (rep_true (α := List Light) (H.get 5 rfl))) hy19) fun v23 w a hp29 hf => ?_)
         obtain ⟨hb16, F38, hp30, hN9⟩ := hp29
         obtain ⟨A27, c29, F39, A28, c30, F40, A29, c31, F41, rfl, rfl, hl33, hl34, hl35⟩ := Plan_vo hp30
         have H := H.addOwn hb16 (X := [(⟨F39, MP.own F39 [(.slice A27 y19.Network.Nodes.length c29)] (y19.Network.Nodes : List ByteArray)⟩ : DI), (⟨F40, MP.own F40 [(.slice A28 y19.Network.Fibers.length c30)] (y19.Network.Fibers : List Fiber)⟩ : DI), (⟨F41, MP.own F41 [(.slice A29 y19.Lights.length c31)] (y19.Lights : List Light)⟩ : DI)]) (by simpa using hN9.1) (ps1 hl33 (ps1 hl34 (ps1 hl35 ps0))) (by simpa using hN9.2)
         have H := H.lend 0 rfl
         have H := H.lend 1 rfl
         have H := H.lend 2 rfl
         have hS := H.let [true, true] [] [false, false, false, false, false] [] rfl rfl rfl rfl
         refine ⟨fun _ => hS, ?_⟩
         obtain ⟨y20, hy20, hF⟩ := bind_some hF
         refine n1 3 (by kernel_rfl) rfl rfl (op_call hf TF.cl17 rfl (by decide) (laws_toPlan_ok (S := fun _ => True) (Plan_mkv (x := aQ) (rep_true (α := List ByteArray) (H.get 7 rfl)) (rep_true (α := List Fiber) (H.get 6 rfl)) (rep_true (α := List Light) (H.get 5 rfl))) hy20) fun v24 w a hp31 hf => ?_)
         obtain ⟨hb17, F42, hp32, hN10⟩ := hp31
         obtain ⟨A30, c32, F43, A31, c33, F44, A32, c34, F45, rfl, rfl, hl36, hl37, hl38⟩ := Plan_vo hp32
         have H := H.addOwn hb17 (X := [(⟨F43, MP.own F43 [(.slice A30 y20.Network.Nodes.length c32)] (y20.Network.Nodes : List ByteArray)⟩ : DI), (⟨F44, MP.own F44 [(.slice A31 y20.Network.Fibers.length c33)] (y20.Network.Fibers : List Fiber)⟩ : DI), (⟨F45, MP.own F45 [(.slice A32 y20.Lights.length c34)] (y20.Lights : List Light)⟩ : DI)]) (by simpa using hN10.1) (ps1 hl36 (ps1 hl37 (ps1 hl38 ps0))) (by simpa using hN10.2)
         have H := H.lend 0 rfl
         have H := H.lend 1 rfl
         have H := H.lend 2 rfl
         have hS := H.let [true, true] [] [false, false, false, false, false, false, false, false] [] rfl rfl rfl rfl
         refine ⟨fun _ => hS, ?_⟩
         obtain ⟨y21, hy21, hF⟩ := bind_some hF
         refine n1 4 (by kernel_rfl) rfl rfl (op_call hf TF.cl43 rfl (by decide) (impl_PlanDifference_ok (S := fun _ => True) (Plan_mkv (x := y19) (rep_true (α := List ByteArray) (H.get 5 rfl)) (rep_true (α := List Fiber) (H.get 4 rfl)) (rep_true (α := List Light) (H.get 3 rfl))) (Plan_mkv (x := y20) (rep_true (α := List ByteArray) (H.get 2 rfl)) (rep_true (α := List Fiber) (H.get 1 rfl)) (rep_true (α := List Light) (H.get 0 rfl))) hy21) fun v25 w a hp33 hf => ?_)
         obtain ⟨hb18, F46, v26, v27, rfl, hp34, hp35, hN11⟩ := hp33
         obtain ⟨A33, c35, rfl, hl39⟩ := VO_list hp34
         obtain rfl := VR_bool hp35
         have H := H.addOwn hb18 (X := [(⟨F46, MP.own F46 [(.slice A33 y21.1.length c35)] (y21.1 : List Action)⟩ : DI)]) (by simpa using hN11.1) (ps1 hl39 ps0) (by simpa using hN11.2)
         have H := H.lend 0 rfl
         have hS := H.let [true, true] [] [false, false, false, false, false, false, false, false, false] [] rfl rfl rfl rfl
         refine ⟨fun _ => hS, ?_⟩
         refine tp 5 rfl rfl hf (by kernel_rfl) (fun _ => hS) rfl fun a hf => ?_
         refine tp 6 rfl rfl hf (by kernel_rfl) (fun _ => hS) rfl fun a hf => ?_
         refine tp 7 rfl rfl hf (by kernel_rfl) (fun _ => hS) rfl fun a hf => ?_
         refine tp 8 rfl rfl hf (by kernel_rfl) (fun _ => hS) rfl fun a hf => ?_
         refine tp 9 rfl rfl hf (by kernel_rfl) (fun _ => hS) rfl fun a hf => ?_
         refine dn (by kernel_rfl) ?_
         have hf := hf.prune [6, 7, 10, 13, 15, 16] rfl
         refine then_n (sq (sq ?_))
         obtain ⟨c36, hGc36, hF⟩ := bind_some hF
         have fh3 := hf.prune [10, 13] rfl
         have Hm3 := H.let [false, false] [] [false, false, false, false, false, false, false, true, false] [8] rfl rfl rfl rfl
         refine midF 110 (.bool c36) fh3 Hm3 ?_ fun a w hf H => ?_
         ·refine reg (pr 2 hf rfl rfl fun a hf => ?_)
          obtain ⟨y22, hy22, hGc36⟩ := bind_some hGc36
          refine wl0 rfl (op_call hf TF.cl44 rfl (by decide) (laws_eqActionS_ok (S := fun _ => True) (mk_list (rep_true (α := List Action) (H.get 0 rfl))) (mk_list (rep_true (α := List Action) (H.get 7 rfl))) hy22) fun v28 w a hp36 hf => ?_)
          obtain ⟨hb19, hp36⟩ := hp36
          obtain rfl := VR_bool hp36
          have H := H.keep hb19
          refine pr 2 hf rfl rfl fun a hf => ?_
          refine iteB hGc36 (fun hc12 hGc36 => ?_) fun hc12 hGc36 => ?_
          ·have hf := hf.lit 106 rfl hc12
           refine pr 4 hf rfl rfl fun a hf => ?_
           obtain rfl := Option.some.inj hGc36
           have hf := hf.prune [110, 10, 13] rfl
           have H := H.let [false, false] [] [false, false, false, false, false, false, false, true, false] [8] rfl rfl rfl rfl
           exact wl_end ⟨hf, H⟩
          ·have hf := hf.lit 106 rfl hc12
           refine pr 4 hf rfl rfl fun a hf => ?_
           obtain rfl := Option.some.inj hGc36
           have hf := hf.prune [110, 10, 13] rfl
           have H := H.let [false, false] [] [false, false, false, false, false, false, false, true, false] [8] rfl rfl rfl rfl
           exact wl_end ⟨hf, H⟩
         refine then_n (iteB hF (fun hc13 hF => cd_t hf rfl hc13 ?_) fun hc13 hF => cd_f hf rfl hc13 ?_)
         ·refine sq (reg (pr 1 hf rfl rfl fun a hf => ?_))
          refine wl_end (then_n (wp_ret (then_r (?_))))
          obtain rfl := Option.some.inj hF
          refine ret_1 (fn := Tryz.f11) (r := .tmp 4) hf rfl (rv_tmp hf rfl) ?_
          exact ⟨_, rfl, H.bel, mk_bool⟩
         ·refine wp_skip (then_n (sq (reg (pr 1 hf rfl rfl fun a hf => ?_))))
          refine wl_end (then_n (sq (reg (pr 2 hf rfl rfl fun a hf => ?_))))
          obtain ⟨y23, hy23, hF⟩ := bind_some hF
          refine wl0 rfl (op_call hf TF.cl46 rfl (by decide) (laws_heldActionS_ok (S := fun _ => True) (mk_list (rep_true (α := List Action) (H.get 0 rfl))) mk_int hy23) fun v29 w a hp37 hf => ?_)
          obtain ⟨hb20, hp37⟩ := hp37
          obtain rfl := VR_int hp37
          have H := H.keep hb20
          refine pr 1 hf rfl rfl fun a hf => ?_
          refine wl_end (then_n (sq (sq (reg (pr 2 hf rfl rfl fun a hf => ?_)))))
          refine wl_end (then_n (iteB hF (fun hc14 hF => cd_t hf rfl hc14 ?_) fun hc14 hF => cd_f hf rfl hc14 ?_))
          ·refine sq (reg (pr 1 hf rfl rfl fun a hf => ?_))
           refine wl_end (then_n (wp_ret (then_r (?_))))
           obtain rfl := Option.some.inj hF
           refine ret_1 (fn := Tryz.f11) (r := .tmp 4) hf rfl (rv_tmp hf rfl) ?_
           exact ⟨_, rfl, H.bel, mk_bool⟩
          ·refine wp_skip (then_n (sq (sq (reg (pr 3 hf rfl rfl fun a hf => ?_)))))
           refine wl_end (then_n (iteB hF (fun hc15 hF => cd_t hf rfl hc15 ?_) fun hc15 hF => cd_f hf rfl hc15 ?_))
           ·refine sq (reg (pr 1 hf rfl rfl fun a hf => ?_))
            refine wl_end (then_n (wp_ret (then_r (?_))))
            obtain rfl := Option.some.inj hF
            refine ret_1 (fn := Tryz.f11) (r := .tmp 4) hf rfl (rv_tmp hf rfl) ?_
            exact ⟨_, rfl, H.bel, mk_bool⟩
           ·refine wp_skip (then_n (sq (reg (pr 1 hf rfl rfl fun a hf => ?_))))
            refine wl_end (then_n (wp_ret (?_)))
            obtain rfl := Option.some.inj hF
            refine ret_1 (fn := Tryz.f11) (r := .tmp 4) hf rfl (rv_tmp hf rfl) ?_
            exact ⟨_, rfl, H.bel, mk_bool⟩
end AT

