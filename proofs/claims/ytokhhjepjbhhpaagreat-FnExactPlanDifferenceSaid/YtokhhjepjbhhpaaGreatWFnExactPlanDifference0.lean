/- The Go functions do what is told of them, by program (gen.py). -/
import Derived.Test.YtokhhjepjbhhpaaGreatWJC
set_option linter.unusedVariables false
set_option linter.unusedSimpArgs false
set_option maxRecDepth 100000
namespace AT
open Go Go.RowKit Go.Proofs

/- loop.example/g00897/spec.l9Find -/
set_option maxHeartbeats 1000000 in
theorem spec_l9Find_ok {fu : Nat} {w0 : World} {S : Nat → Prop} {v0_ : Value} {v1_ : Value} {p : Plan} {id : Int} {r : Int} (h0 : VR w0 S v0_ p) (h1 : VR w0 S v1_ id) (hF : spec_l9Find fu p id = some r) :
    Calls Tryz.prog 63 [v0_, v1_].toArray w0 fun e w' => ∃ v, e = .returned v ∧ (Below w0.heap.size w0 w' ∧ VR w' (St ⟨w0, []⟩ S [] [] [] true) v r) := by
 obtain ⟨A, c, A2, c2, A3, c3, rfl, hl, hl2, hl3⟩ := Plan_open h0
 obtain rfl := VR_int h1
 have H := Mem.start ⟨w0, []⟩ S
 have H := H.pushArg (MP.val [(.slice A p.Network.Nodes.length c)] p.Network.Nodes) hl
 have H := H.pushArg (MP.val [(.slice A2 p.Network.Fibers.length c2)] p.Network.Fibers) hl2
 have H := H.pushArg (MP.val [(.slice A3 p.Lights.length c3)] p.Lights) hl3
 refine enter Tryz.func63 rfl rfl (nle rfl) rfl fun a hf => ?_
 rw [spec_l9Find] at hF
 refine sq (reg (wl0 rfl (op_box hf H rfl rfl (by decide) fun b' a w hf H => ?_)))
 refine pr 1 hf rfl rfl fun a hf => ?_
 refine wl_end (then_n (sq (sq (reg (pr 1 hf rfl rfl fun a hf => ?_)))))
 refine wl_end (then_n ?_)
 obtain ⟨out', hB1, hF⟩ := bind_some hF
 have hf := hf.prune [1, 2, 5] rfl
 have H := H.let [true] [] [] [0, 1, 2] rfl rfl rfl rfl
 refine loopC (fun (s : Int) (a : Act) (w : World) => match s with | i => Fr a 22 [(1, (.int .i64 id)), (2, (.pointer (some ⟨b', 0, none⟩))), (5, (.int .i64 i))] ∧ Mem ⟨w0, []⟩ S [⟨b', 37, [(.slice A p.Network.Nodes.length c), (.slice A2 p.Network.Fibers.length c2), (.slice A3 p.Lights.length c3)]⟩] [] [] [(false, MP.val [(.slice A3 p.Lights.length c3)] (p.Lights : List Light)), (false, MP.val [(.slice A2 p.Network.Fibers.length c2)] (p.Network.Fibers : List Fiber)), (false, MP.val [(.slice A p.Network.Nodes.length c)] (p.Network.Nodes : List ByteArray))] w) (fun k (s : Int) => spec_l9Find_L1 fu p id k s = some out') (fun s => out' = Out.next s) 0 fu hB1 ⟨hf, H⟩ (fun s h => by cases h) ?_ ?_
 ·rintro fk i a w hR1 hI
  replace hR1 : spec_l9Find_L1 fu p id (fk + 1) i = some out' := hR1
  rw [spec_l9Find_L1] at hR1
  obtain ⟨hf, H⟩ := hI
  refine sq (sq (reg (pr 2 hf rfl rfl fun a hf => ?_)))
  refine wl0 rfl (op_q hf (rq_loadB hf H TF.ls35 0 rfl rfl rfl) rfl (by decide) fun a hf => ?_)
  refine pr 2 hf rfl rfl fun a hf => ?_
  refine wl_end (then_n (iteB hR1 (fun hc hR1 => cd_t hf rfl hc ?_) fun hc hR1 => cd_f hf rfl hc ?_))
  ·refine wp_skip (then_n (sq (wp_block (sq (reg (pr 1 hf rfl rfl fun a hf => ?_))))))
   refine wl0 rfl (op_q hf (rq_loadB hf H TF.ls35 0 rfl rfl rfl) rfl (by decide) fun a hf => ?_)
   refine pr 1 hf rfl rfl fun a hf => ?_
   obtain ⟨e, he, hR1⟩ := bind_some hR1
   refine wl0 rfl (op_iaddr hf H Tryz.underlying35 TF.sz112 0 rfl rfl rfl he (by decide) fun p2 o cs a hf hr H => ?_)
   obtain ⟨A4, c4, rfl, hl4⟩ := Light_cells hr
   have H := H.push (false, MP.val [(.slice A4 e.Route.Fibers.length c4)] e.Route.Fibers) hl4
   refine pr 1 hf rfl rfl fun a hf => ?_
   refine wl0 rfl (op_q hf (rq_loadI hf H TF.ls3 1 0 rfl rfl rfl) rfl (by decide) fun a hf => ?_)
   refine pr 2 hf rfl rfl fun a hf => ?_
   refine wl_end (then_n (iteB hR1 (fun hc2 hR1 => cd_t hf rfl hc2 ?_) fun hc2 hR1 => cd_f hf rfl hc2 ?_))
   ·refine sq (reg (pr 2 hf rfl rfl fun a hf => ?_))
    have hf := hf.prune [4] rfl
    refine wl_end (then_n (wp_ret (blk_r (then_r (then_r (blk_r (then_r (then_r (?_)))))))))
    obtain rfl := Option.some.inj hR1
    replace hF := on_ret hF
    obtain rfl := Option.some.inj hF
    refine ret_1 (fn := Tryz.f63) (r := .tmp 4) hf rfl (rv_tmp hf rfl) ?_
    exact ⟨_, rfl, H.bel, mk_int⟩
   ·refine wp_skip (blk_n (then_n (reg (pr 3 hf rfl rfl fun a hf => ?_))))
    have hf := hf.prune [1, 2, 5] rfl
    refine wl_end ?_
    have hf := hf.prune [1, 2, 5] rfl
    have H := H.let [true] [] [] [2, 3, 4] rfl rfl rfl rfl
    exact then_n ⟨w64 (i + 1), hR1, hf, H⟩
  ·refine wp_exit (then_x (then_x (blk_e (?_))))
   have hf := hf.prune [1, 2, 5] rfl
   have H := H.let [true] [] [] [0, 1, 2] rfl rfl rfl rfl
   exact ⟨i, (Option.some.inj hR1).symm, hf, H⟩
 rintro a w ⟨i2, rfl, hf, H⟩
 replace hF := on_next hF
 refine then_n (sq (reg (pr 1 hf rfl rfl fun a hf => ?_)))
 refine wl_end (then_n (wp_ret (?_)))
 obtain rfl := Option.some.inj hF
 refine ret_1 (fn := Tryz.f63) (r := .tmp 4) hf rfl (rv_tmp hf rfl) ?_
 exact ⟨_, rfl, H.bel, mk_int⟩

/- loop.example/g00897/spec.l1Own -/
set_option maxHeartbeats 1000000 in
theorem spec_l1Own_ok {fu : Nat} {w0 : World} {S : Nat → Prop} {v0_ : Value} {l : List Int} {r : List Int} (h0 : VR w0 S v0_ l) (hF : spec_l1Own fu l = some r) :
    Calls Tryz.prog 225 [v0_].toArray w0 fun e w' => ∃ v, e = .returned v ∧ (Below w0.heap.size w0 w' ∧ ∃ F0, VO w' F0 v r ∧ New w0 w' F0) := by
 obtain ⟨A, c, rfl, hl⟩ := VR_list h0
 have H := Mem.start ⟨w0, []⟩ S
 have H := H.pushArg (MP.val [(.slice A l.length c)] l) hl
 refine enter Tryz.func225 rfl rfl (nle rfl) rfl fun a hf => ?_
 rw [spec_l1Own] at hF
 refine sq (reg (pr 1 hf rfl rfl fun a hf => ?_))
 refine wl_end (then_n (sq (reg (wl0 rfl (op_bslice hf H (.sh true) rfl 3 ([] : List Int) [] rfl (fun w => by kernel_rfl) rfl (by decide) rfl trivial el0 (by decide) fun A2 a w hf H => ?_)))))
 refine pr 1 hf rfl rfl fun a hf => ?_
 obtain ⟨l2, hl2, hF⟩ := bind_some hF
 have H := H.rowWeak 0 rfl
 refine wl0 rfl (op_appI hf H Tryz.underlying44 TF.ai3 rfl (by decide) 0 0 rfl rfl rfl rfl (.inl rfl) hl2 (by decide) fun E A3 c2 a w hf H => ?_)
 have H := H.rowOwn 0 rfl rfl
 have H := H.rowSh 0 rfl
 refine pr 1 hf rfl rfl fun a hf => ?_
 refine wl_end (then_n (wp_ret (?_)))
 have H := H.rowOwn 0 rfl rfl
 obtain ⟨F, H⟩ := H.freezeOwn 0 rfl
 have H := H.lend 0 rfl
 obtain rfl := Option.some.inj hF
 refine ret_1 (fn := Tryz.f225) (r := .tmp 2) hf rfl (rv_tmp hf rfl) ?_
 have hN := H.ends (X := [(⟨F, MP.own F [(.slice A3 l2.length c2)] (l2 : List Int)⟩ : DI)])
 simp only [List.flatMap_cons, List.flatMap_nil, List.append_nil, List.append_assoc] at hN
 exact ⟨_, rfl, H.bel, F, (mko_list (H.ownAt 0 rfl)), by first | exact hN | simpa using hN⟩

/- loop.example/g00897/spec.l4Own -/
set_option maxHeartbeats 1000000 in
theorem spec_l4Own_ok {fu : Nat} {w0 : World} {S : Nat → Prop} {v0_ : Value} {r' : Route} {r : Route} (h0 : VR w0 S v0_ r') (hF : spec_l4Own fu r' = some r) :
    Calls Tryz.prog 200 [v0_].toArray w0 fun e w' => ∃ v, e = .returned v ∧ (Below w0.heap.size w0 w' ∧ ∃ F0, VO w' F0 v r ∧ New w0 w' F0) := by
 obtain ⟨A, c, rfl, hl⟩ := Route_open h0
 have H := Mem.start ⟨w0, []⟩ S
 have H := H.pushArg (MP.val [(.slice A r'.Fibers.length c)] r'.Fibers) hl
 refine enter Tryz.func200 rfl rfl (nle rfl) rfl fun a hf => ?_
 rw [spec_l4Own] at hF
 refine sq (reg (wl0 rfl (op_box hf H rfl rfl (by decide) fun b' a w hf H => ?_)))
 refine wl0 rfl (op_alloc hf H TF.zv108 rfl (by decide) fun b2 a w hf H => ?_)
 refine wl_end (then_n (sq (drawn [6] (bs := [false, false, false, false, false, false, false]) (fuel := 7) (Checked.mixed Tryz.checked) rfl rfl fun w hb => ?_)))
 have H := H.keep hb
 refine tp 0 rfl rfl hf (by kernel_rfl) (fun _ => trivial) rfl fun a hf => ?_
 refine strT (H.let [false, true] [] [] [] rfl rfl rfl rfl) (fun w H => trivial) fun hS => ?_
 refine tS 1 [1, 5, 6] rfl rfl rfl rfl hf (by kernel_rfl) (by kernel_rfl) hS (fun w H => rq_loadB hf H TF.ls3 0 rfl rfl rfl) fun a hf => ?_
 refine tp 2 rfl rfl hf (by kernel_rfl) (fun _ => hS) rfl fun a hf => ?_
 refine tS 3 [3, 4, 5, 6] rfl rfl rfl rfl hf (by kernel_rfl) (by kernel_rfl) hS (fun w H => rq_loadB hf H TF.ls44 0 rfl rfl rfl) fun a hf => ?_
 obtain ⟨y, hy, hF⟩ := bind_some hF
 refine n1 4 (by kernel_rfl) rfl rfl (op_call hf TF.cl225 rfl (by decide) (spec_l1Own_ok (S := fun _ => True) (mk_list (rep_true (α := List Int) (H.get 0 rfl))) hy) fun v w a hp hf => ?_)
 obtain ⟨hb, F, hp2, hN⟩ := hp
 obtain ⟨A2, c2, rfl, hl2⟩ := VO_list hp2
 have H := H.addOwn hb (X := [(⟨F, MP.own F [(.slice A2 y.length c2)] (y : List Int)⟩ : DI)]) (by simpa using hN.1) (ps1 hl2 ps0) (by simpa using hN.2)
 have H := H.lend 0 rfl
 have hS := H.let [false, true] [] [false] [] rfl rfl rfl rfl
 refine ⟨fun _ => hS, ?_⟩
 refine tP 5 rfl rfl rfl rfl hf (by kernel_rfl) (fun _ => hS) (fun w => rq_build hf (cs := [(.int .i64 r'.Start), (.slice A2 y.length c2)]) rfl (fun w => by kernel_rfl)) fun a hf => ?_
 refine n1 6 (by kernel_rfl) rfl rfl (op_storeB hf H 0 TF.sz108 rfl rfl rfl rfl rfl rfl (nle rfl) fun w H => ?_)
 refine ⟨fun h => absurd h (by decide), ?_⟩
 refine dn (by kernel_rfl) ?_
 refine then_n (wp_ret (?_))
 obtain rfl := Option.some.inj hF
 refine ret_1 (fn := Tryz.f200) (r := .cell 2 108) hf rfl (rv_cellN hf H 0 TF.la108 rfl rfl rfl) ?_
 have hN := H.ends (X := [(⟨F, MP.own F [(.slice A2 y.length c2)] (y : List Int)⟩ : DI)])
 simp only [List.flatMap_cons, List.flatMap_nil, List.append_nil, List.append_assoc] at hN
 exact ⟨_, rfl, H.bel, F, ⟨_, Route_ownmk (x := ({ Start := r'.Start, Fibers := y } : Route)) (H.ownAt 0 rfl), rfl⟩, by first | exact hN | simpa using hN⟩

/- loop.example/g00897/spec.l9Copy -/
set_option maxHeartbeats 1000000 in
theorem spec_l9Copy_ok {fu : Nat} {w0 : World} {S : Nat → Prop} {v0_ : Value} {x1 : Light} {r : Light} (h0 : VR w0 S v0_ x1) (hF : spec_l9Copy fu x1 = some r) :
    Calls Tryz.prog 150 [v0_].toArray w0 fun e w' => ∃ v, e = .returned v ∧ (Below w0.heap.size w0 w' ∧ ∃ F0, VO w' F0 v r ∧ New w0 w' F0) := by
 obtain ⟨A, c, rfl, hl⟩ := Light_open h0
 have H := Mem.start ⟨w0, []⟩ S
 have H := H.pushArg (MP.val [(.slice A x1.Route.Fibers.length c)] x1.Route.Fibers) hl
 refine enter Tryz.func150 rfl rfl (nle rfl) rfl fun a hf => ?_
 rw [spec_l9Copy] at hF
 refine sq (reg (wl0 rfl (op_box hf H rfl rfl (by decide) fun b' a w hf H => ?_)))
 refine wl0 rfl (op_alloc hf H TF.zv112 rfl (by decide) fun b2 a w hf H => ?_)
 refine wl_end (then_n (sq (drawn [8] (bs := [false, false, false, false, false, false, false, false, false]) (fuel := 9) (Checked.mixed Tryz.checked) rfl rfl fun w hb => ?_)))
 have H := H.keep hb
 refine tp 0 rfl rfl hf (by kernel_rfl) (fun _ => trivial) rfl fun a hf => ?_
 refine strT (H.let [false, true] [] [] [] rfl rfl rfl rfl) (fun w H => trivial) fun hS => ?_
 refine tS 1 [1, 7, 8] rfl rfl rfl rfl hf (by kernel_rfl) (by kernel_rfl) hS (fun w H => rq_loadB hf H TF.ls3 0 rfl rfl rfl) fun a hf => ?_
 refine tp 2 rfl rfl hf (by kernel_rfl) (fun _ => hS) rfl fun a hf => ?_
 refine tS 3 [3, 4, 7, 8] rfl rfl rfl rfl hf (by kernel_rfl) (by kernel_rfl) hS (fun w H => rq_loadBN hf H TF.la108 0 rfl rfl rfl rfl) fun a hf => ?_
 refine tp 5 rfl rfl hf (by kernel_rfl) (fun _ => hS) rfl fun a hf => ?_
 refine tS 6 [6, 7, 8] rfl rfl rfl rfl hf (by kernel_rfl) (by kernel_rfl) hS (fun w H => rq_loadBN hf H TF.la110 0 rfl rfl rfl rfl) fun a hf => ?_
 obtain ⟨y, hy, hF⟩ := bind_some hF
 refine n1 4 (by kernel_rfl) rfl rfl (op_call hf TF.cl200 rfl (by decide) (spec_l4Own_ok (S := fun _ => True) (Route_mkv (x := x1.Route) (rep_true (α := List Int) (H.get 0 rfl))) hy) fun v w a hp hf => ?_)
 obtain ⟨hb, F, hp2, hN⟩ := hp
 obtain ⟨A2, c2, F2, rfl, rfl, hl2⟩ := Route_vo hp2
 have H := H.addOwn hb (X := [(⟨F2, MP.own F2 [(.slice A2 y.Fibers.length c2)] (y.Fibers : List Int)⟩ : DI)]) (by simpa using hN.1) (ps1 hl2 ps0) (by simpa using hN.2)
 have H := H.lend 0 rfl
 have hS := H.let [false, true] [] [false] [] rfl rfl rfl rfl
 refine ⟨fun _ => hS, ?_⟩
 refine tP 7 rfl rfl rfl rfl hf (by kernel_rfl) (fun _ => hS) (fun w => rq_build hf (cs := [(.int .i64 x1.Id), (.int .i64 y.Start), (.slice A2 y.Fibers.length c2), (.int .i64 x1.Block.First), (.int .i64 x1.Block.Count)]) rfl (fun w => by kernel_rfl)) fun a hf => ?_
 refine n1 8 (by kernel_rfl) rfl rfl (op_storeB hf H 0 TF.sz112 rfl rfl rfl rfl rfl rfl (nle rfl) fun w H => ?_)
 refine ⟨fun h => absurd h (by decide), ?_⟩
 refine dn (by kernel_rfl) ?_
 refine then_n (wp_ret (?_))
 obtain rfl := Option.some.inj hF
 refine ret_1 (fn := Tryz.f150) (r := .cell 2 112) hf rfl (rv_cellN hf H 0 TF.la112 rfl rfl rfl) ?_
 have hN := H.ends (X := [(⟨F2, MP.own F2 [(.slice A2 y.Fibers.length c2)] (y.Fibers : List Int)⟩ : DI)])
 simp only [List.flatMap_cons, List.flatMap_nil, List.append_nil, List.append_assoc] at hN
 exact ⟨_, rfl, H.bel, F2, ⟨_, Light_ownmk (x := ({ Id := x1.Id, Route := y, Block := x1.Block } : Light)) (H.ownAt 0 rfl), rfl⟩, by first | exact hN | simpa using hN⟩

/- loop.example/g00897/impl.lightAt$1 -/
set_option maxHeartbeats 1000000 in
theorem impl_lightAt_c1_ok {fu : Nat} {w0 : World} {S : Nat → Prop} {v0_ : Value} {b1 o1 : Nat} {cs1 : List Value} {x1 : Light} {cap : Int} {r : Bool} (h0 : VR w0 S v0_ x1) (hp1 : (MP.cells ⟨b1, o1, none⟩ cs1).pred w0 S) (hr1 : GoTy.rep w0 S cs1 cap) (hF : impl_lightAt_c1 fu x1 cap = some r) :
    Calls Tryz.prog 168 [v0_, (.pointer (some ⟨b1, o1, none⟩))].toArray w0 fun e w' => ∃ v, e = .returned v ∧ (Below w0.heap.size w0 w' ∧ VR w' (St ⟨w0, []⟩ S [] [] [] true) v r) := by
 obtain ⟨A, c, rfl, hl⟩ := Light_open h0
 obtain rfl := hr1
 have H := Mem.start ⟨w0, []⟩ S
 have H := H.pushArg (MP.val [(.slice A x1.Route.Fibers.length c)] x1.Route.Fibers) hl
 have H := H.pushArg (MP.cells ⟨b1, o1, none⟩ [(.int .i64 cap)]) hp1
 refine enter Tryz.func168 rfl rfl (nle rfl) rfl fun a hf => ?_
 rw [impl_lightAt_c1] at hF
 refine sq (reg (wl0 rfl (op_box hf H rfl rfl (by decide) fun b' a w hf H => ?_)))
 refine pr 1 hf rfl rfl fun a hf => ?_
 refine wl_end (then_n (sq (reg (pr 1 hf rfl rfl fun a hf => ?_))))
 refine wl0 rfl (op_q hf (rq_loadB hf H TF.ls3 0 rfl rfl rfl) rfl (by decide) fun a hf => ?_)
 refine wl0 rfl (op_q hf (rq_loadI hf H TF.ls3 0 0 rfl rfl rfl) rfl (by decide) fun a hf => ?_)
 refine pr 2 hf rfl rfl fun a hf => ?_
 refine wl_end (then_n (wp_ret (?_)))
 obtain rfl := Option.some.inj hF
 refine ret_1 (fn := Tryz.f168) (r := .tmp 3) hf rfl (rv_tmp hf rfl) ?_
 exact ⟨_, rfl, H.bel, mk_bool⟩

/- slices.IndexFunc[[]loop.example/g00897/impl.Light,loop.example/g00897/impl.Light] -/
set_option maxHeartbeats 1000000 in
theorem slices_IndexFunc_impl_Light_impl_Light_of_lightAt_c1_ok {fu : Nat} {w0 : World} {S : Nat → Prop} {v0_ : Value} {b1_0 o1_0 : Nat} {cs1_0 : List Value} {s' : List Light} {cap : Int} {r : Int} (h0 : VR w0 S v0_ s') (hp1_0 : (MP.cells ⟨b1_0, o1_0, none⟩ cs1_0).pred w0 S) (hr1_0 : GoTy.rep w0 S cs1_0 cap) (hF : slices_IndexFunc_impl_Light_impl_Light_of_lightAt_c1 fu s' cap = some r) :
    Calls Tryz.prog 167 [v0_, (.func (.func 168) #[] #[(.pointer (some ⟨b1_0, o1_0, none⟩))])].toArray w0 fun e w' => ∃ v, e = .returned v ∧ (Below w0.heap.size w0 w' ∧ VR w' (St ⟨w0, []⟩ S [] [] [] true) v r) := by
 obtain ⟨A, c, rfl, hl⟩ := VR_list h0
 obtain rfl := hr1_0
 have H := Mem.start ⟨w0, []⟩ S
 have H := H.pushArg (MP.val [(.slice A s'.length c)] s') hl
 have H := H.pushArg (MP.cells ⟨b1_0, o1_0, none⟩ [(.int .i64 cap)]) hp1_0
 refine enter Tryz.func167 rfl rfl (nle rfl) rfl fun a hf => ?_
 rw [slices_IndexFunc_impl_Light_impl_Light_of_lightAt_c1] at hF
 refine sq (reg (pr 1 hf rfl rfl fun a hf => ?_))
 refine wl_end (then_n (sq (sq (reg (pr 3 hf rfl rfl fun a hf => ?_)))))
 refine wl_end (then_n ?_)
 obtain ⟨out', hB1, hF⟩ := bind_some hF
 have hf := hf.prune [0, 1, 7, 8] rfl
 have H := H.let [] [] [] [0, 1] rfl rfl rfl rfl
 refine loopC (fun (s : Int) (a : Act) (w : World) => match s with | i => Fr a 19 [(0, (.slice A s'.length c)), (1, (.func (.func 168) #[] #[(.pointer (some ⟨b1_0, o1_0 + 0, none⟩))])), (7, (.int .i64 (s'.length : Int))), (8, (.int .i64 i))] ∧ Mem ⟨w0, []⟩ S [] [] [] [(false, MP.cells ⟨b1_0, o1_0, none⟩ [(.int .i64 cap)]), (false, MP.val [(.slice A s'.length c)] (s' : List Light))] w) (fun k (s : Int) => slices_IndexFunc_impl_Light_impl_Light_of_lightAt_c1_L1 fu s' cap k s = some out') (fun s => out' = Out.next s) 0 fu hB1 ⟨hf, H⟩ (fun s h => by cases h) ?_ ?_
 ·rintro fk i a w hR1 hI
  replace hR1 : slices_IndexFunc_impl_Light_impl_Light_of_lightAt_c1_L1 fu s' cap (fk + 1) i = some out' := hR1
  rw [slices_IndexFunc_impl_Light_impl_Light_of_lightAt_c1_L1] at hR1
  obtain ⟨hf, H⟩ := hI
  refine sq (reg (pr 1 hf rfl rfl fun a hf => ?_))
  refine wl_end (then_n (sq (iteB hR1 (fun hc hR1 => cd_t hf rfl hc ?_) fun hc hR1 => cd_f hf rfl hc ?_)))
  ·refine wp_skip (then_n (sq (wp_block (sq (reg (pr 2 hf rfl rfl fun a hf => ?_))))))
   refine wl_end (then_n (sq (reg (pr 3 hf rfl rfl fun a hf => ?_))))
   obtain ⟨e, he, hR1⟩ := bind_some hR1
   refine wl0 rfl (op_iaddr hf H Tryz.underlying35 TF.sz112 1 rfl rfl rfl he (by decide) fun p o cs a hf hr H => ?_)
   obtain ⟨A2, c2, rfl, hl2⟩ := Light_cells hr
   have H := H.push (false, MP.val [(.slice A2 e.Route.Fibers.length c2)] e.Route.Fibers) hl2
   refine wl0 rfl (op_q hf (rq_loadIN hf H TF.la112 1 0 rfl rfl rfl rfl) rfl (by decide) fun a hf => ?_)
   obtain ⟨y, hy, hR1⟩ := bind_some hR1
   refine wl0 rfl (op_callV hf TF.cl168 rfl rfl (by decide) (impl_lightAt_c1_ok (S := fun _ => True) (Light_mkv (x := e) (rep_true (α := List Int) (H.get 0 rfl))) (mp_true (H.get 2 rfl)) (rfl) hy) fun v w a hp hf => ?_)
   obtain ⟨hb, hp⟩ := hp
   obtain rfl := VR_bool hp
   have H := H.keep hb
   refine wl_end (then_n (iteB hR1 (fun hc2 hR1 => cd_t hf rfl hc2 ?_) fun hc2 hR1 => cd_f hf rfl hc2 ?_))
   ·refine sq (reg (pr 2 hf rfl rfl fun a hf => ?_))
    have hf := hf.prune [4] rfl
    refine wl_end (then_n (wp_ret (blk_r (then_r (then_r (blk_r (then_r (then_r (?_)))))))))
    obtain rfl := Option.some.inj hR1
    replace hF := on_ret hF
    obtain rfl := Option.some.inj hF
    refine ret_1 (fn := Tryz.f167) (r := .tmp 4) hf rfl (rv_tmp hf rfl) ?_
    exact ⟨_, rfl, H.bel, mk_int⟩
   ·refine wp_skip (blk_n (then_n (reg (pr 2 hf rfl rfl fun a hf => ?_))))
    refine wl_end ?_
    have hf := hf.prune [0, 1, 7, 8] rfl
    have H := H.let [] [] [] [2, 3] rfl rfl rfl rfl
    exact then_n ⟨w64 (i + 1), hR1, hf, H⟩
  ·refine wp_exit (then_x (then_x (blk_e (?_))))
   have hf := hf.prune [0, 1, 7, 8] rfl
   have H := H.let [] [] [] [0, 1] rfl rfl rfl rfl
   exact ⟨i, (Option.some.inj hR1).symm, hf, H⟩
 rintro a w ⟨i2, rfl, hf, H⟩
 replace hF := on_next hF
 refine then_n (sq (reg (pr 1 hf rfl rfl fun a hf => ?_)))
 refine wl_end (then_n (wp_ret (?_)))
 obtain rfl := Option.some.inj hF
 refine ret_1 (fn := Tryz.f167) (r := .tmp 4) hf rfl (rv_tmp hf rfl) ?_
 exact ⟨_, rfl, H.bel, mk_int⟩

/- loop.example/g00897/impl.lightAt -/
set_option maxHeartbeats 1000000 in
theorem impl_lightAt_ok {fu : Nat} {w0 : World} {S : Nat → Prop} {v0_ : Value} {v1_ : Value} {p : Plan} {id : Int} {r : Int} (h0 : VR w0 S v0_ p) (h1 : VR w0 S v1_ id) (hF : impl_lightAt fu p id = some r) :
    Calls Tryz.prog 102 [v0_, v1_].toArray w0 fun e w' => ∃ v, e = .returned v ∧ (Below w0.heap.size w0 w' ∧ VR w' (St ⟨w0, []⟩ S [] [] [] true) v r) := by
 obtain ⟨A, c, A2, c2, A3, c3, rfl, hl, hl2, hl3⟩ := Plan_open h0
 obtain rfl := VR_int h1
 have H := Mem.start ⟨w0, []⟩ S
 have H := H.pushArg (MP.val [(.slice A p.Network.Nodes.length c)] p.Network.Nodes) hl
 have H := H.pushArg (MP.val [(.slice A2 p.Network.Fibers.length c2)] p.Network.Fibers) hl2
 have H := H.pushArg (MP.val [(.slice A3 p.Lights.length c3)] p.Lights) hl3
 refine enter Tryz.func102 rfl rfl (nle rfl) rfl fun a hf => ?_
 rw [impl_lightAt] at hF
 refine sq (reg (wl0 rfl (op_box hf H rfl rfl (by decide) fun b' a w hf H => ?_)))
 refine wl0 rfl (op_box hf H rfl rfl (by decide) fun b2 a w hf H => ?_)
 refine pr 1 hf rfl rfl fun a hf => ?_
 refine wl_end (then_n (sq (reg (pr 1 hf rfl rfl fun a hf => ?_))))
 refine wl0 rfl (op_q hf (rq_loadB hf H TF.ls35 1 rfl rfl rfl) rfl (by decide) fun a hf => ?_)
 refine wl0 rfl (op_q hf (rq_makeFunc hf rfl) rfl (by decide) fun a hf => ?_)
 obtain ⟨y, hy, hF⟩ := bind_some hF
 refine wl0 rfl (op_call hf TF.cl167 rfl (by decide) (slices_IndexFunc_impl_Light_impl_Light_of_lightAt_c1_ok (S := fun _ => True) (mk_list (rep_true (α := List Light) (H.get 0 rfl))) (H.boxTrue 0 rfl) (rfl) hy) fun v w a hp hf => ?_)
 obtain ⟨hb, hp⟩ := hp
 obtain rfl := VR_int hp
 have H := H.keep hb
 refine pr 1 hf rfl rfl fun a hf => ?_
 refine wl_end (then_n (wp_ret (?_)))
 obtain rfl := Option.some.inj hF
 refine ret_1 (fn := Tryz.f102) (r := .tmp 4) hf rfl (rv_tmp hf rfl) ?_
 exact ⟨_, rfl, H.bel, mk_int⟩

/- loop.example/g00897/impl.copyRoute -/
set_option maxHeartbeats 1000000 in
theorem impl_copyRoute_ok {fu : Nat} {w0 : World} {S : Nat → Prop} {v0_ : Value} {r' : Route} {r : Route} (h0 : VR w0 S v0_ r') (hF : impl_copyRoute fu r' = some r) :
    Calls Tryz.prog 152 [v0_].toArray w0 fun e w' => ∃ v, e = .returned v ∧ (Below w0.heap.size w0 w' ∧ ∃ F0, VO w' F0 v r ∧ New w0 w' F0) := by
 obtain ⟨A, c, rfl, hl⟩ := Route_open h0
 have H := Mem.start ⟨w0, []⟩ S
 have H := H.pushArg (MP.val [(.slice A r'.Fibers.length c)] r'.Fibers) hl
 refine enter Tryz.func152 rfl rfl (nle rfl) rfl fun a hf => ?_
 rw [impl_copyRoute] at hF
 refine sq (reg (wl0 rfl (op_box hf H rfl rfl (by decide) fun b' a w hf H => ?_)))
 refine wl0 rfl (op_alloc hf H TF.zv108 rfl (by decide) fun b2 a w hf H => ?_)
 refine wl_end (then_n (sq (drawn [7] (bs := [false, false, false, false, false, false, false, false]) (fuel := 8) (Checked.mixed Tryz.checked) rfl rfl fun w hb => ?_)))
 have H := H.keep hb
 refine tp 0 rfl rfl hf (by kernel_rfl) (fun _ => trivial) rfl fun a hf => ?_
 refine strT (H.let [false, true] [] [] [] rfl rfl rfl rfl) (fun w H => trivial) fun hS => ?_
 refine tS 1 [1, 6, 7] rfl rfl rfl rfl hf (by kernel_rfl) (by kernel_rfl) hS (fun w H => rq_loadB hf H TF.ls3 0 rfl rfl rfl) fun a hf => ?_
 refine tp 3 rfl rfl hf (by kernel_rfl) (fun _ => hS) rfl fun a hf => ?_
 refine tS 4 [4, 5, 6, 7] rfl rfl rfl rfl hf (by kernel_rfl) (by kernel_rfl) hS (fun w H => rq_loadB hf H TF.ls44 0 rfl rfl rfl) fun a hf => ?_
 refine n1 2 (by kernel_rfl) rfl rfl (op_bslice hf H (.sh true) rfl 3 ([] : List Int) [] rfl (fun w => by kernel_rfl) rfl (by decide) rfl trivial el0 (by decide) fun A2 a w hf H => ?_)
 have hS := H.let [false, true] [false] [] [] rfl rfl rfl rfl
 refine ⟨fun _ => hS, ?_⟩
 obtain ⟨l, hl, hF⟩ := bind_some hF
 have H := H.rowWeak 0 rfl
 refine n1 5 (by kernel_rfl) rfl rfl (op_appI hf H Tryz.underlying44 TF.ai3 rfl (by decide) 0 0 rfl rfl rfl rfl (.inl rfl) hl (by decide) fun E A3 c2 a w hf H => ?_)
 have H := H.rowOwn 0 rfl rfl
 have H := H.rowSh 0 rfl
 have hS := H.let [false, true] [false] [] [] rfl rfl rfl rfl
 refine ⟨fun _ => hS, ?_⟩
 refine tP 6 rfl rfl rfl rfl hf (by kernel_rfl) (fun _ => hS) (fun w => rq_build hf (cs := [(.int .i64 r'.Start), (.slice A3 l.length c2)]) rfl (fun w => by kernel_rfl)) fun a hf => ?_
 refine n1 7 (by kernel_rfl) rfl rfl (op_storeB hf H 0 TF.sz108 rfl rfl rfl rfl rfl rfl (nle rfl) fun w H => ?_)
 refine ⟨fun h => absurd h (by decide), ?_⟩
 refine dn (by kernel_rfl) ?_
 refine then_n (wp_ret (?_))
 have H := H.rowOwn 0 rfl rfl
 obtain ⟨F, H⟩ := H.freezeOwn 0 rfl
 have H := H.lend 0 rfl
 obtain rfl := Option.some.inj hF
 refine ret_1 (fn := Tryz.f152) (r := .cell 2 108) hf rfl (rv_cellN hf H 0 TF.la108 rfl rfl rfl) ?_
 have hN := H.ends (X := [(⟨F, MP.own F [(.slice A3 l.length c2)] (l : List Int)⟩ : DI)])
 simp only [List.flatMap_cons, List.flatMap_nil, List.append_nil, List.append_assoc] at hN
 exact ⟨_, rfl, H.bel, F, ⟨_, Route_ownmk (x := ({ Start := r'.Start, Fibers := l } : Route)) (H.ownAt 0 rfl), rfl⟩, by first | exact hN | simpa using hN⟩

/- loop.example/g00897/laws.markText -/
set_option maxHeartbeats 1000000 in
theorem laws_markText_ok {fu : Nat} {w0 : World} {S : Nat → Prop} {v0_ : Value} {k' : Int} {r : ByteArray} (h0 : VR w0 S v0_ k') (hF : laws_markText fu k' = some r) :
    Calls Tryz.prog 199 [v0_].toArray w0 fun e w' => ∃ v, e = .returned v ∧ (Below w0.heap.size w0 w' ∧ VR w' (St ⟨w0, []⟩ S [] [] [] true) v r) := by
 obtain rfl := VR_int h0
 have H := Mem.start ⟨w0, []⟩ S
 refine enter Tryz.func199 rfl rfl (nle rfl) rfl fun a hf => ?_
 rw [laws_markText] at hF
 refine sq (reg (pr 1 hf rfl rfl fun a hf => ?_))
 refine wl_end (then_n (sq (sq (reg (pr 2 hf rfl rfl fun a hf => ?_)))))
 refine wl_end (then_n (iteB hF (fun hc hF => cd_t hf rfl hc ?_) fun hc hF => cd_f hf rfl hc ?_))
 ·refine sq (reg (pr 1 hf rfl rfl fun a hf => ?_))
  refine wl_end (then_n (wp_ret (then_r (?_))))
  obtain rfl := Option.some.inj hF
  refine ret_1 (fn := Tryz.f199) (r := .tmp 2) hf rfl (rv_tmp hf rfl) ?_
  exact ⟨_, rfl, H.bel, mk_str⟩
 ·refine wp_skip (then_n (sq (reg (pr 1 hf rfl rfl fun a hf => ?_))))
  refine wl_end (then_n (sq ?_))
  obtain ⟨out2, hB1, hF⟩ := bind_some hF
  have hf := hf.prune [0, 3] rfl
  have H := H.let [] [] [] [] rfl rfl rfl rfl
  refine loopC (fun (s : Int × ByteArray) (a : Act) (w : World) => match s with | (k2, out') => Fr a 20 [(0, (.int .i64 k2)), (3, (.string out'))] ∧ Mem ⟨w0, []⟩ S [] [] [] [] w) (fun k (s : Int × ByteArray) => laws_markText_L1 fu k s.1 s.2 = some out2) (fun s => out2 = s) (k', ByteArray.empty) fu hB1 ⟨hf, H⟩ (fun s h => by cases h) ?_ ?_
  ·rintro fk ⟨k2, out'⟩ a w hR1 hI
   replace hR1 : laws_markText_L1 fu (fk + 1) k2 out' = some out2 := hR1
   rw [laws_markText_L1] at hR1
   obtain ⟨hf, H⟩ := hI
   refine sq (sq (reg (pr 2 hf rfl rfl fun a hf => ?_)))
   refine wl_end (then_n (iteB hR1 (fun hc2 hR1 => cd_t hf rfl hc2 ?_) fun hc2 hR1 => cd_f hf rfl hc2 ?_))
   ·refine wp_skip (then_n (wp_block (sq (reg (pr 1 hf rfl rfl fun a hf => ?_)))))
    obtain ⟨q, hq, hR1⟩ := bind_some hR1
    refine wl0 rfl (op_q hf (rq_rem hf rfl rfl hq) rfl (by decide) fun a hf => ?_)
    refine pr 1 hf rfl rfl fun a hf => ?_
    refine wl0 rfl (op_q hf (rq_conv u8w Tryz.underlying3 Tryz.underlying5 hf rfl) rfl (by decide) fun a hf => ?_)
    refine wl0 rfl (op_bslice hf H (.sh true) rfl 5 ([(⟨wu8 (w64 (48 + q))⟩ : By)] : List By) [(.int .u8 (wu8 (w64 (48 + q))))] rfl (fun w => by kernel_rfl) rfl (by decide) rfl trivial (el1 (y := (⟨wu8 (w64 (48 + q))⟩ : By)) (rfl)) (by decide) fun A a w hf H => ?_)
    refine wl0 rfl (op_q hf (rq_convBS Tryz.underlying229 Tryz.underlying5 Tryz.underlying9 hf rfl (H.rowTrue 0 rfl)) rfl (by decide) fun a hf => ?_)
    refine pr 1 hf rfl rfl fun a hf => ?_
    obtain ⟨s', hs', hR1⟩ := bind_some hR1
    refine wl0 rfl (op_q hf (rq_scat hf rfl rfl hs') rfl (by decide) fun a hf => ?_)
    refine pr 1 hf rfl rfl fun a hf => ?_
    refine wl_end (then_n (reg (pr 1 hf rfl rfl fun a hf => ?_)))
    obtain ⟨q2, hq2, hR1⟩ := bind_some hR1
    refine wl0 rfl (op_q hf (rq_quo hf rfl rfl hq2) rfl (by decide) fun a hf => ?_)
    refine pr 1 hf rfl rfl fun a hf => ?_
    refine wl_end (blk_n ?_)
    have hf := hf.prune [0, 3] rfl
    have H := H.let [] [false] [] [] rfl rfl rfl rfl
    exact then_n ⟨(q2, s'), hR1, hf, H⟩
   ·refine wp_exit (then_x (then_x (blk_e (?_))))
    have hf := hf.prune [0, 3] rfl
    have H := H.let [] [] [] [] rfl rfl rfl rfl
    exact ⟨(k2, out'), (Option.some.inj hR1).symm, hf, H⟩
  rintro a w ⟨⟨k3, out3⟩, rfl, hf, H⟩
  try dsimp only at hF
  refine then_n (sq (reg (pr 1 hf rfl rfl fun a hf => ?_)))
  obtain ⟨s2, hs2, hF⟩ := bind_some hF
  refine wl0 rfl (op_q hf (rq_scat hf rfl rfl hs2) rfl (by decide) fun a hf => ?_)
  refine pr 1 hf rfl rfl fun a hf => ?_
  refine wl_end (then_n (wp_ret (?_)))
  obtain rfl := Option.some.inj hF
  refine ret_1 (fn := Tryz.f199) (r := .tmp 2) hf rfl (rv_tmp hf rfl) ?_
  exact ⟨_, rfl, H.bel, mk_str⟩

/- loop.example/g00897/laws.markStringS -/
set_option maxHeartbeats 1000000 in
theorem laws_markStringS_ok {fu : Nat} {w0 : World} {S : Nat → Prop} {F : List Nat} {cs : List Value} {v1_ : Value} {a' : List ByteArray} {k' : Int} {r : Int × List ByteArray} (hO : GoTy.own w0 F cs a') (hn : F.Nodup) (h1 : VR w0 S v1_ k') (hF : laws_markStringS fu a' k' = some r) :
    Calls Tryz.prog 145 [(bif GoTy.agg (List ByteArray) then .agg cs.toArray else cs.headD undef), v1_].toArray w0 fun e w' => ∃ v, e = .returned v ∧ (Chg w0 w' F ∧ VR w' (fun _ => True) v r.1 ∧ ∃ F', GoTy.own w' F' cs r.2 ∧ Back w0 w' F F') := by
 obtain rfl := VR_int h1
 obtain ⟨A, c, rfl, hO⟩ := own_list hO
 have H := Mem.startG S hO hn
 obtain ⟨Fs, E, H, -⟩ := H.thaw rfl
 have H := H.rowSh 0 rfl
 refine enter Tryz.func145 rfl rfl (nle rfl) rfl fun a hf => ?_
 rw [laws_markStringS] at hF
 refine sq (reg (pr 1 hf rfl rfl fun a hf => ?_))
 refine wl_end (then_n (sq (sq (reg (pr 1 hf rfl rfl fun a hf => ?_)))))
 refine wl_end (then_n ?_)
 obtain ⟨out', hB1, hF⟩ := bind_some hF
 have hf := hf.prune [0, 1, 5] rfl
 have hf : Fr a 20 [(0, (.slice A a'.length c)), (1, (.int .i64 k')), (5, (.int .i64 0))] := by first | exact hf | (simp only [List.length_set] at hf; exact hf)
 have H := H.let [] [true] [] [] rfl rfl rfl rfl
 refine loopC (fun (s : List ByteArray × Int × Int) (a : Act) (w : World) => match s with | (a2, k2, i) => a2.length = a'.length ∧ Fr a 20 [(0, (.slice A a'.length c)), (1, (.int .i64 k2)), (5, (.int .i64 i))] ∧ Mem ⟨w0, F⟩ S [] [⟨.sh true, E, A, c, (a2 : List ByteArray)⟩] [] [] w) (fun k (s : List ByteArray × Int × Int) => laws_markStringS_L1 fu k s.1 s.2.1 s.2.2 = some out') (fun s => out' = s) (a', k', 0) fu hB1 ⟨rfl, hf, H⟩ (fun s h => by cases h) ?_ ?_
 ·rintro fk ⟨a2, k2, i⟩ a w hR1 hI
  replace hR1 : laws_markStringS_L1 fu (fk + 1) a2 k2 i = some out' := hR1
  rw [laws_markStringS_L1] at hR1
  obtain ⟨hlen, hf, H⟩ := hI
  have hf : Fr a 20 [(0, (.slice A a2.length c)), (1, (.int .i64 k2)), (5, (.int .i64 i))] := by rw [hlen]; exact hf
  refine sq (sq (reg (pr 4 hf rfl rfl fun a hf => ?_)))
  refine wl_end (then_n (iteB hR1 (fun hc hR1 => cd_t hf rfl hc ?_) fun hc hR1 => cd_f hf rfl hc ?_))
  ·refine wp_skip (then_n (sq (wp_block (sq (reg (pr 3 hf rfl rfl fun a hf => ?_))))))
   obtain ⟨y, hy, hR1⟩ := bind_some hR1
   refine wl0 rfl (op_call hf TF.cl199 rfl (by decide) (laws_markText_ok (S := fun _ => True) mk_int hy) fun v w a hp hf => ?_)
   obtain ⟨hb, hp⟩ := hp
   obtain rfl := VR_str hp
   have H := H.keep hb
   obtain ⟨e, he, hR1⟩ := bind_some hR1
   refine wl0 rfl (op_iaddrR hf H Tryz.underlying22 TF.sz9 0 rfl rfl rfl he (by decide) fun p o cs a hf hA hr hk => ?_)
   obtain rfl := hr
   refine wl0 rfl (op_storeR (e' := y) (o := o) (off := 0) hf H TF.sz9 0 rfl rfl rfl rfl rfl (nle rfl) rfl hA he (st_full rfl) fun w H => ?_)
   replace hf : Fr a 20 [(0, (.slice A a2.length c)), (1, (.int .i64 k2)), (5, (.int .i64 i)), (6, (.int .i64 i)), (7, (.slice A a2.length c)), (8, (.int .i64 (a2.length : Int))), (9, (.bool (decide (i < (a2.length : Int))))), (12, (.slice A a2.length c)), (13, (.int .i64 i)), (14, (.int .i64 k2)), (15, (.string y)), (16, (.pointer (some ⟨p, o + 0, none⟩)))] := hf.prune [0, 1, 5, 6, 7, 8, 9, 12, 13, 14, 15, 16] rfl
   replace hf : Fr a 20 [(0, (.slice A (a2.set (i).toNat y).length c)), (1, (.int .i64 k2)), (5, (.int .i64 i)), (6, (.int .i64 i)), (7, (.slice A (a2.set (i).toNat y).length c)), (8, (.int .i64 (a2.length : Int))), (9, (.bool (decide (i < (a2.length : Int))))), (12, (.slice A (a2.set (i).toNat y).length c)), (13, (.int .i64 i)), (14, (.int .i64 k2)), (15, (.string y)), (16, (.pointer (some ⟨p, o + 0, none⟩)))] := by simpa only [List.length_set, Nat.add_zero] using hf
   refine wl_end (then_n (reg (pr 3 hf rfl rfl fun a hf => ?_)))
   refine wl_end (blk_n (then_n (reg (pr 3 hf rfl rfl fun a hf => ?_))))
   have hf := hf.prune [0, 1, 5] rfl
   refine wl_end ?_
   have hf := hf.prune [0, 1, 5] rfl
   have hf : Fr a 20 [(0, (.slice A a'.length c)), (1, (.int .i64 (w64 (k2 + 1)))), (5, (.int .i64 (w64 (i + 1))))] := by first | exact hf | (simp only [List.length_set, hlen] at hf; exact hf)
   have H := H.let [] [true] [] [] rfl rfl rfl rfl
   exact then_n ⟨(a2.set (i).toNat y, w64 (k2 + 1), w64 (i + 1)), hR1, (by simp only [List.length_set, hlen]), hf, H⟩
  ·refine wp_exit (then_x (then_x (blk_e (?_))))
   have hf := hf.prune [0, 1, 5] rfl
   have hf : Fr a 20 [(0, (.slice A a'.length c)), (1, (.int .i64 k2)), (5, (.int .i64 i))] := by first | exact hf | (simp only [List.length_set, hlen] at hf; exact hf)
   have H := H.let [] [true] [] [] rfl rfl rfl rfl
   exact ⟨(a2, k2, i), (Option.some.inj hR1).symm, (by simp only [List.length_set, hlen]), hf, H⟩
 rintro a w ⟨⟨a3, k3, i2⟩, rfl, hlen, hf, H⟩
 try dsimp only at hlen
 have hf : Fr a 20 [(0, (.slice A a3.length c)), (1, (.int .i64 k3)), (5, (.int .i64 i2))] := by rw [hlen]; exact hf
 try dsimp only at hF
 refine then_n (sq (reg (pr 2 hf rfl rfl fun a hf => ?_)))
 refine wl_end (then_n (wp_ret (?_)))
 have H := H.rowOwn 0 rfl rfl
 obtain ⟨F', H⟩ := H.freezeOwn 0 rfl
 rw [hlen] at H
 obtain rfl := Option.some.inj hF
 refine ret_1 (fn := Tryz.f145) (r := .tmp 4) hf rfl (rv_tmp hf rfl) ?_
 exact ⟨_, rfl, H.chg, mk_int, _, H.ownAt 0 rfl, H.back⟩

/- loop.example/g00897/laws.markFiberS -/
set_option maxHeartbeats 1000000 in
theorem laws_markFiberS_ok {fu : Nat} {w0 : World} {S : Nat → Prop} {F : List Nat} {cs : List Value} {v1_ : Value} {a' : List Fiber} {k' : Int} {r : Int × List Fiber} (hO : GoTy.own w0 F cs a') (hn : F.Nodup) (h1 : VR w0 S v1_ k') (hF : laws_markFiberS fu a' k' = some r) :
    Calls Tryz.prog 146 [(bif GoTy.agg (List Fiber) then .agg cs.toArray else cs.headD undef), v1_].toArray w0 fun e w' => ∃ v, e = .returned v ∧ (Chg w0 w' F ∧ VR w' (fun _ => True) v r.1 ∧ ∃ F', GoTy.own w' F' cs r.2 ∧ Back w0 w' F F') := by
 obtain rfl := VR_int h1
 obtain ⟨A, c, rfl, hO⟩ := own_list hO
 have H := Mem.startG S hO hn
 obtain ⟨Fs, E, H, -⟩ := H.thaw rfl
 have H := H.rowSh 0 rfl
 refine enter Tryz.func146 rfl rfl (nle rfl) rfl fun a hf => ?_
 rw [laws_markFiberS] at hF
 refine sq (reg (pr 1 hf rfl rfl fun a hf => ?_))
 refine wl_end (then_n (sq (sq (reg (pr 1 hf rfl rfl fun a hf => ?_)))))
 refine wl_end (then_n ?_)
 obtain ⟨out', hB1, hF⟩ := bind_some hF
 have hf := hf.prune [0, 1, 5] rfl
 have hf : Fr a 41 [(0, (.slice A a'.length c)), (1, (.int .i64 k')), (5, (.int .i64 0))] := by first | exact hf | (simp only [List.length_set] at hf; exact hf)
 have H := H.let [] [true] [] [] rfl rfl rfl rfl
 refine loopC (fun (s : List Fiber × Int × Int) (a : Act) (w : World) => match s with | (a2, k2, i) => a2.length = a'.length ∧ Fr a 41 [(0, (.slice A a'.length c)), (1, (.int .i64 k2)), (5, (.int .i64 i))] ∧ Mem ⟨w0, F⟩ S [] [⟨.sh true, E, A, c, (a2 : List Fiber)⟩] [] [] w) (fun k (s : List Fiber × Int × Int) => laws_markFiberS_L1 fu k s.1 s.2.1 s.2.2 = some out') (fun s => out' = s) (a', k', 0) fu hB1 ⟨rfl, hf, H⟩ (fun s h => by cases h) ?_ ?_
 ·rintro fk ⟨a2, k2, i⟩ a w hR1 hI
  replace hR1 : laws_markFiberS_L1 fu (fk + 1) a2 k2 i = some out' := hR1
  rw [laws_markFiberS_L1] at hR1
  obtain ⟨hlen, hf, H⟩ := hI
  have hf : Fr a 41 [(0, (.slice A a2.length c)), (1, (.int .i64 k2)), (5, (.int .i64 i))] := by rw [hlen]; exact hf
  refine sq (sq (reg (pr 4 hf rfl rfl fun a hf => ?_)))
  refine wl_end (then_n (iteB hR1 (fun hc hR1 => cd_t hf rfl hc ?_) fun hc hR1 => cd_f hf rfl hc ?_))
  ·refine wp_skip (then_n (sq (wp_block (sq (reg (pr 3 hf rfl rfl fun a hf => ?_))))))
   obtain ⟨e, he, hR1⟩ := bind_some hR1
   refine wl0 rfl (op_iaddrR hf H Tryz.underlying32 TF.sz120 0 rfl rfl rfl he (by decide) fun p o cs a hf hA hr hk => ?_)
   obtain rfl := Fiber_cells hr
   refine pr 1 hf rfl rfl fun a hf => ?_
   refine wl0 rfl (op_storeR (e' := ({ A := k2, B := e.B, Length := e.Length, Risk := e.Risk } : Fiber)) (o := o) (off := 0) hf H TF.sz3 0 rfl rfl rfl rfl rfl (nle rfl) rfl hA he (fun cs h => by obtain rfl := Fiber_cells h; exact Fiber_mk (x := ({ A := k2, B := e.B, Length := e.Length, Risk := e.Risk } : Fiber))) fun w H => ?_)
   replace hf : Fr a 41 [(0, (.slice A a2.length c)), (1, (.int .i64 k2)), (5, (.int .i64 i)), (6, (.int .i64 i)), (7, (.slice A a2.length c)), (8, (.int .i64 (a2.length : Int))), (9, (.bool (decide (i < (a2.length : Int))))), (12, (.slice A a2.length c)), (13, (.int .i64 i)), (14, (.int .i64 k2)), (15, (.pointer (some ⟨p, o + 0, none⟩))), (16, (.pointer (some ⟨p, o + 0, none⟩)))] := hf.prune [0, 1, 5, 6, 7, 8, 9, 12, 13, 14, 15, 16] rfl
   replace hf : Fr a 41 [(0, (.slice A (a2.set (i).toNat ({ A := k2, B := e.B, Length := e.Length, Risk := e.Risk } : Fiber)).length c)), (1, (.int .i64 k2)), (5, (.int .i64 i)), (6, (.int .i64 i)), (7, (.slice A (a2.set (i).toNat ({ A := k2, B := e.B, Length := e.Length, Risk := e.Risk } : Fiber)).length c)), (8, (.int .i64 (a2.length : Int))), (9, (.bool (decide (i < (a2.length : Int))))), (12, (.slice A (a2.set (i).toNat ({ A := k2, B := e.B, Length := e.Length, Risk := e.Risk } : Fiber)).length c)), (13, (.int .i64 i)), (14, (.int .i64 k2)), (15, (.pointer (some ⟨p, o + 0, none⟩))), (16, (.pointer (some ⟨p, o + 0, none⟩)))] := by simpa only [List.length_set, Nat.add_zero] using hf
   refine wl_end (then_n (sq (reg (pr 3 hf rfl rfl fun a hf => ?_))))
   refine wl_end (then_n (sq (reg (pr 3 hf rfl rfl fun a hf => ?_))))
   obtain ⟨e2, he2, hR1⟩ := bind_some hR1
   refine wl0 rfl (op_iaddrR hf H Tryz.underlying32 TF.sz120 0 rfl rfl rfl he2 (by decide) fun p2 o2 cs2 a hf hA2 hr2 hk2 => ?_)
   obtain rfl := Fiber_cells hr2
   refine pr 1 hf rfl rfl fun a hf => ?_
   refine wl0 rfl (op_storeR (e' := ({ A := e2.A, B := w64 (k2 + 1), Length := e2.Length, Risk := e2.Risk } : Fiber)) (o := o2) (off := 1) hf H TF.sz3 0 rfl rfl rfl rfl rfl (nle rfl) rfl hA2 he2 (fun cs h => by obtain rfl := Fiber_cells h; exact Fiber_mk (x := ({ A := e2.A, B := w64 (k2 + 1), Length := e2.Length, Risk := e2.Risk } : Fiber))) fun w H => ?_)
   replace hf : Fr a 41 [(0, (.slice A (a2.set (i).toNat ({ A := k2, B := e.B, Length := e.Length, Risk := e.Risk } : Fiber)).length c)), (1, (.int .i64 (w64 (k2 + 1)))), (5, (.int .i64 i)), (6, (.int .i64 i)), (7, (.slice A (a2.set (i).toNat ({ A := k2, B := e.B, Length := e.Length, Risk := e.Risk } : Fiber)).length c)), (8, (.int .i64 (a2.length : Int))), (9, (.bool (decide (i < (a2.length : Int))))), (12, (.slice A (a2.set (i).toNat ({ A := k2, B := e.B, Length := e.Length, Risk := e.Risk } : Fiber)).length c)), (13, (.int .i64 i)), (14, (.int .i64 k2)), (15, (.pointer (some ⟨p, o + 0, none⟩))), (16, (.pointer (some ⟨p, o + 0, none⟩))), (17, (.int .i64 k2)), (18, (.int .i64 (w64 (k2 + 1)))), (19, (.slice A (a2.set (i).toNat ({ A := k2, B := e.B, Length := e.Length, Risk := e.Risk } : Fiber)).length c)), (20, (.int .i64 i)), (21, (.int .i64 (w64 (k2 + 1)))), (22, (.pointer (some ⟨p2, o2 + 0, none⟩))), (23, (.pointer (some ⟨p2, o2 + 1, none⟩)))] := hf.prune [0, 1, 5, 6, 7, 8, 9, 12, 13, 14, 15, 16, 17, 18, 19, 20, 21, 22, 23] rfl
   replace hf : Fr a 41 [(0, (.slice A ((a2.set (i).toNat ({ A := k2, B := e.B, Length := e.Length, Risk := e.Risk } : Fiber)).set (i).toNat ({ A := e2.A, B := w64 (k2 + 1), Length := e2.Length, Risk := e2.Risk } : Fiber)).length c)), (1, (.int .i64 (w64 (k2 + 1)))), (5, (.int .i64 i)), (6, (.int .i64 i)), (7, (.slice A ((a2.set (i).toNat ({ A := k2, B := e.B, Length := e.Length, Risk := e.Risk } : Fiber)).set (i).toNat ({ A := e2.A, B := w64 (k2 + 1), Length := e2.Length, Risk := e2.Risk } : Fiber)).length c)), (8, (.int .i64 (a2.length : Int))), (9, (.bool (decide (i < (a2.length : Int))))), (12, (.slice A ((a2.set (i).toNat ({ A := k2, B := e.B, Length := e.Length, Risk := e.Risk } : Fiber)).set (i).toNat ({ A := e2.A, B := w64 (k2 + 1), Length := e2.Length, Risk := e2.Risk } : Fiber)).length c)), (13, (.int .i64 i)), (14, (.int .i64 k2)), (15, (.pointer (some ⟨p, o + 0, none⟩))), (16, (.pointer (some ⟨p, o + 0, none⟩))), (17, (.int .i64 k2)), (18, (.int .i64 (w64 (k2 + 1)))), (19, (.slice A ((a2.set (i).toNat ({ A := k2, B := e.B, Length := e.Length, Risk := e.Risk } : Fiber)).set (i).toNat ({ A := e2.A, B := w64 (k2 + 1), Length := e2.Length, Risk := e2.Risk } : Fiber)).length c)), (20, (.int .i64 i)), (21, (.int .i64 (w64 (k2 + 1)))), (22, (.pointer (some ⟨p2, o2 + 0, none⟩))), (23, (.pointer (some ⟨p2, o2 + 1, none⟩)))] := by simpa only [List.length_set, Nat.add_zero] using hf
   have hf := hf.prune [0, 1, 5] rfl
   refine wl_end (then_n (sq (reg (pr 3 hf rfl rfl fun a hf => ?_))))
   refine wl_end (then_n (sq (reg (pr 3 hf rfl rfl fun a hf => ?_))))
   obtain ⟨e3, he3, hR1⟩ := bind_some hR1
   refine wl0 rfl (op_iaddrR hf H Tryz.underlying32 TF.sz120 0 rfl rfl rfl he3 (by decide) fun p3 o3 cs3 a hf hA3 hr3 hk3 => ?_)
   obtain rfl := Fiber_cells hr3
   refine pr 1 hf rfl rfl fun a hf => ?_
   refine wl0 rfl (op_storeR (e' := ({ A := e3.A, B := e3.B, Length := w64 ((w64 (k2 + 1)) + 1), Risk := e3.Risk } : Fiber)) (o := o3) (off := 2) hf H TF.sz3 0 rfl rfl rfl rfl rfl (nle rfl) rfl hA3 he3 (fun cs h => by obtain rfl := Fiber_cells h; exact Fiber_mk (x := ({ A := e3.A, B := e3.B, Length := w64 ((w64 (k2 + 1)) + 1), Risk := e3.Risk } : Fiber))) fun w H => ?_)
   replace hf : Fr a 41 [(0, (.slice A ((a2.set (i).toNat ({ A := k2, B := e.B, Length := e.Length, Risk := e.Risk } : Fiber)).set (i).toNat ({ A := e2.A, B := w64 (k2 + 1), Length := e2.Length, Risk := e2.Risk } : Fiber)).length c)), (1, (.int .i64 (w64 ((w64 (k2 + 1)) + 1)))), (5, (.int .i64 i)), (24, (.int .i64 (w64 (k2 + 1)))), (25, (.int .i64 (w64 ((w64 (k2 + 1)) + 1)))), (26, (.slice A ((a2.set (i).toNat ({ A := k2, B := e.B, Length := e.Length, Risk := e.Risk } : Fiber)).set (i).toNat ({ A := e2.A, B := w64 (k2 + 1), Length := e2.Length, Risk := e2.Risk } : Fiber)).length c)), (27, (.int .i64 i)), (28, (.int .i64 (w64 ((w64 (k2 + 1)) + 1)))), (29, (.pointer (some ⟨p3, o3 + 0, none⟩))), (30, (.pointer (some ⟨p3, o3 + 2, none⟩)))] := hf.prune [0, 1, 5, 24, 25, 26, 27, 28, 29, 30] rfl
   replace hf : Fr a 41 [(0, (.slice A (((a2.set (i).toNat ({ A := k2, B := e.B, Length := e.Length, Risk := e.Risk } : Fiber)).set (i).toNat ({ A := e2.A, B := w64 (k2 + 1), Length := e2.Length, Risk := e2.Risk } : Fiber)).set (i).toNat ({ A := e3.A, B := e3.B, Length := w64 ((w64 (k2 + 1)) + 1), Risk := e3.Risk } : Fiber)).length c)), (1, (.int .i64 (w64 ((w64 (k2 + 1)) + 1)))), (5, (.int .i64 i)), (24, (.int .i64 (w64 (k2 + 1)))), (25, (.int .i64 (w64 ((w64 (k2 + 1)) + 1)))), (26, (.slice A (((a2.set (i).toNat ({ A := k2, B := e.B, Length := e.Length, Risk := e.Risk } : Fiber)).set (i).toNat ({ A := e2.A, B := w64 (k2 + 1), Length := e2.Length, Risk := e2.Risk } : Fiber)).set (i).toNat ({ A := e3.A, B := e3.B, Length := w64 ((w64 (k2 + 1)) + 1), Risk := e3.Risk } : Fiber)).length c)), (27, (.int .i64 i)), (28, (.int .i64 (w64 ((w64 (k2 + 1)) + 1)))), (29, (.pointer (some ⟨p3, o3 + 0, none⟩))), (30, (.pointer (some ⟨p3, o3 + 2, none⟩)))] := by simpa only [List.length_set, Nat.add_zero] using hf
   refine wl_end (then_n (sq (reg (pr 3 hf rfl rfl fun a hf => ?_))))
   refine wl_end (then_n (sq (reg (pr 3 hf rfl rfl fun a hf => ?_))))
   obtain ⟨e4, he4, hR1⟩ := bind_some hR1
   refine wl0 rfl (op_iaddrR hf H Tryz.underlying32 TF.sz120 0 rfl rfl rfl he4 (by decide) fun p4 o4 cs4 a hf hA4 hr4 hk4 => ?_)
   obtain rfl := Fiber_cells hr4
   refine pr 1 hf rfl rfl fun a hf => ?_
   refine wl0 rfl (op_storeR (e' := ({ A := e4.A, B := e4.B, Length := e4.Length, Risk := w64 ((w64 ((w64 (k2 + 1)) + 1)) + 1) } : Fiber)) (o := o4) (off := 3) hf H TF.sz3 0 rfl rfl rfl rfl rfl (nle rfl) rfl hA4 he4 (fun cs h => by obtain rfl := Fiber_cells h; exact Fiber_mk (x := ({ A := e4.A, B := e4.B, Length := e4.Length, Risk := w64 ((w64 ((w64 (k2 + 1)) + 1)) + 1) } : Fiber))) fun w H => ?_)
   replace hf : Fr a 41 [(0, (.slice A (((a2.set (i).toNat ({ A := k2, B := e.B, Length := e.Length, Risk := e.Risk } : Fiber)).set (i).toNat ({ A := e2.A, B := w64 (k2 + 1), Length := e2.Length, Risk := e2.Risk } : Fiber)).set (i).toNat ({ A := e3.A, B := e3.B, Length := w64 ((w64 (k2 + 1)) + 1), Risk := e3.Risk } : Fiber)).length c)), (1, (.int .i64 (w64 ((w64 ((w64 (k2 + 1)) + 1)) + 1)))), (5, (.int .i64 i)), (24, (.int .i64 (w64 (k2 + 1)))), (25, (.int .i64 (w64 ((w64 (k2 + 1)) + 1)))), (26, (.slice A (((a2.set (i).toNat ({ A := k2, B := e.B, Length := e.Length, Risk := e.Risk } : Fiber)).set (i).toNat ({ A := e2.A, B := w64 (k2 + 1), Length := e2.Length, Risk := e2.Risk } : Fiber)).set (i).toNat ({ A := e3.A, B := e3.B, Length := w64 ((w64 (k2 + 1)) + 1), Risk := e3.Risk } : Fiber)).length c)), (27, (.int .i64 i)), (28, (.int .i64 (w64 ((w64 (k2 + 1)) + 1)))), (29, (.pointer (some ⟨p3, o3 + 0, none⟩))), (30, (.pointer (some ⟨p3, o3 + 2, none⟩))), (31, (.int .i64 (w64 ((w64 (k2 + 1)) + 1)))), (32, (.int .i64 (w64 ((w64 ((w64 (k2 + 1)) + 1)) + 1)))), (33, (.slice A (((a2.set (i).toNat ({ A := k2, B := e.B, Length := e.Length, Risk := e.Risk } : Fiber)).set (i).toNat ({ A := e2.A, B := w64 (k2 + 1), Length := e2.Length, Risk := e2.Risk } : Fiber)).set (i).toNat ({ A := e3.A, B := e3.B, Length := w64 ((w64 (k2 + 1)) + 1), Risk := e3.Risk } : Fiber)).length c)), (34, (.int .i64 i)), (35, (.int .i64 (w64 ((w64 ((w64 (k2 + 1)) + 1)) + 1)))), (36, (.pointer (some ⟨p4, o4 + 0, none⟩))), (37, (.pointer (some ⟨p4, o4 + 3, none⟩)))] := hf.prune [0, 1, 5, 24, 25, 26, 27, 28, 29, 30, 31, 32, 33, 34, 35, 36, 37] rfl
   replace hf : Fr a 41 [(0, (.slice A ((((a2.set (i).toNat ({ A := k2, B := e.B, Length := e.Length, Risk := e.Risk } : Fiber)).set (i).toNat ({ A := e2.A, B := w64 (k2 + 1), Length := e2.Length, Risk := e2.Risk } : Fiber)).set (i).toNat ({ A := e3.A, B := e3.B, Length := w64 ((w64 (k2 + 1)) + 1), Risk := e3.Risk } : Fiber)).set (i).toNat ({ A := e4.A, B := e4.B, Length := e4.Length, Risk := w64 ((w64 ((w64 (k2 + 1)) + 1)) + 1) } : Fiber)).length c)), (1, (.int .i64 (w64 ((w64 ((w64 (k2 + 1)) + 1)) + 1)))), (5, (.int .i64 i)), (24, (.int .i64 (w64 (k2 + 1)))), (25, (.int .i64 (w64 ((w64 (k2 + 1)) + 1)))), (26, (.slice A ((((a2.set (i).toNat ({ A := k2, B := e.B, Length := e.Length, Risk := e.Risk } : Fiber)).set (i).toNat ({ A := e2.A, B := w64 (k2 + 1), Length := e2.Length, Risk := e2.Risk } : Fiber)).set (i).toNat ({ A := e3.A, B := e3.B, Length := w64 ((w64 (k2 + 1)) + 1), Risk := e3.Risk } : Fiber)).set (i).toNat ({ A := e4.A, B := e4.B, Length := e4.Length, Risk := w64 ((w64 ((w64 (k2 + 1)) + 1)) + 1) } : Fiber)).length c)), (27, (.int .i64 i)), (28, (.int .i64 (w64 ((w64 (k2 + 1)) + 1)))), (29, (.pointer (some ⟨p3, o3 + 0, none⟩))), (30, (.pointer (some ⟨p3, o3 + 2, none⟩))), (31, (.int .i64 (w64 ((w64 (k2 + 1)) + 1)))), (32, (.int .i64 (w64 ((w64 ((w64 (k2 + 1)) + 1)) + 1)))), (33, (.slice A ((((a2.set (i).toNat ({ A := k2, B := e.B, Length := e.Length, Risk := e.Risk } : Fiber)).set (i).toNat ({ A := e2.A, B := w64 (k2 + 1), Length := e2.Length, Risk := e2.Risk } : Fiber)).set (i).toNat ({ A := e3.A, B := e3.B, Length := w64 ((w64 (k2 + 1)) + 1), Risk := e3.Risk } : Fiber)).set (i).toNat ({ A := e4.A, B := e4.B, Length := e4.Length, Risk := w64 ((w64 ((w64 (k2 + 1)) + 1)) + 1) } : Fiber)).length c)), (34, (.int .i64 i)), (35, (.int .i64 (w64 ((w64 ((w64 (k2 + 1)) + 1)) + 1)))), (36, (.pointer (some ⟨p4, o4 + 0, none⟩))), (37, (.pointer (some ⟨p4, o4 + 3, none⟩)))] := by simpa only [List.length_set, Nat.add_zero] using hf
   have hf := hf.prune [0, 1, 5] rfl
   refine wl_end (then_n (reg (pr 3 hf rfl rfl fun a hf => ?_)))
   refine wl_end (blk_n (then_n (reg (pr 3 hf rfl rfl fun a hf => ?_))))
   refine wl_end ?_
   have hf := hf.prune [0, 1, 5] rfl
   have hf : Fr a 41 [(0, (.slice A a'.length c)), (1, (.int .i64 (w64 ((w64 ((w64 ((w64 (k2 + 1)) + 1)) + 1)) + 1)))), (5, (.int .i64 (w64 (i + 1))))] := by first | exact hf | (simp only [List.length_set, hlen] at hf; exact hf)
   have H := H.let [] [true] [] [] rfl rfl rfl rfl
   exact then_n ⟨((((a2.set (i).toNat ({ A := k2, B := e.B, Length := e.Length, Risk := e.Risk } : Fiber)).set (i).toNat ({ A := e2.A, B := w64 (k2 + 1), Length := e2.Length, Risk := e2.Risk } : Fiber)).set (i).toNat ({ A := e3.A, B := e3.B, Length := w64 ((w64 (k2 + 1)) + 1), Risk := e3.Risk } : Fiber)).set (i).toNat ({ A := e4.A, B := e4.B, Length := e4.Length, Risk := w64 ((w64 ((w64 (k2 + 1)) + 1)) + 1) } : Fiber), w64 ((w64 ((w64 ((w64 (k2 + 1)) + 1)) + 1)) + 1), w64 (i + 1)), hR1, (by simp only [List.length_set, hlen]), hf, H⟩
  ·refine wp_exit (then_x (then_x (blk_e (?_))))
   have hf := hf.prune [0, 1, 5] rfl
   have hf : Fr a 41 [(0, (.slice A a'.length c)), (1, (.int .i64 k2)), (5, (.int .i64 i))] := by first | exact hf | (simp only [List.length_set, hlen] at hf; exact hf)
   have H := H.let [] [true] [] [] rfl rfl rfl rfl
   exact ⟨(a2, k2, i), (Option.some.inj hR1).symm, (by simp only [List.length_set, hlen]), hf, H⟩
 rintro a w ⟨⟨a3, k3, i2⟩, rfl, hlen, hf, H⟩
 try dsimp only at hlen
 have hf : Fr a 41 [(0, (.slice A a3.length c)), (1, (.int .i64 k3)), (5, (.int .i64 i2))] := by rw [hlen]; exact hf
 try dsimp only at hF
 refine then_n (sq (reg (pr 2 hf rfl rfl fun a hf => ?_)))
 refine wl_end (then_n (wp_ret (?_)))
 have H := H.rowOwn 0 rfl rfl
 obtain ⟨F', H⟩ := H.freezeOwn 0 rfl
 rw [hlen] at H
 obtain rfl := Option.some.inj hF
 refine ret_1 (fn := Tryz.f146) (r := .tmp 4) hf rfl (rv_tmp hf rfl) ?_
 exact ⟨_, rfl, H.chg, mk_int, _, H.ownAt 0 rfl, H.back⟩

/- loop.example/g00897/laws.markNetwork -/
set_option maxHeartbeats 1000000 in
theorem laws_markNetwork_ok {fu : Nat} {w0 : World} {S : Nat → Prop} {F : List Nat} {cs : List Value} {v1_ : Value} {a' : Network} {k' : Int} {r : Int × Network} (hO : GoTy.own w0 F cs a') (hn : F.Nodup) (h1 : VR w0 S v1_ k') (hF : laws_markNetwork fu a' k' = some r) :
    Calls Tryz.prog 79 [(bif GoTy.agg (Network) then .agg cs.toArray else cs.headD undef), v1_].toArray w0 fun e w' => ∃ v, e = .returned v ∧ (Chg w0 w' F ∧ VR w' (fun _ => True) v r.1 ∧ ∃ F', GoTy.own w' F' cs r.2 ∧ Back w0 w' F F') := by
 obtain rfl := VR_int h1
 obtain ⟨A1, c1, F1, A2, c2, F2, rfl, hFe, l1, l2⟩ := Network_own hO
 have H := Mem.startG S hO hn
 have H := H.recast (X := [(⟨F, MP.own F [(.slice A1 a'.Nodes.length c1), (.slice A2 a'.Fibers.length c2)] (a' : Network)⟩ : DI)]) (Y := [(⟨F1, MP.own F1 [(.slice A1 a'.Nodes.length c1)] (a'.Nodes : List ByteArray)⟩ : DI), (⟨F2, MP.own F2 [(.slice A2 a'.Fibers.length c2)] (a'.Fibers : List Fiber)⟩ : DI)]) (D := []) (List.Perm.of_eq (by simp [hFe])) fun _ => (ps1 l1 (ps1 l2 ps0))
 have H := H.lend 0 rfl
 have H := H.lend 1 rfl
 refine enter Tryz.func79 rfl rfl (nle rfl) rfl fun a hf => ?_
 rw [laws_markNetwork] at hF
 refine sq (reg (wl0 rfl (op_box hf H rfl rfl (by decide) fun b' a w hf H => ?_)))
 refine pr 1 hf rfl rfl fun a hf => ?_
 refine wl_end (then_n (sq (reg (pr 1 hf rfl rfl fun a hf => ?_))))
 refine wl0 rfl (op_q hf (rq_loadB hf H TF.ls22 0 rfl rfl rfl) rfl (by decide) fun a hf => ?_)
 refine pr 1 hf rfl rfl fun a hf => ?_
 obtain ⟨y, hy, hF⟩ := bind_some hF
 refine wl0 rfl (op_call hf TF.cl145 rfl (by decide) (laws_markStringS_ok (S := fun _ => True) (F := F1) (cs := [(.slice A1 a'.Nodes.length c1)]) (H.ownAt 0 rfl) H.diNd.1 mk_int hy) fun v w a hp hf => ?_)
 obtain ⟨hch, hv, F4, ho, hbk⟩ := hp
 obtain rfl := VR_int hv
 have H := H.wrote rfl hch ho hbk
 have H := H.lend 0 rfl
 have H := H.lend 1 rfl
 refine pr 1 hf rfl rfl fun a hf => ?_
 refine wl_end (then_n (sq (reg (pr 1 hf rfl rfl fun a hf => ?_))))
 refine wl0 rfl (op_q hf (rq_loadB hf H TF.ls32 0 rfl rfl rfl) rfl (by decide) fun a hf => ?_)
 refine pr 1 hf rfl rfl fun a hf => ?_
 have H := H.frontD 1 rfl
 obtain ⟨y2, hy2, hF⟩ := bind_some hF
 refine wl0 rfl (op_call hf TF.cl146 rfl (by decide) (laws_markFiberS_ok (S := fun _ => True) (F := F2) (cs := [(.slice A2 a'.Fibers.length c2)]) (H.ownAt 0 rfl) H.diNd.1 mk_int hy2) fun v2 w a hp2 hf => ?_)
 obtain ⟨hch2, hv2, F5, ho2, hbk2⟩ := hp2
 obtain rfl := VR_int hv2
 have H := H.wrote rfl hch2 ho2 hbk2
 have H := H.lend 0 rfl
 have H := H.lend 1 rfl
 refine pr 1 hf rfl rfl fun a hf => ?_
 refine wl_end (then_n (sq (reg (pr 2 hf rfl rfl fun a hf => ?_))))
 refine wl_end (then_n (wp_ret (?_)))
 have H := H.frontD 1 rfl
 have H := H.recast (X := [(⟨F4, MP.own F4 [(.slice A1 a'.Nodes.length c1)] (y.2 : List ByteArray)⟩ : DI), (⟨F5, MP.own F5 [(.slice A2 a'.Fibers.length c2)] (y2.2 : List Fiber)⟩ : DI)]) (Y := [(⟨(F4 ++ F5), MP.own (F4 ++ F5) [(.slice A1 a'.Nodes.length c1), (.slice A2 a'.Fibers.length c2)] (({ Nodes := y.2, Fibers := y2.2 } : Network) : Network)⟩ : DI)]) (List.Perm.of_eq (by simp)) fun _ => ps1 (Network_ownmk (x := ({ Nodes := y.2, Fibers := y2.2 } : Network)) (H.ownAt 0 rfl) (H.ownAt 1 rfl)) ps0
 obtain rfl := Option.some.inj hF
 refine ret_1 (fn := Tryz.f79) (r := .tmp 4) hf rfl (rv_tmp hf rfl) ?_
 exact ⟨_, rfl, H.chg, mk_int, _, H.ownAt 0 rfl, H.back⟩

/- loop.example/g00897/laws.markIntS -/
set_option maxHeartbeats 1000000 in
theorem laws_markIntS_ok {fu : Nat} {w0 : World} {S : Nat → Prop} {F : List Nat} {cs : List Value} {v1_ : Value} {a' : List Int} {k' : Int} {r : Int × List Int} (hO : GoTy.own w0 F cs a') (hn : F.Nodup) (h1 : VR w0 S v1_ k') (hF : laws_markIntS fu a' k' = some r) :
    Calls Tryz.prog 26 [(bif GoTy.agg (List Int) then .agg cs.toArray else cs.headD undef), v1_].toArray w0 fun e w' => ∃ v, e = .returned v ∧ (Chg w0 w' F ∧ VR w' (fun _ => True) v r.1 ∧ ∃ F', GoTy.own w' F' cs r.2 ∧ Back w0 w' F F') := by
 obtain rfl := VR_int h1
 obtain ⟨A, c, rfl, hO⟩ := own_list hO
 have H := Mem.startG S hO hn
 obtain ⟨Fs, E, H, -⟩ := H.thaw rfl
 have H := H.rowSh 0 rfl
 refine enter Tryz.func26 rfl rfl (nle rfl) rfl fun a hf => ?_
 rw [laws_markIntS] at hF
 refine sq (reg (pr 1 hf rfl rfl fun a hf => ?_))
 refine wl_end (then_n (sq (sq (reg (pr 1 hf rfl rfl fun a hf => ?_)))))
 refine wl_end (then_n ?_)
 obtain ⟨out', hB1, hF⟩ := bind_some hF
 have hf := hf.prune [0, 1, 5] rfl
 have hf : Fr a 19 [(0, (.slice A a'.length c)), (1, (.int .i64 k')), (5, (.int .i64 0))] := by first | exact hf | (simp only [List.length_set] at hf; exact hf)
 have H := H.let [] [true] [] [] rfl rfl rfl rfl
 refine loopC (fun (s : List Int × Int × Int) (a : Act) (w : World) => match s with | (a2, k2, i) => a2.length = a'.length ∧ Fr a 19 [(0, (.slice A a'.length c)), (1, (.int .i64 k2)), (5, (.int .i64 i))] ∧ Mem ⟨w0, F⟩ S [] [⟨.sh true, E, A, c, (a2 : List Int)⟩] [] [] w) (fun k (s : List Int × Int × Int) => laws_markIntS_L1 fu k s.1 s.2.1 s.2.2 = some out') (fun s => out' = s) (a', k', 0) fu hB1 ⟨rfl, hf, H⟩ (fun s h => by cases h) ?_ ?_
 ·rintro fk ⟨a2, k2, i⟩ a w hR1 hI
  replace hR1 : laws_markIntS_L1 fu (fk + 1) a2 k2 i = some out' := hR1
  rw [laws_markIntS_L1] at hR1
  obtain ⟨hlen, hf, H⟩ := hI
  have hf : Fr a 19 [(0, (.slice A a2.length c)), (1, (.int .i64 k2)), (5, (.int .i64 i))] := by rw [hlen]; exact hf
  refine sq (sq (reg (pr 4 hf rfl rfl fun a hf => ?_)))
  refine wl_end (then_n (iteB hR1 (fun hc hR1 => cd_t hf rfl hc ?_) fun hc hR1 => cd_f hf rfl hc ?_))
  ·refine wp_skip (then_n (sq (wp_block (sq (reg (pr 3 hf rfl rfl fun a hf => ?_))))))
   obtain ⟨e, he, hR1⟩ := bind_some hR1
   refine wl0 rfl (op_iaddrR hf H Tryz.underlying44 TF.sz3 0 rfl rfl rfl he (by decide) fun p o cs a hf hA hr hk => ?_)
   obtain rfl := hr
   refine wl0 rfl (op_storeR (e' := k2) (o := o) (off := 0) hf H TF.sz3 0 rfl rfl rfl rfl rfl (nle rfl) rfl hA he (st_full rfl) fun w H => ?_)
   replace hf : Fr a 19 [(0, (.slice A a2.length c)), (1, (.int .i64 k2)), (5, (.int .i64 i)), (6, (.int .i64 i)), (7, (.slice A a2.length c)), (8, (.int .i64 (a2.length : Int))), (9, (.bool (decide (i < (a2.length : Int))))), (12, (.slice A a2.length c)), (13, (.int .i64 i)), (14, (.int .i64 k2)), (15, (.pointer (some ⟨p, o + 0, none⟩)))] := hf.prune [0, 1, 5, 6, 7, 8, 9, 12, 13, 14, 15] rfl
   replace hf : Fr a 19 [(0, (.slice A (a2.set (i).toNat k2).length c)), (1, (.int .i64 k2)), (5, (.int .i64 i)), (6, (.int .i64 i)), (7, (.slice A (a2.set (i).toNat k2).length c)), (8, (.int .i64 (a2.length : Int))), (9, (.bool (decide (i < (a2.length : Int))))), (12, (.slice A (a2.set (i).toNat k2).length c)), (13, (.int .i64 i)), (14, (.int .i64 k2)), (15, (.pointer (some ⟨p, o + 0, none⟩)))] := by simpa only [List.length_set, Nat.add_zero] using hf
   refine wl_end (then_n (reg (pr 3 hf rfl rfl fun a hf => ?_)))
   refine wl_end (blk_n (then_n (reg (pr 3 hf rfl rfl fun a hf => ?_))))
   refine wl_end ?_
   have hf := hf.prune [0, 1, 5] rfl
   have hf : Fr a 19 [(0, (.slice A a'.length c)), (1, (.int .i64 (w64 (k2 + 1)))), (5, (.int .i64 (w64 (i + 1))))] := by first | exact hf | (simp only [List.length_set, hlen] at hf; exact hf)
   have H := H.let [] [true] [] [] rfl rfl rfl rfl
   exact then_n ⟨(a2.set (i).toNat k2, w64 (k2 + 1), w64 (i + 1)), hR1, (by simp only [List.length_set, hlen]), hf, H⟩
  ·refine wp_exit (then_x (then_x (blk_e (?_))))
   have hf := hf.prune [0, 1, 5] rfl
   have hf : Fr a 19 [(0, (.slice A a'.length c)), (1, (.int .i64 k2)), (5, (.int .i64 i))] := by first | exact hf | (simp only [List.length_set, hlen] at hf; exact hf)
   have H := H.let [] [true] [] [] rfl rfl rfl rfl
   exact ⟨(a2, k2, i), (Option.some.inj hR1).symm, (by simp only [List.length_set, hlen]), hf, H⟩
 rintro a w ⟨⟨a3, k3, i2⟩, rfl, hlen, hf, H⟩
 try dsimp only at hlen
 have hf : Fr a 19 [(0, (.slice A a3.length c)), (1, (.int .i64 k3)), (5, (.int .i64 i2))] := by rw [hlen]; exact hf
 try dsimp only at hF
 refine then_n (sq (reg (pr 2 hf rfl rfl fun a hf => ?_)))
 refine wl_end (then_n (wp_ret (?_)))
 have H := H.rowOwn 0 rfl rfl
 obtain ⟨F', H⟩ := H.freezeOwn 0 rfl
 rw [hlen] at H
 obtain rfl := Option.some.inj hF
 refine ret_1 (fn := Tryz.f26) (r := .tmp 4) hf rfl (rv_tmp hf rfl) ?_
 exact ⟨_, rfl, H.chg, mk_int, _, H.ownAt 0 rfl, H.back⟩

/- loop.example/g00897/laws.markLightS -/
set_option maxHeartbeats 1000000 in
theorem laws_markLightS_ok {fu : Nat} {w0 : World} {S : Nat → Prop} {F : List Nat} {cs : List Value} {v1_ : Value} {a' : List Light} {k' : Int} {r : Int × List Light} (hO : GoTy.own w0 F cs a') (hn : F.Nodup) (h1 : VR w0 S v1_ k') (hF : laws_markLightS fu a' k' = some r) :
    Calls Tryz.prog 80 [(bif GoTy.agg (List Light) then .agg cs.toArray else cs.headD undef), v1_].toArray w0 fun e w' => ∃ v, e = .returned v ∧ (Chg w0 w' F ∧ VR w' (fun _ => True) v r.1 ∧ ∃ F', GoTy.own w' F' cs r.2 ∧ Back w0 w' F F') := by
 obtain rfl := VR_int h1
 obtain ⟨A, c, rfl, hO⟩ := own_list hO
 have H := Mem.startG S hO hn
 obtain ⟨Fs, E, H, -⟩ := H.thaw rfl
 refine enter Tryz.func80 rfl rfl (nle rfl) rfl fun a hf => ?_
 rw [laws_markLightS] at hF
 refine sq (reg (pr 1 hf rfl rfl fun a hf => ?_))
 refine wl_end (then_n (sq (sq (reg (pr 1 hf rfl rfl fun a hf => ?_)))))
 refine wl_end (then_n ?_)
 obtain ⟨out', hB1, hF⟩ := bind_some hF
 have hf := hf.prune [0, 1, 5] rfl
 have hf : Fr a 52 [(0, (.slice A a'.length c)), (1, (.int .i64 k')), (5, (.int .i64 0))] := by first | exact hf | (simp only [List.length_set] at hf; exact hf)
 have H := H.let [] [true] [] [] rfl rfl rfl rfl
 refine loopC (fun (s : List Light × Int × Int) (a : Act) (w : World) => match s with | (a2, k2, i) => ∃ (Fs2 : List (List Nat)), a2.length = a'.length ∧ Fr a 52 [(0, (.slice A a'.length c)), (1, (.int .i64 k2)), (5, (.int .i64 i))] ∧ Mem ⟨w0, F⟩ S [] [⟨.ow Fs2, E, A, c, (a2 : List Light)⟩] [] [] w) (fun k (s : List Light × Int × Int) => laws_markLightS_L1 fu k s.1 s.2.1 s.2.2 = some out') (fun s => out' = s) (a', k', 0) fu hB1 ⟨Fs, rfl, hf, H⟩ (fun s h => by cases h) ?_ ?_
 ·rintro fk ⟨a2, k2, i⟩ a w hR1 hI
  replace hR1 : laws_markLightS_L1 fu (fk + 1) a2 k2 i = some out' := hR1
  rw [laws_markLightS_L1] at hR1
  obtain ⟨Fs2, hlen, hf, H⟩ := hI
  have hf : Fr a 52 [(0, (.slice A a2.length c)), (1, (.int .i64 k2)), (5, (.int .i64 i))] := by rw [hlen]; exact hf
  refine sq (sq (reg (pr 4 hf rfl rfl fun a hf => ?_)))
  refine wl_end (then_n (iteB hR1 (fun hc hR1 => cd_t hf rfl hc ?_) fun hc hR1 => cd_f hf rfl hc ?_))
  ·refine wp_skip (then_n (sq (wp_block (sq (reg (pr 3 hf rfl rfl fun a hf => ?_))))))
   obtain ⟨e, he, hR1⟩ := bind_some hR1
   refine wl0 rfl (op_iaddrR hf H Tryz.underlying35 TF.sz112 0 rfl rfl rfl he (by decide) fun p o cs a hf hA hr hk => ?_)
   have hrk := hr
   obtain ⟨A2, c2, rfl, hl⟩ := Light_cells hr
   have H := H.push (true, MP.val [(.slice A2 e.Route.Fibers.length c2)] e.Route.Fibers) hl
   refine pr 1 hf rfl rfl fun a hf => ?_
   refine wl0 rfl (op_storeR (e' := ({ Id := k2, Route := e.Route, Block := e.Block } : Light)) (o := o) (off := 0) hf H TF.sz3 0 rfl rfl rfl rfl rfl (nle rfl) rfl hA he (st_own fun F cs h => by obtain ⟨A0, c0, F0, rfl, rfl, l0⟩ := Light_own h; exact Light_ownmk (x := ({ Id := k2, Route := e.Route, Block := e.Block } : Light)) l0) fun w H => ?_)
   replace hf : Fr a 52 [(0, (.slice A a2.length c)), (1, (.int .i64 k2)), (5, (.int .i64 i)), (6, (.int .i64 i)), (7, (.slice A a2.length c)), (8, (.int .i64 (a2.length : Int))), (9, (.bool (decide (i < (a2.length : Int))))), (12, (.slice A a2.length c)), (13, (.int .i64 i)), (14, (.int .i64 k2)), (15, (.pointer (some ⟨p, o + 0, none⟩))), (16, (.pointer (some ⟨p, o + 0, none⟩)))] := hf.prune [0, 1, 5, 6, 7, 8, 9, 12, 13, 14, 15, 16] rfl
   replace hf : Fr a 52 [(0, (.slice A (a2.set (i).toNat ({ Id := k2, Route := e.Route, Block := e.Block } : Light)).length c)), (1, (.int .i64 k2)), (5, (.int .i64 i)), (6, (.int .i64 i)), (7, (.slice A (a2.set (i).toNat ({ Id := k2, Route := e.Route, Block := e.Block } : Light)).length c)), (8, (.int .i64 (a2.length : Int))), (9, (.bool (decide (i < (a2.length : Int))))), (12, (.slice A (a2.set (i).toNat ({ Id := k2, Route := e.Route, Block := e.Block } : Light)).length c)), (13, (.int .i64 i)), (14, (.int .i64 k2)), (15, (.pointer (some ⟨p, o + 0, none⟩))), (16, (.pointer (some ⟨p, o + 0, none⟩)))] := by simpa only [List.length_set, Nat.add_zero] using hf
   refine wl_end (then_n (sq (reg (pr 3 hf rfl rfl fun a hf => ?_))))
   refine wl_end (then_n (sq (reg (pr 3 hf rfl rfl fun a hf => ?_))))
   obtain ⟨e2, he2, hR1⟩ := bind_some hR1
   refine wl0 rfl (op_iaddrR hf H Tryz.underlying35 TF.sz112 0 rfl rfl rfl he2 (by decide) fun p2 o2 cs2 a hf hA2 hr2 hk2 => ?_)
   have hrk2 := hr2
   obtain ⟨A3, c3, rfl, hl2⟩ := Light_cells hr2
   have H := H.push (true, MP.val [(.slice A3 e2.Route.Fibers.length c3)] e2.Route.Fibers) hl2
   refine pr 2 hf rfl rfl fun a hf => ?_
   refine wl0 rfl (op_storeR (e' := ({ Id := e2.Id, Route := ({ Start := w64 (k2 + 1), Fibers := e2.Route.Fibers } : Route), Block := e2.Block } : Light)) (o := o2) (off := 1) hf H TF.sz3 0 rfl rfl rfl rfl rfl (nle rfl) rfl hA2 he2 (st_own fun F cs h => by obtain ⟨A0, c0, F0, rfl, rfl, l0⟩ := Light_own h; exact Light_ownmk (x := ({ Id := e2.Id, Route := ({ Start := w64 (k2 + 1), Fibers := e2.Route.Fibers } : Route), Block := e2.Block } : Light)) l0) fun w H => ?_)
   replace hf : Fr a 52 [(0, (.slice A (a2.set (i).toNat ({ Id := k2, Route := e.Route, Block := e.Block } : Light)).length c)), (1, (.int .i64 (w64 (k2 + 1)))), (5, (.int .i64 i)), (6, (.int .i64 i)), (7, (.slice A (a2.set (i).toNat ({ Id := k2, Route := e.Route, Block := e.Block } : Light)).length c)), (8, (.int .i64 (a2.length : Int))), (9, (.bool (decide (i < (a2.length : Int))))), (12, (.slice A (a2.set (i).toNat ({ Id := k2, Route := e.Route, Block := e.Block } : Light)).length c)), (13, (.int .i64 i)), (14, (.int .i64 k2)), (15, (.pointer (some ⟨p, o + 0, none⟩))), (16, (.pointer (some ⟨p, o + 0, none⟩))), (17, (.int .i64 k2)), (18, (.int .i64 (w64 (k2 + 1)))), (19, (.slice A (a2.set (i).toNat ({ Id := k2, Route := e.Route, Block := e.Block } : Light)).length c)), (20, (.int .i64 i)), (21, (.int .i64 (w64 (k2 + 1)))), (22, (.pointer (some ⟨p2, o2 + 0, none⟩))), (23, (.pointer (some ⟨p2, o2 + 1, none⟩))), (24, (.pointer (some ⟨p2, o2 + 1, none⟩)))] := hf.prune [0, 1, 5, 6, 7, 8, 9, 12, 13, 14, 15, 16, 17, 18, 19, 20, 21, 22, 23, 24] rfl
   replace hf : Fr a 52 [(0, (.slice A ((a2.set (i).toNat ({ Id := k2, Route := e.Route, Block := e.Block } : Light)).set (i).toNat ({ Id := e2.Id, Route := ({ Start := w64 (k2 + 1), Fibers := e2.Route.Fibers } : Route), Block := e2.Block } : Light)).length c)), (1, (.int .i64 (w64 (k2 + 1)))), (5, (.int .i64 i)), (6, (.int .i64 i)), (7, (.slice A ((a2.set (i).toNat ({ Id := k2, Route := e.Route, Block := e.Block } : Light)).set (i).toNat ({ Id := e2.Id, Route := ({ Start := w64 (k2 + 1), Fibers := e2.Route.Fibers } : Route), Block := e2.Block } : Light)).length c)), (8, (.int .i64 (a2.length : Int))), (9, (.bool (decide (i < (a2.length : Int))))), (12, (.slice A ((a2.set (i).toNat ({ Id := k2, Route := e.Route, Block := e.Block } : Light)).set (i).toNat ({ Id := e2.Id, Route := ({ Start := w64 (k2 + 1), Fibers := e2.Route.Fibers } : Route), Block := e2.Block } : Light)).length c)), (13, (.int .i64 i)), (14, (.int .i64 k2)), (15, (.pointer (some ⟨p, o + 0, none⟩))), (16, (.pointer (some ⟨p, o + 0, none⟩))), (17, (.int .i64 k2)), (18, (.int .i64 (w64 (k2 + 1)))), (19, (.slice A ((a2.set (i).toNat ({ Id := k2, Route := e.Route, Block := e.Block } : Light)).set (i).toNat ({ Id := e2.Id, Route := ({ Start := w64 (k2 + 1), Fibers := e2.Route.Fibers } : Route), Block := e2.Block } : Light)).length c)), (20, (.int .i64 i)), (21, (.int .i64 (w64 (k2 + 1)))), (22, (.pointer (some ⟨p2, o2 + 0, none⟩))), (23, (.pointer (some ⟨p2, o2 + 1, none⟩))), (24, (.pointer (some ⟨p2, o2 + 1, none⟩)))] := by simpa only [List.length_set, Nat.add_zero] using hf
   have hf := hf.prune [0, 1, 5] rfl
   refine wl_end (then_n (sq (reg (pr 3 hf rfl rfl fun a hf => ?_))))
   refine wl_end (then_n (sq (reg (pr 2 hf rfl rfl fun a hf => ?_))))
   obtain ⟨e3, he3, hR1⟩ := bind_some hR1
   refine wl0 rfl (op_iaddrR hf H Tryz.underlying35 TF.sz112 0 rfl rfl rfl he3 (by decide) fun p3 o3 cs3 a hf hA3 hr3 hk3 => ?_)
   have hrk3 := hr3
   obtain ⟨A4, c4, rfl, hl3⟩ := Light_cells hr3
   have H := H.push (true, MP.val [(.slice A4 e3.Route.Fibers.length c4)] e3.Route.Fibers) hl3
   refine pr 2 hf rfl rfl fun a hf => ?_
   refine wl0 rfl (op_q hf (rq_load1 hf TF.ls44 rfl (hk3 2 _ rfl)) rfl (by decide) fun a hf => ?_)
   refine pr 1 hf rfl rfl fun a hf => ?_
   obtain ⟨y, hy, hR1⟩ := bind_some hR1
   obtain ⟨F2, hO, hNd, hnx⟩ := H.mutEl rfl he3 hA3 hrk3 hk3 Light_lens_Route_Fibers rfl
   refine wl0 rfl (op_call hf TF.cl26 rfl (by decide) (laws_markIntS_ok (S := fun _ => True) (cs := [(.slice A4 e3.Route.Fibers.length c4)]) hO hNd mk_int hy) fun v w a hp hf => ?_)
   obtain ⟨hch, hv, F3, ho, hbk⟩ := hp
   obtain rfl := VR_int hv
   obtain ⟨Fs3, H⟩ := hnx _ _ _ hch ho hbk
   replace hf : Fr a 52 [(0, (.slice A ((a2.set (i).toNat ({ Id := k2, Route := e.Route, Block := e.Block } : Light)).set (i).toNat ({ Id := e2.Id, Route := ({ Start := w64 (k2 + 1), Fibers := e2.Route.Fibers } : Route), Block := e2.Block } : Light)).length c)), (1, (.int .i64 (w64 ((w64 (k2 + 1)) + 1)))), (5, (.int .i64 i)), (25, (.int .i64 (w64 (k2 + 1)))), (26, (.int .i64 (w64 ((w64 (k2 + 1)) + 1)))), (27, (.slice A ((a2.set (i).toNat ({ Id := k2, Route := e.Route, Block := e.Block } : Light)).set (i).toNat ({ Id := e2.Id, Route := ({ Start := w64 (k2 + 1), Fibers := e2.Route.Fibers } : Route), Block := e2.Block } : Light)).length c)), (28, (.int .i64 i)), (29, (.pointer (some ⟨p3, o3 + 0, none⟩))), (30, (.pointer (some ⟨p3, o3 + 1, none⟩))), (31, (.pointer (some ⟨p3, o3 + 2, none⟩))), (32, (.slice A4 e3.Route.Fibers.length c4)), (33, (.int .i64 (w64 ((w64 (k2 + 1)) + 1)))), (34, (.int .i64 y.1))] := hf.prune [0, 1, 5, 25, 26, 27, 28, 29, 30, 31, 32, 33, 34] rfl
   replace hf : Fr a 52 [(0, (.slice A (((a2.set (i).toNat ({ Id := k2, Route := e.Route, Block := e.Block } : Light)).set (i).toNat ({ Id := e2.Id, Route := ({ Start := w64 (k2 + 1), Fibers := e2.Route.Fibers } : Route), Block := e2.Block } : Light)).set (i).toNat ({ e3 with Route := { e3.Route with Fibers := y.2 } })).length c)), (1, (.int .i64 (w64 ((w64 (k2 + 1)) + 1)))), (5, (.int .i64 i)), (25, (.int .i64 (w64 (k2 + 1)))), (26, (.int .i64 (w64 ((w64 (k2 + 1)) + 1)))), (27, (.slice A (((a2.set (i).toNat ({ Id := k2, Route := e.Route, Block := e.Block } : Light)).set (i).toNat ({ Id := e2.Id, Route := ({ Start := w64 (k2 + 1), Fibers := e2.Route.Fibers } : Route), Block := e2.Block } : Light)).set (i).toNat ({ e3 with Route := { e3.Route with Fibers := y.2 } })).length c)), (28, (.int .i64 i)), (29, (.pointer (some ⟨p3, o3 + 0, none⟩))), (30, (.pointer (some ⟨p3, o3 + 1, none⟩))), (31, (.pointer (some ⟨p3, o3 + 2, none⟩))), (32, (.slice A4 e3.Route.Fibers.length c4)), (33, (.int .i64 (w64 ((w64 (k2 + 1)) + 1)))), (34, (.int .i64 y.1))] := by simpa only [List.length_set, Nat.add_zero] using hf
   refine pr 1 hf rfl rfl fun a hf => ?_
   refine wl_end (then_n (sq (reg (pr 3 hf rfl rfl fun a hf => ?_))))
   obtain ⟨e4, he4, hR1⟩ := bind_some hR1
   refine wl0 rfl (op_iaddrR hf H Tryz.underlying35 TF.sz112 0 rfl rfl rfl he4 (by decide) fun p4 o4 cs4 a hf hA4 hr4 hk4 => ?_)
   have hrk4 := hr4
   obtain ⟨A5, c5, rfl, hl4⟩ := Light_cells hr4
   have H := H.push (true, MP.val [(.slice A5 e4.Route.Fibers.length c5)] e4.Route.Fibers) hl4
   refine pr 2 hf rfl rfl fun a hf => ?_
   refine wl0 rfl (op_storeR (e' := ({ Id := e4.Id, Route := e4.Route, Block := ({ First := y.1, Count := e4.Block.Count } : Block) } : Light)) (o := o4) (off := 3) hf H TF.sz3 0 rfl rfl rfl rfl rfl (nle rfl) rfl hA4 he4 (st_own fun F cs h => by obtain ⟨A0, c0, F0, rfl, rfl, l0⟩ := Light_own h; exact Light_ownmk (x := ({ Id := e4.Id, Route := e4.Route, Block := ({ First := y.1, Count := e4.Block.Count } : Block) } : Light)) l0) fun w H => ?_)
   replace hf : Fr a 52 [(0, (.slice A (((a2.set (i).toNat ({ Id := k2, Route := e.Route, Block := e.Block } : Light)).set (i).toNat ({ Id := e2.Id, Route := ({ Start := w64 (k2 + 1), Fibers := e2.Route.Fibers } : Route), Block := e2.Block } : Light)).set (i).toNat ({ e3 with Route := { e3.Route with Fibers := y.2 } })).length c)), (1, (.int .i64 y.1)), (5, (.int .i64 i)), (25, (.int .i64 (w64 (k2 + 1)))), (26, (.int .i64 (w64 ((w64 (k2 + 1)) + 1)))), (27, (.slice A (((a2.set (i).toNat ({ Id := k2, Route := e.Route, Block := e.Block } : Light)).set (i).toNat ({ Id := e2.Id, Route := ({ Start := w64 (k2 + 1), Fibers := e2.Route.Fibers } : Route), Block := e2.Block } : Light)).set (i).toNat ({ e3 with Route := { e3.Route with Fibers := y.2 } })).length c)), (28, (.int .i64 i)), (29, (.pointer (some ⟨p3, o3 + 0, none⟩))), (30, (.pointer (some ⟨p3, o3 + 1, none⟩))), (31, (.pointer (some ⟨p3, o3 + 2, none⟩))), (32, (.slice A4 e3.Route.Fibers.length c4)), (33, (.int .i64 (w64 ((w64 (k2 + 1)) + 1)))), (34, (.int .i64 y.1)), (35, (.slice A (((a2.set (i).toNat ({ Id := k2, Route := e.Route, Block := e.Block } : Light)).set (i).toNat ({ Id := e2.Id, Route := ({ Start := w64 (k2 + 1), Fibers := e2.Route.Fibers } : Route), Block := e2.Block } : Light)).set (i).toNat ({ e3 with Route := { e3.Route with Fibers := y.2 } })).length c)), (36, (.int .i64 i)), (37, (.int .i64 y.1)), (38, (.pointer (some ⟨p4, o4 + 0, none⟩))), (39, (.pointer (some ⟨p4, o4 + 3, none⟩))), (40, (.pointer (some ⟨p4, o4 + 3, none⟩)))] := hf.prune [0, 1, 5, 25, 26, 27, 28, 29, 30, 31, 32, 33, 34, 35, 36, 37, 38, 39, 40] rfl
   replace hf : Fr a 52 [(0, (.slice A ((((a2.set (i).toNat ({ Id := k2, Route := e.Route, Block := e.Block } : Light)).set (i).toNat ({ Id := e2.Id, Route := ({ Start := w64 (k2 + 1), Fibers := e2.Route.Fibers } : Route), Block := e2.Block } : Light)).set (i).toNat ({ e3 with Route := { e3.Route with Fibers := y.2 } })).set (i).toNat ({ Id := e4.Id, Route := e4.Route, Block := ({ First := y.1, Count := e4.Block.Count } : Block) } : Light)).length c)), (1, (.int .i64 y.1)), (5, (.int .i64 i)), (25, (.int .i64 (w64 (k2 + 1)))), (26, (.int .i64 (w64 ((w64 (k2 + 1)) + 1)))), (27, (.slice A ((((a2.set (i).toNat ({ Id := k2, Route := e.Route, Block := e.Block } : Light)).set (i).toNat ({ Id := e2.Id, Route := ({ Start := w64 (k2 + 1), Fibers := e2.Route.Fibers } : Route), Block := e2.Block } : Light)).set (i).toNat ({ e3 with Route := { e3.Route with Fibers := y.2 } })).set (i).toNat ({ Id := e4.Id, Route := e4.Route, Block := ({ First := y.1, Count := e4.Block.Count } : Block) } : Light)).length c)), (28, (.int .i64 i)), (29, (.pointer (some ⟨p3, o3 + 0, none⟩))), (30, (.pointer (some ⟨p3, o3 + 1, none⟩))), (31, (.pointer (some ⟨p3, o3 + 2, none⟩))), (32, (.slice A4 e3.Route.Fibers.length c4)), (33, (.int .i64 (w64 ((w64 (k2 + 1)) + 1)))), (34, (.int .i64 y.1)), (35, (.slice A ((((a2.set (i).toNat ({ Id := k2, Route := e.Route, Block := e.Block } : Light)).set (i).toNat ({ Id := e2.Id, Route := ({ Start := w64 (k2 + 1), Fibers := e2.Route.Fibers } : Route), Block := e2.Block } : Light)).set (i).toNat ({ e3 with Route := { e3.Route with Fibers := y.2 } })).set (i).toNat ({ Id := e4.Id, Route := e4.Route, Block := ({ First := y.1, Count := e4.Block.Count } : Block) } : Light)).length c)), (36, (.int .i64 i)), (37, (.int .i64 y.1)), (38, (.pointer (some ⟨p4, o4 + 0, none⟩))), (39, (.pointer (some ⟨p4, o4 + 3, none⟩))), (40, (.pointer (some ⟨p4, o4 + 3, none⟩)))] := by simpa only [List.length_set, Nat.add_zero] using hf
   have hf := hf.prune [0, 1, 5] rfl
   refine wl_end (then_n (sq (reg (pr 3 hf rfl rfl fun a hf => ?_))))
   refine wl_end (then_n (sq (reg (pr 3 hf rfl rfl fun a hf => ?_))))
   obtain ⟨e5, he5, hR1⟩ := bind_some hR1
   refine wl0 rfl (op_iaddrR hf H Tryz.underlying35 TF.sz112 0 rfl rfl rfl he5 (by decide) fun p5 o5 cs5 a hf hA5 hr5 hk5 => ?_)
   have hrk5 := hr5
   obtain ⟨A6, c6, rfl, hl5⟩ := Light_cells hr5
   have H := H.push (true, MP.val [(.slice A6 e5.Route.Fibers.length c6)] e5.Route.Fibers) hl5
   refine pr 2 hf rfl rfl fun a hf => ?_
   refine wl0 rfl (op_storeR (e' := ({ Id := e5.Id, Route := e5.Route, Block := ({ First := e5.Block.First, Count := w64 (y.1 + 1) } : Block) } : Light)) (o := o5) (off := 4) hf H TF.sz3 0 rfl rfl rfl rfl rfl (nle rfl) rfl hA5 he5 (st_own fun F cs h => by obtain ⟨A0, c0, F0, rfl, rfl, l0⟩ := Light_own h; exact Light_ownmk (x := ({ Id := e5.Id, Route := e5.Route, Block := ({ First := e5.Block.First, Count := w64 (y.1 + 1) } : Block) } : Light)) l0) fun w H => ?_)
   replace hf : Fr a 52 [(0, (.slice A ((((a2.set (i).toNat ({ Id := k2, Route := e.Route, Block := e.Block } : Light)).set (i).toNat ({ Id := e2.Id, Route := ({ Start := w64 (k2 + 1), Fibers := e2.Route.Fibers } : Route), Block := e2.Block } : Light)).set (i).toNat ({ e3 with Route := { e3.Route with Fibers := y.2 } })).set (i).toNat ({ Id := e4.Id, Route := e4.Route, Block := ({ First := y.1, Count := e4.Block.Count } : Block) } : Light)).length c)), (1, (.int .i64 (w64 (y.1 + 1)))), (5, (.int .i64 i)), (41, (.int .i64 y.1)), (42, (.int .i64 (w64 (y.1 + 1)))), (43, (.slice A ((((a2.set (i).toNat ({ Id := k2, Route := e.Route, Block := e.Block } : Light)).set (i).toNat ({ Id := e2.Id, Route := ({ Start := w64 (k2 + 1), Fibers := e2.Route.Fibers } : Route), Block := e2.Block } : Light)).set (i).toNat ({ e3 with Route := { e3.Route with Fibers := y.2 } })).set (i).toNat ({ Id := e4.Id, Route := e4.Route, Block := ({ First := y.1, Count := e4.Block.Count } : Block) } : Light)).length c)), (44, (.int .i64 i)), (45, (.int .i64 (w64 (y.1 + 1)))), (46, (.pointer (some ⟨p5, o5 + 0, none⟩))), (47, (.pointer (some ⟨p5, o5 + 3, none⟩))), (48, (.pointer (some ⟨p5, o5 + 4, none⟩)))] := hf.prune [0, 1, 5, 41, 42, 43, 44, 45, 46, 47, 48] rfl
   replace hf : Fr a 52 [(0, (.slice A (((((a2.set (i).toNat ({ Id := k2, Route := e.Route, Block := e.Block } : Light)).set (i).toNat ({ Id := e2.Id, Route := ({ Start := w64 (k2 + 1), Fibers := e2.Route.Fibers } : Route), Block := e2.Block } : Light)).set (i).toNat ({ e3 with Route := { e3.Route with Fibers := y.2 } })).set (i).toNat ({ Id := e4.Id, Route := e4.Route, Block := ({ First := y.1, Count := e4.Block.Count } : Block) } : Light)).set (i).toNat ({ Id := e5.Id, Route := e5.Route, Block := ({ First := e5.Block.First, Count := w64 (y.1 + 1) } : Block) } : Light)).length c)), (1, (.int .i64 (w64 (y.1 + 1)))), (5, (.int .i64 i)), (41, (.int .i64 y.1)), (42, (.int .i64 (w64 (y.1 + 1)))), (43, (.slice A (((((a2.set (i).toNat ({ Id := k2, Route := e.Route, Block := e.Block } : Light)).set (i).toNat ({ Id := e2.Id, Route := ({ Start := w64 (k2 + 1), Fibers := e2.Route.Fibers } : Route), Block := e2.Block } : Light)).set (i).toNat ({ e3 with Route := { e3.Route with Fibers := y.2 } })).set (i).toNat ({ Id := e4.Id, Route := e4.Route, Block := ({ First := y.1, Count := e4.Block.Count } : Block) } : Light)).set (i).toNat ({ Id := e5.Id, Route := e5.Route, Block := ({ First := e5.Block.First, Count := w64 (y.1 + 1) } : Block) } : Light)).length c)), (44, (.int .i64 i)), (45, (.int .i64 (w64 (y.1 + 1)))), (46, (.pointer (some ⟨p5, o5 + 0, none⟩))), (47, (.pointer (some ⟨p5, o5 + 3, none⟩))), (48, (.pointer (some ⟨p5, o5 + 4, none⟩)))] := by simpa only [List.length_set, Nat.add_zero] using hf
   refine wl_end (then_n (reg (pr 3 hf rfl rfl fun a hf => ?_)))
   refine wl_end (blk_n (then_n (reg (pr 3 hf rfl rfl fun a hf => ?_))))
   refine wl_end ?_
   have hf := hf.prune [0, 1, 5] rfl
   have hf : Fr a 52 [(0, (.slice A a'.length c)), (1, (.int .i64 (w64 ((w64 (y.1 + 1)) + 1)))), (5, (.int .i64 (w64 (i + 1))))] := by first | exact hf | (simp only [List.length_set, hlen] at hf; exact hf)
   have H := H.let [] [true] [] [] rfl rfl rfl rfl
   exact then_n ⟨(((((a2.set (i).toNat ({ Id := k2, Route := e.Route, Block := e.Block } : Light)).set (i).toNat ({ Id := e2.Id, Route := ({ Start := w64 (k2 + 1), Fibers := e2.Route.Fibers } : Route), Block := e2.Block } : Light)).set (i).toNat ({ e3 with Route := { e3.Route with Fibers := y.2 } })).set (i).toNat ({ Id := e4.Id, Route := e4.Route, Block := ({ First := y.1, Count := e4.Block.Count } : Block) } : Light)).set (i).toNat ({ Id := e5.Id, Route := e5.Route, Block := ({ First := e5.Block.First, Count := w64 (y.1 + 1) } : Block) } : Light), w64 ((w64 (y.1 + 1)) + 1), w64 (i + 1)), hR1, Fs3, (by simp only [List.length_set, hlen]), hf, H⟩
  ·refine wp_exit (then_x (then_x (blk_e (?_))))
   have hf := hf.prune [0, 1, 5] rfl
   have hf : Fr a 52 [(0, (.slice A a'.length c)), (1, (.int .i64 k2)), (5, (.int .i64 i))] := by first | exact hf | (simp only [List.length_set, hlen] at hf; exact hf)
   have H := H.let [] [true] [] [] rfl rfl rfl rfl
   exact ⟨(a2, k2, i), (Option.some.inj hR1).symm, Fs2, (by simp only [List.length_set, hlen]), hf, H⟩
 rintro a w ⟨⟨a3, k3, i2⟩, rfl, Fs4, hlen, hf, H⟩
 try dsimp only at hlen
 have hf : Fr a 52 [(0, (.slice A a3.length c)), (1, (.int .i64 k3)), (5, (.int .i64 i2))] := by rw [hlen]; exact hf
 try dsimp only at hF
 refine then_n (sq (reg (pr 2 hf rfl rfl fun a hf => ?_)))
 refine wl_end (then_n (wp_ret (?_)))
 obtain ⟨F', H⟩ := H.freezeOwn 0 rfl
 rw [hlen] at H
 obtain rfl := Option.some.inj hF
 refine ret_1 (fn := Tryz.f80) (r := .tmp 4) hf rfl (rv_tmp hf rfl) ?_
 exact ⟨_, rfl, H.chg, mk_int, _, H.ownAt 0 rfl, H.back⟩

/- loop.example/g00897/laws.markPlan -/
set_option maxHeartbeats 1000000 in
theorem laws_markPlan_ok {fu : Nat} {w0 : World} {S : Nat → Prop} {F : List Nat} {cs : List Value} {v1_ : Value} {a' : Plan} {k' : Int} {r : Int × Plan} (hO : GoTy.own w0 F cs a') (hn : F.Nodup) (h1 : VR w0 S v1_ k') (hF : laws_markPlan fu a' k' = some r) :
    Calls Tryz.prog 25 [(bif GoTy.agg (Plan) then .agg cs.toArray else cs.headD undef), v1_].toArray w0 fun e w' => ∃ v, e = .returned v ∧ (Chg w0 w' F ∧ VR w' (fun _ => True) v r.1 ∧ ∃ F', GoTy.own w' F' cs r.2 ∧ Back w0 w' F F') := by
 obtain rfl := VR_int h1
 obtain ⟨A1, c1, F1, A2, c2, F2, A3, c3, F3, rfl, hFe, l1, l2, l3⟩ := Plan_own hO
 have H := Mem.startG S hO hn
 have H := H.recast (X := [(⟨F, MP.own F [(.slice A1 a'.Network.Nodes.length c1), (.slice A2 a'.Network.Fibers.length c2), (.slice A3 a'.Lights.length c3)] (a' : Plan)⟩ : DI)]) (Y := [(⟨F1, MP.own F1 [(.slice A1 a'.Network.Nodes.length c1)] (a'.Network.Nodes : List ByteArray)⟩ : DI), (⟨F2, MP.own F2 [(.slice A2 a'.Network.Fibers.length c2)] (a'.Network.Fibers : List Fiber)⟩ : DI), (⟨F3, MP.own F3 [(.slice A3 a'.Lights.length c3)] (a'.Lights : List Light)⟩ : DI)]) (D := []) (List.Perm.of_eq (by simp [hFe])) fun _ => (ps1 l1 (ps1 l2 (ps1 l3 ps0)))
 have H := H.lend 0 rfl
 have H := H.lend 1 rfl
 have H := H.lend 2 rfl
 refine enter Tryz.func25 rfl rfl (nle rfl) rfl fun a hf => ?_
 rw [laws_markPlan] at hF
 refine sq (reg (wl0 rfl (op_box hf H rfl rfl (by decide) fun b' a w hf H => ?_)))
 refine pr 1 hf rfl rfl fun a hf => ?_
 refine wl_end (then_n (sq (reg (pr 1 hf rfl rfl fun a hf => ?_))))
 refine wl0 rfl (op_q hf (rq_loadBN hf H TF.la34 0 rfl rfl rfl rfl) rfl (by decide) fun a hf => ?_)
 refine pr 1 hf rfl rfl fun a hf => ?_
 have H := H.frontD 1 rfl
 have H := H.frontD 1 rfl
 have H := H.recast (X := [(⟨F1, MP.own F1 [(.slice A1 a'.Network.Nodes.length c1)] (a'.Network.Nodes : List ByteArray)⟩ : DI), (⟨F2, MP.own F2 [(.slice A2 a'.Network.Fibers.length c2)] (a'.Network.Fibers : List Fiber)⟩ : DI)]) (Y := [(⟨(F1 ++ F2), MP.own (F1 ++ F2) [(.slice A1 a'.Network.Nodes.length c1), (.slice A2 a'.Network.Fibers.length c2)] (a'.Network : Network)⟩ : DI)]) (List.Perm.of_eq (by simp)) fun _ => ps1 (Network_ownmk (x := a'.Network) (H.ownAt 0 rfl) (H.ownAt 1 rfl)) ps0
 obtain ⟨y, hy, hF⟩ := bind_some hF
 refine wl0 rfl (op_call hf TF.cl79 rfl (by decide) (laws_markNetwork_ok (S := fun _ => True) (F := (F1 ++ F2)) (cs := [(.slice A1 a'.Network.Nodes.length c1), (.slice A2 a'.Network.Fibers.length c2)]) (H.ownAt 0 rfl) H.diNd.1 mk_int hy) fun v w a hp hf => ?_)
 obtain ⟨hch, hv, F5, ho, hbk⟩ := hp
 obtain rfl := VR_int hv
 have H := H.wrote rfl hch ho hbk
 obtain ⟨F6, F7, hFe, hl, hl2⟩ := Network_ownc (H.ownAt 0 rfl)
 have H := H.recast (X := [(⟨F5, MP.own F5 [(.slice A1 a'.Network.Nodes.length c1), (.slice A2 a'.Network.Fibers.length c2)] (y.2 : Network)⟩ : DI)]) (Y := [(⟨F6, MP.own F6 [(.slice A1 a'.Network.Nodes.length c1)] (y.2.Nodes : List ByteArray)⟩ : DI), (⟨F7, MP.own F7 [(.slice A2 a'.Network.Fibers.length c2)] (y.2.Fibers : List Fiber)⟩ : DI)]) (List.Perm.of_eq (by simp [hFe])) fun _ => (ps1 hl (ps1 hl2 ps0))
 have H := H.lend 0 rfl
 have H := H.lend 1 rfl
 have H := H.lend 2 rfl
 refine pr 1 hf rfl rfl fun a hf => ?_
 refine wl_end (then_n (sq (reg (pr 1 hf rfl rfl fun a hf => ?_))))
 refine wl0 rfl (op_q hf (rq_loadB hf H TF.ls35 0 rfl rfl rfl) rfl (by decide) fun a hf => ?_)
 refine pr 1 hf rfl rfl fun a hf => ?_
 have H := H.frontD 2 rfl
 obtain ⟨y2, hy2, hF⟩ := bind_some hF
 refine wl0 rfl (op_call hf TF.cl80 rfl (by decide) (laws_markLightS_ok (S := fun _ => True) (F := F3) (cs := [(.slice A3 a'.Lights.length c3)]) (H.ownAt 0 rfl) H.diNd.1 mk_int hy2) fun v2 w a hp2 hf => ?_)
 obtain ⟨hch2, hv2, F8, ho2, hbk2⟩ := hp2
 obtain rfl := VR_int hv2
 have H := H.wrote rfl hch2 ho2 hbk2
 have H := H.lend 0 rfl
 have H := H.lend 1 rfl
 have H := H.lend 2 rfl
 refine pr 1 hf rfl rfl fun a hf => ?_
 refine wl_end (then_n (sq (reg (pr 2 hf rfl rfl fun a hf => ?_))))
 refine wl_end (then_n (wp_ret (?_)))
 have H := H.frontD 2 rfl
 have H := H.frontD 2 rfl
 have H := H.recast (X := [(⟨F6, MP.own F6 [(.slice A1 a'.Network.Nodes.length c1)] (y.2.Nodes : List ByteArray)⟩ : DI), (⟨F7, MP.own F7 [(.slice A2 a'.Network.Fibers.length c2)] (y.2.Fibers : List Fiber)⟩ : DI), (⟨F8, MP.own F8 [(.slice A3 a'.Lights.length c3)] (y2.2 : List Light)⟩ : DI)]) (Y := [(⟨(F6 ++ (F7 ++ F8)), MP.own (F6 ++ (F7 ++ F8)) [(.slice A1 a'.Network.Nodes.length c1), (.slice A2 a'.Network.Fibers.length c2), (.slice A3 a'.Lights.length c3)] (({ Network := y.2, Lights := y2.2 } : Plan) : Plan)⟩ : DI)]) (List.Perm.of_eq (by simp)) fun _ => ps1 (Plan_ownmk (x := ({ Network := y.2, Lights := y2.2 } : Plan)) (H.ownAt 0 rfl) (H.ownAt 1 rfl) (H.ownAt 2 rfl)) ps0
 obtain rfl := Option.some.inj hF
 refine ret_1 (fn := Tryz.f25) (r := .tmp 4) hf rfl (rv_tmp hf rfl) ?_
 exact ⟨_, rfl, H.chg, mk_int, _, H.ownAt 0 rfl, H.back⟩

/- loop.example/g00897/laws.heldIntS -/
set_option maxHeartbeats 1000000 in
theorem laws_heldIntS_ok {fu : Nat} {w0 : World} {S : Nat → Prop} {v0_ : Value} {v1_ : Value} {a' : List Int} {k' : Int} {r : Int} (h0 : VR w0 S v0_ a') (h1 : VR w0 S v1_ k') (hF : laws_heldIntS fu a' k' = some r) :
    Calls Tryz.prog 27 [v0_, v1_].toArray w0 fun e w' => ∃ v, e = .returned v ∧ (Below w0.heap.size w0 w' ∧ VR w' (St ⟨w0, []⟩ S [] [] [] true) v r) := by
 obtain ⟨A, c, rfl, hl⟩ := VR_list h0
 obtain rfl := VR_int h1
 have H := Mem.start ⟨w0, []⟩ S
 have H := H.pushArg (MP.val [(.slice A a'.length c)] a') hl
 refine enter Tryz.func27 rfl rfl (nle rfl) rfl fun a hf => ?_
 rw [laws_heldIntS] at hF
 refine sq (reg (pr 1 hf rfl rfl fun a hf => ?_))
 refine wl_end (then_n (sq (sq (reg (pr 1 hf rfl rfl fun a hf => ?_)))))
 refine wl_end (then_n ?_)
 obtain ⟨out', hB1, hF⟩ := bind_some hF
 have hf := hf.prune [0, 1, 5] rfl
 have H := H.let [] [] [] [0] rfl rfl rfl rfl
 refine loopC (fun (s : Int × Int) (a : Act) (w : World) => match s with | (k2, i) => Fr a 21 [(0, (.slice A a'.length c)), (1, (.int .i64 k2)), (5, (.int .i64 i))] ∧ Mem ⟨w0, []⟩ S [] [] [] [(false, MP.val [(.slice A a'.length c)] (a' : List Int))] w) (fun k (s : Int × Int) => laws_heldIntS_L1 fu a' k s.1 s.2 = some out') (fun s => out' = Out.next s) (k', 0) fu hB1 ⟨hf, H⟩ (fun s h => by cases h) ?_ ?_
 ·rintro fk ⟨k2, i⟩ a w hR1 hI
  replace hR1 : laws_heldIntS_L1 fu a' (fk + 1) k2 i = some out' := hR1
  rw [laws_heldIntS_L1] at hR1
  obtain ⟨hf, H⟩ := hI
  refine sq (sq (reg (pr 4 hf rfl rfl fun a hf => ?_)))
  refine wl_end (then_n (iteB hR1 (fun hc hR1 => cd_t hf rfl hc ?_) fun hc hR1 => cd_f hf rfl hc ?_))
  ·refine wp_skip (then_n (sq (wp_block (sq (sq (reg (pr 2 hf rfl rfl fun a hf => ?_)))))))
   obtain ⟨e, he, hR1⟩ := bind_some hR1
   refine wl0 rfl (op_iaddr hf H Tryz.underlying44 TF.sz3 0 rfl rfl rfl he (by decide) fun p o cs a hf hr H => ?_)
   obtain rfl := hr
   refine wl0 rfl (op_q hf (rq_loadI hf H TF.ls3 0 0 rfl rfl rfl) rfl (by decide) fun a hf => ?_)
   refine pr 2 hf rfl rfl fun a hf => ?_
   refine wl_end (then_n (iteB hR1 (fun hc2 hR1 => cd_t hf rfl hc2 ?_) fun hc2 hR1 => cd_f hf rfl hc2 ?_))
   ·refine sq (reg (pr 1 hf rfl rfl fun a hf => ?_))
    have hf := hf.prune [4] rfl
    refine wl_end (then_n (wp_ret (then_r (blk_r (then_r (then_r (blk_r (then_r (then_r (?_))))))))))
    obtain rfl := Option.some.inj hR1
    replace hF := on_ret hF
    obtain rfl := Option.some.inj hF
    refine ret_1 (fn := Tryz.f27) (r := .tmp 4) hf rfl (rv_tmp hf rfl) ?_
    exact ⟨_, rfl, H.bel, mk_int⟩
   ·refine wp_skip (then_n (reg (pr 3 hf rfl rfl fun a hf => ?_)))
    refine wl_end (blk_n (then_n (reg (pr 3 hf rfl rfl fun a hf => ?_))))
    have hf := hf.prune [0, 1, 5] rfl
    refine wl_end ?_
    have hf := hf.prune [0, 1, 5] rfl
    have H := H.let [] [] [] [1] rfl rfl rfl rfl
    exact then_n ⟨(w64 (k2 + 1), w64 (i + 1)), hR1, hf, H⟩
  ·refine wp_exit (then_x (then_x (blk_e (?_))))
   have hf := hf.prune [0, 1, 5] rfl
   have H := H.let [] [] [] [0] rfl rfl rfl rfl
   exact ⟨(k2, i), (Option.some.inj hR1).symm, hf, H⟩
 rintro a w ⟨⟨k3, i2⟩, rfl, hf, H⟩
 replace hF := on_next hF
 try dsimp only at hF
 refine then_n (sq (reg (pr 2 hf rfl rfl fun a hf => ?_)))
 refine wl_end (then_n (wp_ret (?_)))
 obtain rfl := Option.some.inj hF
 refine ret_1 (fn := Tryz.f27) (r := .tmp 4) hf rfl (rv_tmp hf rfl) ?_
 exact ⟨_, rfl, H.bel, mk_int⟩

/- loop.example/g00897/spec.l1Same -/
set_option maxHeartbeats 1000000 in
theorem spec_l1Same_ok {fu : Nat} {w0 : World} {S : Nat → Prop} {v0_ : Value} {v1_ : Value} {a' : List Int} {b' : List Int} {r : Bool} (h0 : VR w0 S v0_ a') (h1 : VR w0 S v1_ b') (hF : spec_l1Same fu a' b' = some r) :
    Calls Tryz.prog 231 [v0_, v1_].toArray w0 fun e w' => ∃ v, e = .returned v ∧ (Below w0.heap.size w0 w' ∧ VR w' (St ⟨w0, []⟩ S [] [] [] true) v r) := by
 obtain ⟨A, c, rfl, hl⟩ := VR_list h0
 obtain ⟨A2, c2, rfl, hl2⟩ := VR_list h1
 have H := Mem.start ⟨w0, []⟩ S
 have H := H.pushArg (MP.val [(.slice A a'.length c)] a') hl
 have H := H.pushArg (MP.val [(.slice A2 b'.length c2)] b') hl2
 refine enter Tryz.func231 rfl rfl (nle rfl) rfl fun a hf => ?_
 rw [spec_l1Same] at hF
 refine sq (reg (pr 1 hf rfl rfl fun a hf => ?_))
 refine wl_end (then_n (sq (sq (reg (pr 5 hf rfl rfl fun a hf => ?_)))))
 refine wl_end (then_n (iteB hF (fun hc hF => cd_t hf rfl hc ?_) fun hc hF => cd_f hf rfl hc ?_))
 ·refine sq (reg (pr 1 hf rfl rfl fun a hf => ?_))
  refine wl_end (then_n (wp_ret (then_r (?_))))
  obtain rfl := Option.some.inj hF
  refine ret_1 (fn := Tryz.f231) (r := .tmp 4) hf rfl (rv_tmp hf rfl) ?_
  exact ⟨_, rfl, H.bel, mk_bool⟩
 ·refine wp_skip (then_n (sq (sq (reg (pr 1 hf rfl rfl fun a hf => ?_)))))
  refine wl_end (then_n ?_)
  obtain ⟨out', hB1, hF⟩ := bind_some hF
  have hf := hf.prune [0, 1, 5] rfl
  have H := H.let [] [] [] [0, 1] rfl rfl rfl rfl
  refine loopC (fun (s : Int) (a : Act) (w : World) => match s with | i => Fr a 26 [(0, (.slice A a'.length c)), (1, (.slice A2 b'.length c2)), (5, (.int .i64 i))] ∧ Mem ⟨w0, []⟩ S [] [] [] [(false, MP.val [(.slice A2 b'.length c2)] (b' : List Int)), (false, MP.val [(.slice A a'.length c)] (a' : List Int))] w) (fun k (s : Int) => spec_l1Same_L1 fu a' b' k s = some out') (fun s => out' = Out.next s) 0 fu hB1 ⟨hf, H⟩ (fun s h => by cases h) ?_ ?_
  ·rintro fk i a w hR1 hI
   replace hR1 : spec_l1Same_L1 fu a' b' (fk + 1) i = some out' := hR1
   rw [spec_l1Same_L1] at hR1
   obtain ⟨hf, H⟩ := hI
   refine sq (sq (reg (pr 4 hf rfl rfl fun a hf => ?_)))
   refine wl_end (then_n (iteB hR1 (fun hc2 hR1 => cd_t hf rfl hc2 ?_) fun hc2 hR1 => cd_f hf rfl hc2 ?_))
   ·refine wp_skip (then_n (sq (wp_block (sq (drawn [] (bs := [false, false, false, false, false, false, false, false, false]) (fuel := 9) (Checked.mixed Tryz.checked) rfl rfl fun w hb => ?_)))))
    have H := H.keep hb
    refine tp 0 rfl rfl hf (by kernel_rfl) (fun _ => trivial) rfl fun a hf => ?_
    refine tp 1 rfl rfl hf (by kernel_rfl) (fun _ => trivial) rfl fun a hf => ?_
    obtain ⟨e, he, hR1⟩ := bind_some hR1
    obtain ⟨p, o, cs, hx, hr, H⟩ := pre_iaddr H Tryz.underlying44 TF.sz3 1 rfl he
    refine tP 2 rfl rfl rfl rfl hf (by kernel_rfl) (fun _ => trivial) (fun w => rq_iaddrE hf rfl rfl rfl hx w) fun a hf => ?_
    obtain rfl := hr
    refine strT (H.let [] [] [] [0] rfl rfl rfl rfl) (fun w H => trivial) fun hS => ?_
    refine tS 3 [] rfl rfl rfl rfl hf (by kernel_rfl) (by kernel_rfl) hS (fun w H => rq_loadI hf H TF.ls3 0 0 rfl rfl rfl) fun a hf => ?_
    refine tp 4 rfl rfl hf (by kernel_rfl) (fun _ => hS) rfl fun a hf => ?_
    refine tp 5 rfl rfl hf (by kernel_rfl) (fun _ => hS) rfl fun a hf => ?_
    obtain ⟨e2, he2, hR1⟩ := bind_some hR1
    obtain ⟨p2, o2, cs2, hx2, hr2, H⟩ := pre_iaddr H Tryz.underlying44 TF.sz3 1 rfl he2
    refine tP 6 rfl rfl rfl rfl hf (by kernel_rfl) (fun _ => hS) (fun w => rq_iaddrE hf rfl rfl rfl hx2 w) fun a hf => ?_
    obtain rfl := hr2
    refine strT (H.let [] [] [] [0, 1] rfl rfl rfl rfl) (fun w H => H.let [] [] [] [1] rfl rfl rfl rfl) fun hS => ?_
    refine tS 7 [] rfl rfl rfl rfl hf (by kernel_rfl) (by kernel_rfl) hS (fun w H => rq_loadI hf H TF.ls3 0 0 rfl rfl rfl) fun a hf => ?_
    refine tp 8 rfl rfl hf (by kernel_rfl) (fun _ => hS) rfl fun a hf => ?_
    refine dn (by kernel_rfl) ?_
    refine then_n (iteB hR1 (fun hc3 hR1 => cd_t hf rfl hc3 ?_) fun hc3 hR1 => cd_f hf rfl hc3 ?_)
    ·refine sq (reg (pr 1 hf rfl rfl fun a hf => ?_))
     have hf := hf.prune [4] rfl
     refine wl_end (then_n (wp_ret (blk_r (then_r (then_r (blk_r (then_r (then_r (?_)))))))))
     obtain rfl := Option.some.inj hR1
     replace hF := on_ret hF
     obtain rfl := Option.some.inj hF
     refine ret_1 (fn := Tryz.f231) (r := .tmp 4) hf rfl (rv_tmp hf rfl) ?_
     exact ⟨_, rfl, H.bel, mk_bool⟩
    ·refine wp_skip (blk_n (then_n (reg (pr 3 hf rfl rfl fun a hf => ?_))))
     have hf := hf.prune [0, 1, 5] rfl
     refine wl_end ?_
     have hf := hf.prune [0, 1, 5] rfl
     have H := H.let [] [] [] [2, 3] rfl rfl rfl rfl
     exact then_n ⟨w64 (i + 1), hR1, hf, H⟩
   ·refine wp_exit (then_x (then_x (blk_e (?_))))
    have hf := hf.prune [0, 1, 5] rfl
    have H := H.let [] [] [] [0, 1] rfl rfl rfl rfl
    exact ⟨i, (Option.some.inj hR1).symm, hf, H⟩
  rintro a w ⟨i2, rfl, hf, H⟩
  replace hF := on_next hF
  refine then_n (sq (reg (pr 1 hf rfl rfl fun a hf => ?_)))
  refine wl_end (then_n (wp_ret (?_)))
  obtain rfl := Option.some.inj hF
  refine ret_1 (fn := Tryz.f231) (r := .tmp 4) hf rfl (rv_tmp hf rfl) ?_
  exact ⟨_, rfl, H.bel, mk_bool⟩

/- loop.example/g00897/spec.l4Same -/
set_option maxHeartbeats 1000000 in
theorem spec_l4Same_ok {fu : Nat} {w0 : World} {S : Nat → Prop} {v0_ : Value} {v1_ : Value} {a' : Route} {b' : Route} {r : Bool} (h0 : VR w0 S v0_ a') (h1 : VR w0 S v1_ b') (hF : spec_l4Same fu a' b' = some r) :
    Calls Tryz.prog 212 [v0_, v1_].toArray w0 fun e w' => ∃ v, e = .returned v ∧ (Below w0.heap.size w0 w' ∧ VR w' (St ⟨w0, []⟩ S [] [] [] true) v r) := by
 obtain ⟨A, c, rfl, hl⟩ := Route_open h0
 obtain ⟨A2, c2, rfl, hl2⟩ := Route_open h1
 have H := Mem.start ⟨w0, []⟩ S
 have H := H.pushArg (MP.val [(.slice A a'.Fibers.length c)] a'.Fibers) hl
 have H := H.pushArg (MP.val [(.slice A2 b'.Fibers.length c2)] b'.Fibers) hl2
 refine enter Tryz.func212 rfl rfl (nle rfl) rfl fun a hf => ?_
 rw [spec_l4Same] at hF
 refine sq (reg (wl0 rfl (op_box hf H rfl rfl (by decide) fun b2 a w hf H => ?_)))
 refine wl0 rfl (op_box hf H rfl rfl (by decide) fun b3 a w hf H => ?_)
 refine pr 1 hf rfl rfl fun a hf => ?_
 refine wl_end (then_n (sq ?_))
 obtain ⟨c3, hGc3, hF⟩ := bind_some hF
 have fh := hf.prune [] rfl
 have Hm := H.let [false, false] [] [] [] rfl rfl rfl rfl
 refine midF 4 (.bool c3) fh Hm ?_ fun a w hf H => ?_
 ·refine reg (pr 1 hf rfl rfl fun a hf => ?_)
  refine wl0 rfl (op_q hf (rq_loadB hf H TF.ls3 1 rfl rfl rfl) rfl (by decide) fun a hf => ?_)
  refine pr 1 hf rfl rfl fun a hf => ?_
  refine wl0 rfl (op_q hf (rq_loadB hf H TF.ls3 0 rfl rfl rfl) rfl (by decide) fun a hf => ?_)
  refine pr 2 hf rfl rfl fun a hf => ?_
  refine iteB hGc3 (fun hc hGc3 => ?_) fun hc hGc3 => ?_
  ·have hf := hf.lit 10 rfl hc
   refine pr 1 hf rfl rfl fun a hf => ?_
   refine wlg hf rfl rfl rfl (op_q hf (rq_loadB hf H TF.ls44 1 rfl rfl rfl) rfl (by decide) fun a hf => ?_)
   refine pr 1 hf rfl rfl fun a hf => ?_
   refine wlg hf rfl rfl rfl (op_q hf (rq_loadB hf H TF.ls44 0 rfl rfl rfl) rfl (by decide) fun a hf => ?_)
   obtain ⟨y, hy, hGc3⟩ := bind_some hGc3
   refine wlg hf rfl rfl rfl (op_call hf TF.cl231 rfl (by decide) (spec_l1Same_ok (S := fun _ => True) (mk_list (rep_true (α := List Int) (H.get 1 rfl))) (mk_list (rep_true (α := List Int) (H.get 0 rfl))) hy) fun v w a hp hf => ?_)
   obtain ⟨hb, hp⟩ := hp
   obtain rfl := VR_bool hp
   have H := H.keep hb
   refine pr 2 hf rfl rfl fun a hf => ?_
   obtain rfl := Option.some.inj hGc3
   have hf := hf.prune [4] rfl
   have H := H.let [false, false] [] [] [] rfl rfl rfl rfl
   exact wl_end ⟨hf, H⟩
  ·have hf := hf.lit 10 rfl hc
   refine pr 7 hf rfl rfl fun a hf => ?_
   obtain rfl := Option.some.inj hGc3
   have hf := hf.prune [4] rfl
   have H := H.let [false, false] [] [] [] rfl rfl rfl rfl
   exact wl_end ⟨hf, H⟩
 refine then_n (wp_ret (?_))
 obtain rfl := Option.some.inj hF
 refine ret_1 (fn := Tryz.f212) (r := .tmp 4) hf rfl (rv_tmp hf rfl) ?_
 exact ⟨_, rfl, H.bel, mk_bool⟩

/- loop.example/g00897/spec.l9Same -/
set_option maxHeartbeats 1000000 in
theorem spec_l9Same_ok {fu : Nat} {w0 : World} {S : Nat → Prop} {v0_ : Value} {v1_ : Value} {p : Plan} {q : Plan} {r : Bool} (h0 : VR w0 S v0_ p) (h1 : VR w0 S v1_ q) (hF : spec_l9Same fu p q = some r) :
    Calls Tryz.prog 163 [v0_, v1_].toArray w0 fun e w' => ∃ v, e = .returned v ∧ (Below w0.heap.size w0 w' ∧ VR w' (St ⟨w0, []⟩ S [] [] [] true) v r) := by
 obtain ⟨A, c, A2, c2, A3, c3, rfl, hl, hl2, hl3⟩ := Plan_open h0
 obtain ⟨A4, c4, A5, c5, A6, c6, rfl, hl4, hl5, hl6⟩ := Plan_open h1
 have H := Mem.start ⟨w0, []⟩ S
 have H := H.pushArg (MP.val [(.slice A p.Network.Nodes.length c)] p.Network.Nodes) hl
 have H := H.pushArg (MP.val [(.slice A2 p.Network.Fibers.length c2)] p.Network.Fibers) hl2
 have H := H.pushArg (MP.val [(.slice A3 p.Lights.length c3)] p.Lights) hl3
 have H := H.pushArg (MP.val [(.slice A4 q.Network.Nodes.length c4)] q.Network.Nodes) hl4
 have H := H.pushArg (MP.val [(.slice A5 q.Network.Fibers.length c5)] q.Network.Fibers) hl5
 have H := H.pushArg (MP.val [(.slice A6 q.Lights.length c6)] q.Lights) hl6
 refine enter Tryz.func163 rfl rfl (nle rfl) rfl fun a hf => ?_
 rw [spec_l9Same] at hF
 refine sq (reg (wl0 rfl (op_box hf H rfl rfl (by decide) fun b' a w hf H => ?_)))
 refine wl0 rfl (op_box hf H rfl rfl (by decide) fun b2 a w hf H => ?_)
 refine pr 1 hf rfl rfl fun a hf => ?_
 refine wl_end (then_n (sq (sq ?_)))
 obtain ⟨c7, hGc7, hF⟩ := bind_some hF
 have fh := hf.prune [2, 3] rfl
 have Hm := H.let [true, true] [] [] [0, 1, 2, 3, 4, 5] rfl rfl rfl rfl
 refine midF 36 (.bool c7) fh Hm ?_ fun a w hf H => ?_
 ·refine reg (pr 1 hf rfl rfl fun a hf => ?_)
  refine wl0 rfl (op_q hf (rq_loadB hf H TF.ls35 1 rfl rfl rfl) rfl (by decide) fun a hf => ?_)
  refine pr 2 hf rfl rfl fun a hf => ?_
  refine wl0 rfl (op_q hf (rq_loadB hf H TF.ls35 0 rfl rfl rfl) rfl (by decide) fun a hf => ?_)
  refine pr 3 hf rfl rfl fun a hf => ?_
  refine iteB hGc7 (fun hc hGc7 => ?_) fun hc hGc7 => ?_
  ·have hf := hf.lit 15 rfl hc
   refine pr 21 hf rfl rfl fun a hf => ?_
   obtain rfl := Option.some.inj hGc7
   have hf := hf.prune [36, 2, 3] rfl
   have H := H.let [true, true] [] [] [0, 1, 2, 3, 4, 5] rfl rfl rfl rfl
   exact wl_end ⟨hf, H⟩
  ·have hf := hf.lit 15 rfl hc
   refine pr 2 hf rfl rfl fun a hf => ?_
   refine wlg hf rfl rfl rfl (op_q hf (rq_loadB hf H TF.ls22 1 rfl rfl rfl) rfl (by decide) fun a hf => ?_)
   refine pr 3 hf rfl rfl fun a hf => ?_
   refine wlg hf rfl rfl rfl (op_q hf (rq_loadB hf H TF.ls22 0 rfl rfl rfl) rfl (by decide) fun a hf => ?_)
   refine pr 4 hf rfl rfl fun a hf => ?_
   refine iteB hGc7 (fun hc2 hGc7 => ?_) fun hc2 hGc7 => ?_
   ·have hf := hf.lit 26 rfl hc2
    refine pr 10 hf rfl rfl fun a hf => ?_
    obtain rfl := Option.some.inj hGc7
    have hf := hf.prune [36, 2, 3] rfl
    have H := H.let [true, true] [] [] [0, 1, 2, 3, 4, 5] rfl rfl rfl rfl
    exact wl_end ⟨hf, H⟩
   ·have hf := hf.lit 26 rfl hc2
    refine pr 2 hf rfl rfl fun a hf => ?_
    refine wlg hf rfl rfl rfl (op_q hf (rq_loadB hf H TF.ls32 1 rfl rfl rfl) rfl (by decide) fun a hf => ?_)
    refine pr 3 hf rfl rfl fun a hf => ?_
    refine wlg hf rfl rfl rfl (op_q hf (rq_loadB hf H TF.ls32 0 rfl rfl rfl) rfl (by decide) fun a hf => ?_)
    refine pr 3 hf rfl rfl fun a hf => ?_
    obtain rfl := Option.some.inj hGc7
    have hf := hf.prune [36, 2, 3] rfl
    have H := H.let [true, true] [] [] [0, 1, 2, 3, 4, 5] rfl rfl rfl rfl
    exact wl_end ⟨hf, H⟩
 refine then_n (iteB hF (fun hc3 hF => cd_t hf rfl hc3 ?_) fun hc3 hF => cd_f hf rfl hc3 ?_)
 ·refine sq (reg (pr 1 hf rfl rfl fun a hf => ?_))
  refine wl_end (then_n (wp_ret (then_r (?_))))
  obtain rfl := Option.some.inj hF
  refine ret_1 (fn := Tryz.f163) (r := .tmp 4) hf rfl (rv_tmp hf rfl) ?_
  exact ⟨_, rfl, H.bel, mk_bool⟩
 ·refine wp_skip (then_n (sq (sq (reg (pr 1 hf rfl rfl fun a hf => ?_)))))
  refine wl_end (then_n ?_)
  obtain ⟨out', hB1, hF⟩ := bind_some hF
  have hf := hf.prune [2, 3, 5] rfl
  have H := H.let [true, true] [] [] [0, 1, 2, 3, 4, 5] rfl rfl rfl rfl
  refine loopC (fun (s : Int) (a : Act) (w : World) => match s with | i => Fr a 130 [(2, (.pointer (some ⟨b', 0, none⟩))), (3, (.pointer (some ⟨b2, 0, none⟩))), (5, (.int .i64 i))] ∧ Mem ⟨w0, []⟩ S [⟨b2, 37, [(.slice A4 q.Network.Nodes.length c4), (.slice A5 q.Network.Fibers.length c5), (.slice A6 q.Lights.length c6)]⟩, ⟨b', 37, [(.slice A p.Network.Nodes.length c), (.slice A2 p.Network.Fibers.length c2), (.slice A3 p.Lights.length c3)]⟩] [] [] [(false, MP.val [(.slice A6 q.Lights.length c6)] (q.Lights : List Light)), (false, MP.val [(.slice A5 q.Network.Fibers.length c5)] (q.Network.Fibers : List Fiber)), (false, MP.val [(.slice A4 q.Network.Nodes.length c4)] (q.Network.Nodes : List ByteArray)), (false, MP.val [(.slice A3 p.Lights.length c3)] (p.Lights : List Light)), (false, MP.val [(.slice A2 p.Network.Fibers.length c2)] (p.Network.Fibers : List Fiber)), (false, MP.val [(.slice A p.Network.Nodes.length c)] (p.Network.Nodes : List ByteArray))] w) (fun k (s : Int) => spec_l9Same_L1 fu p q k s = some out') (fun s => out' = Out.next s) 0 fu hB1 ⟨hf, H⟩ (fun s h => by cases h) ?_ ?_
  ·rintro fk i a w hR1 hI
   replace hR1 : spec_l9Same_L1 fu p q (fk + 1) i = some out' := hR1
   rw [spec_l9Same_L1] at hR1
   obtain ⟨hf, H⟩ := hI
   refine sq (sq (reg (pr 3 hf rfl rfl fun a hf => ?_)))
   refine wl0 rfl (op_q hf (rq_loadB hf H TF.ls22 1 rfl rfl rfl) rfl (by decide) fun a hf => ?_)
   refine pr 2 hf rfl rfl fun a hf => ?_
   refine wl_end (then_n (iteB hR1 (fun hc4 hR1 => cd_t hf rfl hc4 ?_) fun hc4 hR1 => cd_f hf rfl hc4 ?_))
   ·refine wp_skip (then_n (sq (wp_block (sq (drawn [] (bs := [false, false, false, false, false, false, false, false, false, false, false, false, false]) (fuel := 13) (Checked.mixed Tryz.checked) rfl rfl fun w hb => ?_)))))
    have H := H.keep hb
    refine tp 0 rfl rfl hf (by kernel_rfl) (fun _ => trivial) rfl fun a hf => ?_
    refine tp 1 rfl rfl hf (by kernel_rfl) (fun _ => trivial) rfl fun a hf => ?_
    refine strT (H.let [false, true] [] [] [] rfl rfl rfl rfl) (fun w H => trivial) fun hS => ?_
    refine tS 2 [] rfl rfl rfl rfl hf (by kernel_rfl) (by kernel_rfl) hS (fun w H => rq_loadB hf H TF.ls22 0 rfl rfl rfl) fun a hf => ?_
    refine tp 3 rfl rfl hf (by kernel_rfl) (fun _ => hS) rfl fun a hf => ?_
    obtain ⟨e, he, hR1⟩ := bind_some hR1
    obtain ⟨p2, o, cs, hx, hr, H⟩ := pre_iaddr H Tryz.underlying22 TF.sz9 5 rfl he
    refine tP 4 rfl rfl rfl rfl hf (by kernel_rfl) (fun _ => hS) (fun w => rq_iaddrE hf rfl rfl rfl hx w) fun a hf => ?_
    obtain rfl := hr
    refine strT (H.let [false, true] [] [] [0] rfl rfl rfl rfl) (fun w H => H.let [true] [] [] [] rfl rfl rfl rfl) fun hS => ?_
    refine tS 5 [] rfl rfl rfl rfl hf (by kernel_rfl) (by kernel_rfl) hS (fun w H => rq_loadI hf H TF.ls9 0 0 rfl rfl rfl) fun a hf => ?_
    refine tp 6 rfl rfl hf (by kernel_rfl) (fun _ => hS) rfl fun a hf => ?_
    refine tp 7 rfl rfl hf (by kernel_rfl) (fun _ => hS) rfl fun a hf => ?_
    refine strT (H.let [true, true] [] [] [0] rfl rfl rfl rfl) (fun w H => H.let [false, true] [] [] [0] rfl rfl rfl rfl) fun hS => ?_
    refine tS 8 [] rfl rfl rfl rfl hf (by kernel_rfl) (by kernel_rfl) hS (fun w H => rq_loadB hf H TF.ls22 0 rfl rfl rfl) fun a hf => ?_
    refine tp 9 rfl rfl hf (by kernel_rfl) (fun _ => hS) rfl fun a hf => ?_
    obtain ⟨e2, he2, hR1⟩ := bind_some hR1
    obtain ⟨p3, o2, cs2, hx2, hr2, H⟩ := pre_iaddr H Tryz.underlying22 TF.sz9 3 rfl he2
    refine tP 10 rfl rfl rfl rfl hf (by kernel_rfl) (fun _ => hS) (fun w => rq_iaddrE hf rfl rfl rfl hx2 w) fun a hf => ?_
    obtain rfl := hr2
    refine strT (H.let [true, true] [] [] [0, 1] rfl rfl rfl rfl) (fun w H => H.let [true, true] [] [] [1] rfl rfl rfl rfl) fun hS => ?_
    refine tS 11 [] rfl rfl rfl rfl hf (by kernel_rfl) (by kernel_rfl) hS (fun w H => rq_loadI hf H TF.ls9 0 0 rfl rfl rfl) fun a hf => ?_
    refine tp 12 rfl rfl hf (by kernel_rfl) (fun _ => hS) rfl fun a hf => ?_
    refine dn (by kernel_rfl) ?_
    have hf := hf.prune [2, 3, 5, 57] rfl
    refine then_n (iteB hR1 (fun hc5 hR1 => cd_t hf rfl hc5 ?_) fun hc5 hR1 => cd_f hf rfl hc5 ?_)
    ·refine sq (reg (pr 1 hf rfl rfl fun a hf => ?_))
     refine wl_end (then_n (wp_ret (blk_r (then_r (then_r (blk_r (then_r (then_r (?_)))))))))
     obtain rfl := Option.some.inj hR1
     replace hF := on_ret hF
     obtain rfl := Option.some.inj hF
     refine ret_1 (fn := Tryz.f163) (r := .tmp 4) hf rfl (rv_tmp hf rfl) ?_
     exact ⟨_, rfl, H.bel, mk_bool⟩
    ·refine wp_skip (blk_n (then_n (reg (pr 3 hf rfl rfl fun a hf => ?_))))
     refine wl_end ?_
     have hf := hf.prune [2, 3, 5] rfl
     have H := H.let [true, true] [] [] [2, 3, 4, 5, 6, 7] rfl rfl rfl rfl
     exact then_n ⟨w64 (i + 1), hR1, hf, H⟩
   ·refine wp_exit (then_x (then_x (blk_e (?_))))
    have hf := hf.prune [2, 3, 5] rfl
    have H := H.let [true, true] [] [] [0, 1, 2, 3, 4, 5] rfl rfl rfl rfl
    exact ⟨i, (Option.some.inj hR1).symm, hf, H⟩
  rintro a w ⟨i2, rfl, hf, H⟩
  replace hF := on_next hF
  refine then_n (sq (sq (reg (pr 1 hf rfl rfl fun a hf => ?_))))
  refine wl_end (then_n ?_)
  obtain ⟨out2, hB1, hF⟩ := bind_some hF
  have hf := hf.prune [2, 3, 6] rfl
  have H := H.let [true, true] [] [] [0, 1, 2, 3, 4, 5] rfl rfl rfl rfl
  refine loopC (fun (s : Int) (a : Act) (w : World) => match s with | i3 => Fr a 130 [(2, (.pointer (some ⟨b', 0, none⟩))), (3, (.pointer (some ⟨b2, 0, none⟩))), (6, (.int .i64 i3))] ∧ Mem ⟨w0, []⟩ S [⟨b2, 37, [(.slice A4 q.Network.Nodes.length c4), (.slice A5 q.Network.Fibers.length c5), (.slice A6 q.Lights.length c6)]⟩, ⟨b', 37, [(.slice A p.Network.Nodes.length c), (.slice A2 p.Network.Fibers.length c2), (.slice A3 p.Lights.length c3)]⟩] [] [] [(false, MP.val [(.slice A6 q.Lights.length c6)] (q.Lights : List Light)), (false, MP.val [(.slice A5 q.Network.Fibers.length c5)] (q.Network.Fibers : List Fiber)), (false, MP.val [(.slice A4 q.Network.Nodes.length c4)] (q.Network.Nodes : List ByteArray)), (false, MP.val [(.slice A3 p.Lights.length c3)] (p.Lights : List Light)), (false, MP.val [(.slice A2 p.Network.Fibers.length c2)] (p.Network.Fibers : List Fiber)), (false, MP.val [(.slice A p.Network.Nodes.length c)] (p.Network.Nodes : List ByteArray))] w) (fun k (s : Int) => spec_l9Same_L2 fu p q k s = some out2) (fun s => out2 = Out.next s) 0 fu hB1 ⟨hf, H⟩ (fun s h => by cases h) ?_ ?_
  ·rintro fk i3 a w hR1 hI
   replace hR1 : spec_l9Same_L2 fu p q (fk + 1) i3 = some out2 := hR1
   rw [spec_l9Same_L2] at hR1
   obtain ⟨hf, H⟩ := hI
   refine sq (sq (reg (pr 3 hf rfl rfl fun a hf => ?_)))
   refine wl0 rfl (op_q hf (rq_loadB hf H TF.ls32 1 rfl rfl rfl) rfl (by decide) fun a hf => ?_)
   refine pr 2 hf rfl rfl fun a hf => ?_
   refine wl_end (then_n (iteB hR1 (fun hc6 hR1 => cd_t hf rfl hc6 ?_) fun hc6 hR1 => cd_f hf rfl hc6 ?_))
   ·refine wp_skip (then_n (sq (wp_block (sq (drawn [] (bs := [false, false, false, false, false, false, false, false, false, false, false, false, false]) (fuel := 13) (Checked.mixed Tryz.checked) rfl rfl fun w hb => ?_)))))
    have H := H.keep hb
    refine tp 0 rfl rfl hf (by kernel_rfl) (fun _ => trivial) rfl fun a hf => ?_
    refine tp 1 rfl rfl hf (by kernel_rfl) (fun _ => trivial) rfl fun a hf => ?_
    refine strT (H.let [false, true] [] [] [] rfl rfl rfl rfl) (fun w H => trivial) fun hS => ?_
    refine tS 2 [] rfl rfl rfl rfl hf (by kernel_rfl) (by kernel_rfl) hS (fun w H => rq_loadB hf H TF.ls32 0 rfl rfl rfl) fun a hf => ?_
    refine tp 3 rfl rfl hf (by kernel_rfl) (fun _ => hS) rfl fun a hf => ?_
    obtain ⟨e3, he3, hR1⟩ := bind_some hR1
    obtain ⟨p4, o3, cs3, hx3, hr3, H⟩ := pre_iaddr H Tryz.underlying32 TF.sz120 4 rfl he3
    refine tP 4 rfl rfl rfl rfl hf (by kernel_rfl) (fun _ => hS) (fun w => rq_iaddrE hf rfl rfl rfl hx3 w) fun a hf => ?_
    obtain rfl := Fiber_cells hr3
    refine strT (H.let [false, true] [] [] [0] rfl rfl rfl rfl) (fun w H => H.let [true] [] [] [] rfl rfl rfl rfl) fun hS => ?_
    refine tS 5 [] rfl rfl rfl rfl hf (by kernel_rfl) (by kernel_rfl) hS (fun w H => rq_loadIN hf H TF.la120 0 0 rfl rfl rfl rfl) fun a hf => ?_
    refine tp 6 rfl rfl hf (by kernel_rfl) (fun _ => hS) rfl fun a hf => ?_
    refine tp 7 rfl rfl hf (by kernel_rfl) (fun _ => hS) rfl fun a hf => ?_
    refine strT (H.let [true, true] [] [] [0] rfl rfl rfl rfl) (fun w H => H.let [false, true] [] [] [0] rfl rfl rfl rfl) fun hS => ?_
    refine tS 8 [] rfl rfl rfl rfl hf (by kernel_rfl) (by kernel_rfl) hS (fun w H => rq_loadB hf H TF.ls32 0 rfl rfl rfl) fun a hf => ?_
    refine tp 9 rfl rfl hf (by kernel_rfl) (fun _ => hS) rfl fun a hf => ?_
    obtain ⟨e4, he4, hR1⟩ := bind_some hR1
    obtain ⟨p5, o4, cs4, hx4, hr4, H⟩ := pre_iaddr H Tryz.underlying32 TF.sz120 2 rfl he4
    refine tP 10 rfl rfl rfl rfl hf (by kernel_rfl) (fun _ => hS) (fun w => rq_iaddrE hf rfl rfl rfl hx4 w) fun a hf => ?_
    obtain rfl := Fiber_cells hr4
    refine strT (H.let [true, true] [] [] [0, 1] rfl rfl rfl rfl) (fun w H => H.let [true, true] [] [] [1] rfl rfl rfl rfl) fun hS => ?_
    refine tS 11 [] rfl rfl rfl rfl hf (by kernel_rfl) (by kernel_rfl) hS (fun w H => rq_loadIN hf H TF.la120 0 0 rfl rfl rfl rfl) fun a hf => ?_
    refine tP 12 rfl rfl rfl rfl hf (by kernel_rfl) (fun _ => hS) (fun w => rq_neT hf TF.qeqt120 ([e3.A, e3.B, e3.Length, e3.Risk] : List Int) ([e4.A, e4.B, e4.Length, e4.Risk] : List Int) rfl rfl rfl rfl rfl rfl) fun a hf => ?_
    refine dn (by kernel_rfl) ?_
    have hf := hf.prune [2, 3, 6, 78] rfl
    refine then_n (iteB hR1 (fun hc7 hR1 => cd_t hf rfl hc7 ?_) fun hc7 hR1 => cd_f hf rfl hc7 ?_)
    ·refine sq (reg (pr 1 hf rfl rfl fun a hf => ?_))
     refine wl_end (then_n (wp_ret (blk_r (then_r (then_r (blk_r (then_r (then_r (?_)))))))))
     obtain rfl := Option.some.inj hR1
     replace hF := on_ret hF
     obtain rfl := Option.some.inj hF
     refine ret_1 (fn := Tryz.f163) (r := .tmp 4) hf rfl (rv_tmp hf rfl) ?_
     exact ⟨_, rfl, H.bel, mk_bool⟩
    ·refine wp_skip (blk_n (then_n (reg (pr 3 hf rfl rfl fun a hf => ?_))))
     refine wl_end ?_
     have hf := hf.prune [2, 3, 6] rfl
     have H := H.let [true, true] [] [] [2, 3, 4, 5, 6, 7] rfl rfl rfl rfl
     exact then_n ⟨w64 (i3 + 1), hR1, hf, H⟩
   ·refine wp_exit (then_x (then_x (blk_e (?_))))
    have hf := hf.prune [2, 3, 6] rfl
    have H := H.let [true, true] [] [] [0, 1, 2, 3, 4, 5] rfl rfl rfl rfl
    exact ⟨i3, (Option.some.inj hR1).symm, hf, H⟩
  rintro a w ⟨i4, rfl, hf, H⟩
  replace hF := on_next hF
  refine then_n (sq (sq (reg (pr 1 hf rfl rfl fun a hf => ?_))))
  refine wl_end (then_n ?_)
  obtain ⟨out3, hB1, hF⟩ := bind_some hF
  have hf := hf.prune [2, 3, 7] rfl
  have H := H.let [true, true] [] [] [0, 1, 2, 3, 4, 5] rfl rfl rfl rfl
  refine loopC (fun (s : Int) (a : Act) (w : World) => match s with | i5 => Fr a 130 [(2, (.pointer (some ⟨b', 0, none⟩))), (3, (.pointer (some ⟨b2, 0, none⟩))), (7, (.int .i64 i5))] ∧ Mem ⟨w0, []⟩ S [⟨b2, 37, [(.slice A4 q.Network.Nodes.length c4), (.slice A5 q.Network.Fibers.length c5), (.slice A6 q.Lights.length c6)]⟩, ⟨b', 37, [(.slice A p.Network.Nodes.length c), (.slice A2 p.Network.Fibers.length c2), (.slice A3 p.Lights.length c3)]⟩] [] [] [(false, MP.val [(.slice A6 q.Lights.length c6)] (q.Lights : List Light)), (false, MP.val [(.slice A5 q.Network.Fibers.length c5)] (q.Network.Fibers : List Fiber)), (false, MP.val [(.slice A4 q.Network.Nodes.length c4)] (q.Network.Nodes : List ByteArray)), (false, MP.val [(.slice A3 p.Lights.length c3)] (p.Lights : List Light)), (false, MP.val [(.slice A2 p.Network.Fibers.length c2)] (p.Network.Fibers : List Fiber)), (false, MP.val [(.slice A p.Network.Nodes.length c)] (p.Network.Nodes : List ByteArray))] w) (fun k (s : Int) => spec_l9Same_L3 fu p q k s = some out3) (fun s => out3 = Out.next s) 0 fu hB1 ⟨hf, H⟩ (fun s h => by cases h) ?_ ?_
  ·rintro fk i5 a w hR1 hI
   replace hR1 : spec_l9Same_L3 fu p q (fk + 1) i5 = some out3 := hR1
   rw [spec_l9Same_L3] at hR1
   obtain ⟨hf, H⟩ := hI
   refine sq (sq (reg (pr 2 hf rfl rfl fun a hf => ?_)))
   refine wl0 rfl (op_q hf (rq_loadB hf H TF.ls35 1 rfl rfl rfl) rfl (by decide) fun a hf => ?_)
   refine pr 2 hf rfl rfl fun a hf => ?_
   refine wl_end (then_n (iteB hR1 (fun hc8 hR1 => cd_t hf rfl hc8 ?_) fun hc8 hR1 => cd_f hf rfl hc8 ?_))
   ·refine wp_skip (then_n (sq (wp_block (sq ?_))))
    obtain ⟨c8, hGc8, hR1⟩ := bind_some hR1
    have fh2 := hf.prune [2, 3, 7] rfl
    have Hm2 := H.let [true, true] [] [] [0, 1, 2, 3, 4, 5] rfl rfl rfl rfl
    refine midF 129 (.bool c8) fh2 Hm2 ?_ fun a w hf H => ?_
    ·refine drawn [] (bs := [false, false, false, false, false, false, false, false, false, false, false, false, false, false, false, false, false, false, false, false, false, false, false, false, false, false, false, false, false, false, false, false, false, false, false, false, false, false, false, false, false, false, false, false]) (fuel := 44) (Checked.mixed Tryz.checked) rfl rfl fun w hb => ?_
     have H := H.keep hb
     refine tp 0 rfl rfl hf (by kernel_rfl) (fun _ => trivial) rfl fun a hf => ?_
     refine strT (H.let [false, true] [] [] [] rfl rfl rfl rfl) (fun w H => trivial) fun hS => ?_
     refine tS 1 [] rfl rfl rfl rfl hf (by kernel_rfl) (by kernel_rfl) hS (fun w H => rq_loadB hf H TF.ls35 0 rfl rfl rfl) fun a hf => ?_
     refine tp 2 rfl rfl hf (by kernel_rfl) (fun _ => hS) rfl fun a hf => ?_
     obtain ⟨e5, he5, hGc8⟩ := bind_some hGc8
     obtain ⟨p6, o5, cs5, hx5, hr5, H⟩ := pre_iaddr H Tryz.underlying35 TF.sz112 3 rfl he5
     refine tP 3 rfl rfl rfl rfl hf (by kernel_rfl) (fun _ => hS) (fun w => rq_iaddrE hf rfl rfl rfl hx5 w) fun a hf => ?_
     obtain ⟨A7, c9, rfl, hl7⟩ := Light_cells hr5
     have H := H.push (false, MP.val [(.slice A7 e5.Route.Fibers.length c9)] e5.Route.Fibers) hl7
     refine tp 4 rfl rfl hf (by kernel_rfl) (fun _ => hS) rfl fun a hf => ?_
     refine strT (H.let [false, true] [] [] [1] rfl rfl rfl rfl) (fun w H => H.let [true] [] [] [] rfl rfl rfl rfl) fun hS => ?_
     refine tS 5 [] rfl rfl rfl rfl hf (by kernel_rfl) (by kernel_rfl) hS (fun w H => rq_loadI hf H TF.ls3 0 0 rfl rfl rfl) fun a hf => ?_
     refine tp 6 rfl rfl hf (by kernel_rfl) (fun _ => hS) rfl fun a hf => ?_
     refine strT (H.let [true, true] [] [] [1] rfl rfl rfl rfl) (fun w H => H.let [false, true] [] [] [0] rfl rfl rfl rfl) fun hS => ?_
     refine tS 7 [] rfl rfl rfl rfl hf (by kernel_rfl) (by kernel_rfl) hS (fun w H => rq_loadB hf H TF.ls35 0 rfl rfl rfl) fun a hf => ?_
     refine tp 8 rfl rfl hf (by kernel_rfl) (fun _ => hS) rfl fun a hf => ?_
     obtain ⟨e6, he6, hGc8⟩ := bind_some hGc8
     obtain ⟨p7, o6, cs6, hx6, hr6, H⟩ := pre_iaddr H Tryz.underlying35 TF.sz112 2 rfl he6
     refine tP 9 rfl rfl rfl rfl hf (by kernel_rfl) (fun _ => hS) (fun w => rq_iaddrE hf rfl rfl rfl hx6 w) fun a hf => ?_
     obtain ⟨A8, c10, rfl, hl8⟩ := Light_cells hr6
     have H := H.push (false, MP.val [(.slice A8 e6.Route.Fibers.length c10)] e6.Route.Fibers) hl8
     refine tp 10 rfl rfl hf (by kernel_rfl) (fun _ => hS) rfl fun a hf => ?_
     refine strT (H.let [true, true] [] [] [1, 3] rfl rfl rfl rfl) (fun w H => H.let [true, true] [] [] [1] rfl rfl rfl rfl) fun hS => ?_
     refine tS 11 [] rfl rfl rfl rfl hf (by kernel_rfl) (by kernel_rfl) hS (fun w H => rq_loadI hf H TF.ls3 0 0 rfl rfl rfl) fun a hf => ?_
     refine tp 12 rfl rfl hf (by kernel_rfl) (fun _ => hS) rfl fun a hf => ?_
     refine tp 13 rfl rfl hf (by kernel_rfl) (fun _ => hS) rfl fun a hf => ?_
     refine iteB hGc8 (fun hc9 hGc8 => ?_) fun hc9 hGc8 => ?_
     ·have hf := hf.lit 99 rfl hc9
      refine tU 14 rfl rfl rfl rfl rfl rfl rfl hf (by kernel_rfl) (fun _ => hS) fun a hf => ?_
      refine tU 15 rfl rfl rfl rfl rfl rfl rfl hf (by kernel_rfl) (fun _ => hS) fun a hf => ?_
      refine tU 16 rfl rfl rfl rfl rfl rfl rfl hf (by kernel_rfl) (fun _ => hS) fun a hf => ?_
      refine tU 17 rfl rfl rfl rfl rfl rfl rfl hf (by kernel_rfl) (fun _ => hS) fun a hf => ?_
      refine tU 18 rfl rfl rfl rfl rfl rfl rfl hf (by kernel_rfl) (fun _ => hS) fun a hf => ?_
      refine tU 19 rfl rfl rfl rfl rfl rfl rfl hf (by kernel_rfl) (fun _ => hS) fun a hf => ?_
      refine tU 20 rfl rfl rfl rfl rfl rfl rfl hf (by kernel_rfl) (fun _ => hS) fun a hf => ?_
      refine tU 21 rfl rfl rfl rfl rfl rfl rfl hf (by kernel_rfl) (fun _ => hS) fun a hf => ?_
      refine tU 22 rfl rfl rfl rfl rfl rfl rfl hf (by kernel_rfl) (fun _ => hS) fun a hf => ?_
      refine tU 23 rfl rfl rfl rfl rfl rfl rfl hf (by kernel_rfl) (fun _ => hS) fun a hf => ?_
      refine tU 24 rfl rfl rfl rfl rfl rfl rfl hf (by kernel_rfl) (fun _ => hS) fun a hf => ?_
      refine tU 25 rfl rfl rfl rfl rfl rfl rfl hf (by kernel_rfl) (fun _ => hS) fun a hf => ?_
      refine tU 26 rfl rfl rfl rfl rfl rfl rfl hf (by kernel_rfl) (fun _ => hS) fun a hf => ?_
      refine tp 27 rfl rfl hf (by kernel_rfl) (fun _ => hS) rfl fun a hf => ?_
      refine tp 28 rfl rfl hf (by kernel_rfl) (fun _ => hS) rfl fun a hf => ?_
      refine tU 29 rfl rfl rfl rfl rfl rfl rfl hf (by kernel_rfl) (fun _ => hS) fun a hf => ?_
      refine tU 30 rfl rfl rfl rfl rfl rfl rfl hf (by kernel_rfl) (fun _ => hS) fun a hf => ?_
      refine tU 31 rfl rfl rfl rfl rfl rfl rfl hf (by kernel_rfl) (fun _ => hS) fun a hf => ?_
      refine tU 32 rfl rfl rfl rfl rfl rfl rfl hf (by kernel_rfl) (fun _ => hS) fun a hf => ?_
      refine tU 33 rfl rfl rfl rfl rfl rfl rfl hf (by kernel_rfl) (fun _ => hS) fun a hf => ?_
      refine tU 34 rfl rfl rfl rfl rfl rfl rfl hf (by kernel_rfl) (fun _ => hS) fun a hf => ?_
      refine tU 35 rfl rfl rfl rfl rfl rfl rfl hf (by kernel_rfl) (fun _ => hS) fun a hf => ?_
      refine tU 36 rfl rfl rfl rfl rfl rfl rfl hf (by kernel_rfl) (fun _ => hS) fun a hf => ?_
      refine tU 37 rfl rfl rfl rfl rfl rfl rfl hf (by kernel_rfl) (fun _ => hS) fun a hf => ?_
      refine tU 38 rfl rfl rfl rfl rfl rfl rfl hf (by kernel_rfl) (fun _ => hS) fun a hf => ?_
      refine tU 39 rfl rfl rfl rfl rfl rfl rfl hf (by kernel_rfl) (fun _ => hS) fun a hf => ?_
      refine tU 40 rfl rfl rfl rfl rfl rfl rfl hf (by kernel_rfl) (fun _ => hS) fun a hf => ?_
      refine tU 41 rfl rfl rfl rfl rfl rfl rfl hf (by kernel_rfl) (fun _ => hS) fun a hf => ?_
      refine tU 42 rfl rfl rfl rfl rfl rfl rfl hf (by kernel_rfl) (fun _ => hS) fun a hf => ?_
      refine tp 43 rfl rfl hf (by kernel_rfl) (fun _ => hS) rfl fun a hf => ?_
      refine dn (by kernel_rfl) ?_
      obtain rfl := Option.some.inj hGc8
      have hf := hf.prune [129, 2, 3, 7] rfl
      have H := H.let [true, true] [] [] [4, 5, 6, 7, 8, 9] rfl rfl rfl rfl
      exact ⟨hf, H⟩
     ·have hf := hf.lit 99 rfl hc9
      refine tpg 14 rfl rfl rfl rfl hf (by kernel_rfl) (fun _ => hS) rfl fun a hf => ?_
      refine tSg 15 [] rfl rfl rfl rfl rfl rfl hf (by kernel_rfl) (by kernel_rfl) hS (fun w H => rq_loadB hf H TF.ls35 1 rfl rfl rfl) fun a hf => ?_
      refine tpg 16 rfl rfl rfl rfl hf (by kernel_rfl) (fun _ => hS) rfl fun a hf => ?_
      obtain ⟨e7, he7, hGc8⟩ := bind_some hGc8
      obtain ⟨p8, o7, cs7, hx7, hr7, H⟩ := pre_iaddr H Tryz.underlying35 TF.sz112 7 rfl he7
      refine tPg 17 rfl rfl rfl rfl rfl rfl hf (by kernel_rfl) (fun _ => hS) (fun w => rq_iaddrE hf rfl rfl rfl hx7 w) fun a hf => ?_
      obtain ⟨A9, c11, rfl, hl9⟩ := Light_cells hr7
      have H := H.push (false, MP.val [(.slice A9 e7.Route.Fibers.length c11)] e7.Route.Fibers) hl9
      refine tpg 18 rfl rfl rfl rfl hf (by kernel_rfl) (fun _ => hS) rfl fun a hf => ?_
      refine strT (H.let [true, true] [] [] [1, 3, 5] rfl rfl rfl rfl) (fun w H => H.let [true, true] [] [] [1, 2] rfl rfl rfl rfl) fun hS => ?_
      refine tSg 19 [] rfl rfl rfl rfl rfl rfl hf (by kernel_rfl) (by kernel_rfl) hS (fun w H => rq_loadIN hf H TF.la110 0 3 rfl rfl rfl rfl) fun a hf => ?_
      refine tpg 20 rfl rfl rfl rfl hf (by kernel_rfl) (fun _ => hS) rfl fun a hf => ?_
      refine tSg 21 [] rfl rfl rfl rfl rfl rfl hf (by kernel_rfl) (by kernel_rfl) hS (fun w H => rq_loadB hf H TF.ls35 0 rfl rfl rfl) fun a hf => ?_
      refine tpg 22 rfl rfl rfl rfl hf (by kernel_rfl) (fun _ => hS) rfl fun a hf => ?_
      obtain ⟨e8, he8, hGc8⟩ := bind_some hGc8
      obtain ⟨p9, o8, cs8, hx8, hr8, H⟩ := pre_iaddr H Tryz.underlying35 TF.sz112 6 rfl he8
      refine tPg 23 rfl rfl rfl rfl rfl rfl hf (by kernel_rfl) (fun _ => hS) (fun w => rq_iaddrE hf rfl rfl rfl hx8 w) fun a hf => ?_
      obtain ⟨A10, c12, rfl, hl10⟩ := Light_cells hr8
      have H := H.push (false, MP.val [(.slice A10 e8.Route.Fibers.length c12)] e8.Route.Fibers) hl10
      refine tpg 24 rfl rfl rfl rfl hf (by kernel_rfl) (fun _ => hS) rfl fun a hf => ?_
      refine strT (H.let [true, true] [] [] [1, 3, 5, 7] rfl rfl rfl rfl) (fun w H => H.let [true, true] [] [] [1, 2, 3] rfl rfl rfl rfl) fun hS => ?_
      refine tSg 25 [] rfl rfl rfl rfl rfl rfl hf (by kernel_rfl) (by kernel_rfl) hS (fun w H => rq_loadIN hf H TF.la110 0 3 rfl rfl rfl rfl) fun a hf => ?_
      refine tPg 26 rfl rfl rfl rfl rfl rfl hf (by kernel_rfl) (fun _ => hS) (fun w => rq_neT hf TF.qeqt110 ([e7.Block.First, e7.Block.Count] : List Int) ([e8.Block.First, e8.Block.Count] : List Int) rfl rfl rfl rfl rfl rfl) fun a hf => ?_
      refine tp 27 rfl rfl hf (by kernel_rfl) (fun _ => hS) rfl fun a hf => ?_
      refine tp 28 rfl rfl hf (by kernel_rfl) (fun _ => hS) rfl fun a hf => ?_
      refine iteB hGc8 (fun hc10 hGc8 => ?_) fun hc10 hGc8 => ?_
      ·have hf := hf.lit 114 rfl hc10
       refine tU 29 rfl rfl rfl rfl rfl rfl rfl hf (by kernel_rfl) (fun _ => hS) fun a hf => ?_
       refine tU 30 rfl rfl rfl rfl rfl rfl rfl hf (by kernel_rfl) (fun _ => hS) fun a hf => ?_
       refine tU 31 rfl rfl rfl rfl rfl rfl rfl hf (by kernel_rfl) (fun _ => hS) fun a hf => ?_
       refine tU 32 rfl rfl rfl rfl rfl rfl rfl hf (by kernel_rfl) (fun _ => hS) fun a hf => ?_
       refine tU 33 rfl rfl rfl rfl rfl rfl rfl hf (by kernel_rfl) (fun _ => hS) fun a hf => ?_
       refine tU 34 rfl rfl rfl rfl rfl rfl rfl hf (by kernel_rfl) (fun _ => hS) fun a hf => ?_
       refine tU 35 rfl rfl rfl rfl rfl rfl rfl hf (by kernel_rfl) (fun _ => hS) fun a hf => ?_
       refine tU 36 rfl rfl rfl rfl rfl rfl rfl hf (by kernel_rfl) (fun _ => hS) fun a hf => ?_
       refine tU 37 rfl rfl rfl rfl rfl rfl rfl hf (by kernel_rfl) (fun _ => hS) fun a hf => ?_
       refine tU 38 rfl rfl rfl rfl rfl rfl rfl hf (by kernel_rfl) (fun _ => hS) fun a hf => ?_
       refine tU 39 rfl rfl rfl rfl rfl rfl rfl hf (by kernel_rfl) (fun _ => hS) fun a hf => ?_
       refine tU 40 rfl rfl rfl rfl rfl rfl rfl hf (by kernel_rfl) (fun _ => hS) fun a hf => ?_
       refine tU 41 rfl rfl rfl rfl rfl rfl rfl hf (by kernel_rfl) (fun _ => hS) fun a hf => ?_
       refine tU 42 rfl rfl rfl rfl rfl rfl rfl hf (by kernel_rfl) (fun _ => hS) fun a hf => ?_
       refine tp 43 rfl rfl hf (by kernel_rfl) (fun _ => hS) rfl fun a hf => ?_
       refine dn (by kernel_rfl) ?_
       obtain rfl := Option.some.inj hGc8
       have hf := hf.prune [129, 2, 3, 7] rfl
       have H := H.let [true, true] [] [] [8, 9, 10, 11, 12, 13] rfl rfl rfl rfl
       exact ⟨hf, H⟩
      ·have hf := hf.lit 114 rfl hc10
       refine tpg 29 rfl rfl rfl rfl hf (by kernel_rfl) (fun _ => hS) rfl fun a hf => ?_
       refine tSg 30 [] rfl rfl rfl rfl rfl rfl hf (by kernel_rfl) (by kernel_rfl) hS (fun w H => rq_loadB hf H TF.ls35 1 rfl rfl rfl) fun a hf => ?_
       refine tpg 31 rfl rfl rfl rfl hf (by kernel_rfl) (fun _ => hS) rfl fun a hf => ?_
       obtain ⟨e9, he9, hGc8⟩ := bind_some hGc8
       obtain ⟨p10, o9, cs9, hx9, hr9, H⟩ := pre_iaddr H Tryz.underlying35 TF.sz112 11 rfl he9
       refine tPg 32 rfl rfl rfl rfl rfl rfl hf (by kernel_rfl) (fun _ => hS) (fun w => rq_iaddrE hf rfl rfl rfl hx9 w) fun a hf => ?_
       obtain ⟨A11, c13, rfl, hl11⟩ := Light_cells hr9
       have H := H.push (false, MP.val [(.slice A11 e9.Route.Fibers.length c13)] e9.Route.Fibers) hl11
       refine tpg 33 rfl rfl rfl rfl hf (by kernel_rfl) (fun _ => hS) rfl fun a hf => ?_
       refine strT (H.let [true, true] [] [] [1, 3, 5, 7, 9] rfl rfl rfl rfl) (fun w H => H.let [true, true] [] [] [1, 2, 3, 4] rfl rfl rfl rfl) fun hS => ?_
       refine tSg 34 [] rfl rfl rfl rfl rfl rfl hf (by kernel_rfl) (by kernel_rfl) hS (fun w H => rq_loadIN hf H TF.la108 0 1 rfl rfl rfl rfl) fun a hf => ?_
       refine tpg 35 rfl rfl rfl rfl hf (by kernel_rfl) (fun _ => hS) rfl fun a hf => ?_
       refine tSg 36 [] rfl rfl rfl rfl rfl rfl hf (by kernel_rfl) (by kernel_rfl) hS (fun w H => rq_loadB hf H TF.ls35 0 rfl rfl rfl) fun a hf => ?_
       refine tpg 37 rfl rfl rfl rfl hf (by kernel_rfl) (fun _ => hS) rfl fun a hf => ?_
       obtain ⟨e10, he10, hGc8⟩ := bind_some hGc8
       obtain ⟨p11, o10, cs10, hx10, hr10, H⟩ := pre_iaddr H Tryz.underlying35 TF.sz112 10 rfl he10
       refine tPg 38 rfl rfl rfl rfl rfl rfl hf (by kernel_rfl) (fun _ => hS) (fun w => rq_iaddrE hf rfl rfl rfl hx10 w) fun a hf => ?_
       obtain ⟨A12, c14, rfl, hl12⟩ := Light_cells hr10
       have H := H.push (false, MP.val [(.slice A12 e10.Route.Fibers.length c14)] e10.Route.Fibers) hl12
       refine tpg 39 rfl rfl rfl rfl hf (by kernel_rfl) (fun _ => hS) rfl fun a hf => ?_
       refine strT (H.let [true, true] [] [] [1, 3, 5, 7, 9, 11] rfl rfl rfl rfl) (fun w H => H.let [true, true] [] [] [1, 2, 3, 4, 5] rfl rfl rfl rfl) fun hS => ?_
       refine tSg 40 [] rfl rfl rfl rfl rfl rfl hf (by kernel_rfl) (by kernel_rfl) hS (fun w H => rq_loadIN hf H TF.la108 0 1 rfl rfl rfl rfl) fun a hf => ?_
       obtain ⟨y, hy, hGc8⟩ := bind_some hGc8
       refine n1g 41 (by kernel_rfl) rfl rfl rfl rfl hf (op_call hf TF.cl212 rfl (by decide) (spec_l4Same_ok (S := fun _ => True) (Route_mkv (x := e9.Route) (rep_true (α := List Int) (H.get 2 rfl))) (Route_mkv (x := e10.Route) (rep_true (α := List Int) (H.get 0 rfl))) hy) fun v w a hp hf => ?_)
       obtain ⟨hb, hp⟩ := hp
       obtain rfl := VR_bool hp
       have H := H.keep hb
       have hS := H.let [true, true] [] [] [1, 3, 5, 7, 9, 11] rfl rfl rfl rfl
       refine ⟨fun _ => hS, ?_⟩
       refine tpg 42 rfl rfl rfl rfl hf (by kernel_rfl) (fun _ => hS) rfl fun a hf => ?_
       refine tp 43 rfl rfl hf (by kernel_rfl) (fun _ => hS) rfl fun a hf => ?_
       refine dn (by kernel_rfl) ?_
       obtain rfl := Option.some.inj hGc8
       have hf := hf.prune [129, 2, 3, 7] rfl
       have H := H.let [true, true] [] [] [12, 13, 14, 15, 16, 17] rfl rfl rfl rfl
       exact ⟨hf, H⟩
    refine then_n (iteB hR1 (fun hc11 hR1 => cd_t hf rfl hc11 ?_) fun hc11 hR1 => cd_f hf rfl hc11 ?_)
    ·refine sq (reg (pr 1 hf rfl rfl fun a hf => ?_))
     refine wl_end (then_n (wp_ret (blk_r (then_r (then_r (blk_r (then_r (then_r (?_)))))))))
     obtain rfl := Option.some.inj hR1
     replace hF := on_ret hF
     obtain rfl := Option.some.inj hF
     refine ret_1 (fn := Tryz.f163) (r := .tmp 4) hf rfl (rv_tmp hf rfl) ?_
     exact ⟨_, rfl, H.bel, mk_bool⟩
    ·refine wp_skip (blk_n (then_n (reg (pr 3 hf rfl rfl fun a hf => ?_))))
     refine wl_end ?_
     have hf := hf.prune [2, 3, 7] rfl
     have H := H.let [true, true] [] [] [0, 1, 2, 3, 4, 5] rfl rfl rfl rfl
     exact then_n ⟨w64 (i5 + 1), hR1, hf, H⟩
   ·refine wp_exit (then_x (then_x (blk_e (?_))))
    have hf := hf.prune [2, 3, 7] rfl
    have H := H.let [true, true] [] [] [0, 1, 2, 3, 4, 5] rfl rfl rfl rfl
    exact ⟨i5, (Option.some.inj hR1).symm, hf, H⟩
  rintro a w ⟨i6, rfl, hf, H⟩
  replace hF := on_next hF
  refine then_n (sq (reg (pr 1 hf rfl rfl fun a hf => ?_)))
  refine wl_end (then_n (wp_ret (?_)))
  obtain rfl := Option.some.inj hF
  refine ret_1 (fn := Tryz.f163) (r := .tmp 4) hf rfl (rv_tmp hf rfl) ?_
  exact ⟨_, rfl, H.bel, mk_bool⟩

/- loop.example/g00897/spec.l20Networks -/
set_option maxHeartbeats 1000000 in
theorem spec_l20Networks_ok {fu : Nat} {w0 : World} {S : Nat → Prop} {v0_ : Value} {v1_ : Value} {p : Plan} {q : Plan} {r : Bool} (h0 : VR w0 S v0_ p) (h1 : VR w0 S v1_ q) (hF : spec_l20Networks fu p q = some r) :
    Calls Tryz.prog 99 [v0_, v1_].toArray w0 fun e w' => ∃ v, e = .returned v ∧ (Below w0.heap.size w0 w' ∧ VR w' (St ⟨w0, []⟩ S [] [] [] true) v r) := by
 obtain ⟨A, c, A2, c2, A3, c3, rfl, hl, hl2, hl3⟩ := Plan_open h0
 obtain ⟨A4, c4, A5, c5, A6, c6, rfl, hl4, hl5, hl6⟩ := Plan_open h1
 have H := Mem.start ⟨w0, []⟩ S
 have H := H.pushArg (MP.val [(.slice A p.Network.Nodes.length c)] p.Network.Nodes) hl
 have H := H.pushArg (MP.val [(.slice A2 p.Network.Fibers.length c2)] p.Network.Fibers) hl2
 have H := H.pushArg (MP.val [(.slice A3 p.Lights.length c3)] p.Lights) hl3
 have H := H.pushArg (MP.val [(.slice A4 q.Network.Nodes.length c4)] q.Network.Nodes) hl4
 have H := H.pushArg (MP.val [(.slice A5 q.Network.Fibers.length c5)] q.Network.Fibers) hl5
 have H := H.pushArg (MP.val [(.slice A6 q.Lights.length c6)] q.Lights) hl6
 refine enter Tryz.func99 rfl rfl (nle rfl) rfl fun a hf => ?_
 rw [spec_l20Networks] at hF
 refine sq (reg (wl0 rfl (op_box hf H rfl rfl (by decide) fun b' a w hf H => ?_)))
 refine wl0 rfl (op_box hf H rfl rfl (by decide) fun b2 a w hf H => ?_)
 refine pr 1 hf rfl rfl fun a hf => ?_
 refine wl_end (then_n (sq (reg (pr 1 hf rfl rfl fun a hf => ?_))))
 refine wl0 rfl (op_q hf (rq_loadBN hf H TF.la34 1 rfl rfl rfl rfl) rfl (by decide) fun a hf => ?_)
 refine wl0 rfl (op_q hf (rq_build hf (cs := [(.slice A p.Network.Nodes.length c), (.slice A2 p.Network.Fibers.length c2), (.slice none 0 0)]) rfl (fun w => by kernel_rfl)) rfl (by decide) fun a hf => ?_)
 refine pr 1 hf rfl rfl fun a hf => ?_
 refine wl0 rfl (op_q hf (rq_loadBN hf H TF.la34 0 rfl rfl rfl rfl) rfl (by decide) fun a hf => ?_)
 refine wl0 rfl (op_q hf (rq_build hf (cs := [(.slice A4 q.Network.Nodes.length c4), (.slice A5 q.Network.Fibers.length c5), (.slice none 0 0)]) rfl (fun w => by kernel_rfl)) rfl (by decide) fun a hf => ?_)
 have H := H.pushNil (Light) true
 have H := H.pushNil (Light) true
 obtain ⟨y, hy, hF⟩ := bind_some hF
 refine wl0 rfl (op_call hf TF.cl163 rfl (by decide) (spec_l9Same_ok (S := fun _ => True) (Plan_mkv (x := ({ Network := p.Network, Lights := [] } : Plan)) (rep_true (α := List ByteArray) (H.get 7 rfl)) (rep_true (α := List Fiber) (H.get 6 rfl)) (rep_true (α := List Light) (H.get 1 rfl))) (Plan_mkv (x := ({ Network := q.Network, Lights := [] } : Plan)) (rep_true (α := List ByteArray) (H.get 4 rfl)) (rep_true (α := List Fiber) (H.get 3 rfl)) (rep_true (α := List Light) (H.get 0 rfl))) hy) fun v w a hp hf => ?_)
 obtain ⟨hb, hp⟩ := hp
 obtain rfl := VR_bool hp
 have H := H.keep hb
 refine pr 1 hf rfl rfl fun a hf => ?_
 refine wl_end (then_n (wp_ret (?_)))
 obtain rfl := Option.some.inj hF
 refine ret_1 (fn := Tryz.f99) (r := .tmp 4) hf rfl (rv_tmp hf rfl) ?_
 exact ⟨_, rfl, H.bel, mk_bool⟩

/- loop.example/g00897/spec.l20Same -/
set_option maxHeartbeats 1000000 in
theorem spec_l20Same_ok {fu : Nat} {w0 : World} {S : Nat → Prop} {v0_ : Value} {v1_ : Value} {x1 : Light} {y : Light} {r : Bool} (h0 : VR w0 S v0_ x1) (h1 : VR w0 S v1_ y) (hF : spec_l20Same fu x1 y = some r) :
    Calls Tryz.prog 164 [v0_, v1_].toArray w0 fun e w' => ∃ v, e = .returned v ∧ (Below w0.heap.size w0 w' ∧ VR w' (St ⟨w0, []⟩ S [] [] [] true) v r) := by
 obtain ⟨A, c, rfl, hl⟩ := Light_open h0
 obtain ⟨A2, c2, rfl, hl2⟩ := Light_open h1
 have H := Mem.start ⟨w0, []⟩ S
 have H := H.pushArg (MP.val [(.slice A x1.Route.Fibers.length c)] x1.Route.Fibers) hl
 have H := H.pushArg (MP.val [(.slice A2 y.Route.Fibers.length c2)] y.Route.Fibers) hl2
 refine enter Tryz.func164 rfl rfl (nle rfl) rfl fun a hf => ?_
 rw [spec_l20Same] at hF
 refine sq (reg (wl0 rfl (op_box hf H rfl rfl (by decide) fun b' a w hf H => ?_)))
 refine wl0 rfl (op_box hf H rfl rfl (by decide) fun b2 a w hf H => ?_)
 refine pr 1 hf rfl rfl fun a hf => ?_
 refine wl_end (then_n (sq ?_))
 obtain ⟨c3, hGc3, hF⟩ := bind_some hF
 have fh := hf.prune [] rfl
 have Hm := H.let [false, false] [] [] [] rfl rfl rfl rfl
 refine midF 4 (.bool c3) fh Hm ?_ fun a w hf H => ?_
 ·refine reg (pr 1 hf rfl rfl fun a hf => ?_)
  refine wl0 rfl (op_q hf (rq_loadB hf H TF.ls3 1 rfl rfl rfl) rfl (by decide) fun a hf => ?_)
  refine pr 1 hf rfl rfl fun a hf => ?_
  refine wl0 rfl (op_q hf (rq_loadB hf H TF.ls3 0 rfl rfl rfl) rfl (by decide) fun a hf => ?_)
  refine pr 2 hf rfl rfl fun a hf => ?_
  refine iteB hGc3 (fun hc hGc3 => ?_) fun hc hGc3 => ?_
  ·have hf := hf.lit 10 rfl hc
   refine pr 1 hf rfl rfl fun a hf => ?_
   refine wlg hf rfl rfl rfl (op_q hf (rq_loadBN hf H TF.la110 1 rfl rfl rfl rfl) rfl (by decide) fun a hf => ?_)
   refine pr 1 hf rfl rfl fun a hf => ?_
   refine wlg hf rfl rfl rfl (op_q hf (rq_loadBN hf H TF.la110 0 rfl rfl rfl rfl) rfl (by decide) fun a hf => ?_)
   refine wlg hf rfl rfl rfl (op_q hf (rq_eqT hf TF.qeqt110 ([x1.Block.First, x1.Block.Count] : List Int) ([y.Block.First, y.Block.Count] : List Int) rfl rfl rfl rfl rfl rfl) rfl (by decide) fun a hf => ?_)
   refine pr 2 hf rfl rfl fun a hf => ?_
   refine iteB hGc3 (fun hc2 hGc3 => ?_) fun hc2 hGc3 => ?_
   ·have hf := hf.lit 17 rfl hc2
    refine pr 1 hf rfl rfl fun a hf => ?_
    refine wlg hf rfl rfl rfl (op_q hf (rq_loadBN hf H TF.la108 1 rfl rfl rfl rfl) rfl (by decide) fun a hf => ?_)
    refine pr 1 hf rfl rfl fun a hf => ?_
    refine wlg hf rfl rfl rfl (op_q hf (rq_loadBN hf H TF.la108 0 rfl rfl rfl rfl) rfl (by decide) fun a hf => ?_)
    obtain ⟨y2, hy2, hGc3⟩ := bind_some hGc3
    refine wlg hf rfl rfl rfl (op_call hf TF.cl212 rfl (by decide) (spec_l4Same_ok (S := fun _ => True) (Route_mkv (x := x1.Route) (rep_true (α := List Int) (H.get 1 rfl))) (Route_mkv (x := y.Route) (rep_true (α := List Int) (H.get 0 rfl))) hy2) fun v w a hp hf => ?_)
    obtain ⟨hb, hp⟩ := hp
    obtain rfl := VR_bool hp
    have H := H.keep hb
    refine pr 2 hf rfl rfl fun a hf => ?_
    obtain rfl := Option.some.inj hGc3
    have hf := hf.prune [4] rfl
    have H := H.let [false, false] [] [] [] rfl rfl rfl rfl
    exact wl_end ⟨hf, H⟩
   ·have hf := hf.lit 17 rfl hc2
    refine pr 7 hf rfl rfl fun a hf => ?_
    obtain rfl := Option.some.inj hGc3
    have hf := hf.prune [4] rfl
    have H := H.let [false, false] [] [] [] rfl rfl rfl rfl
    exact wl_end ⟨hf, H⟩
  ·have hf := hf.lit 10 rfl hc
   refine pr 14 hf rfl rfl fun a hf => ?_
   obtain rfl := Option.some.inj hGc3
   have hf := hf.prune [4] rfl
   have H := H.let [false, false] [] [] [] rfl rfl rfl rfl
   exact wl_end ⟨hf, H⟩
 refine then_n (wp_ret (?_))
 obtain rfl := Option.some.inj hF
 refine ret_1 (fn := Tryz.f164) (r := .tmp 4) hf rfl (rv_tmp hf rfl) ?_
 exact ⟨_, rfl, H.bel, mk_bool⟩

/- loop.example/g00897/spec.l20Difference -/
set_option maxHeartbeats 1000000 in
theorem spec_l20Difference_ok {fu : Nat} {w0 : World} {S : Nat → Prop} {v0_ : Value} {v1_ : Value} {p : Plan} {q : Plan} {r : List Action} (h0 : VR w0 S v0_ p) (h1 : VR w0 S v1_ q) (hF : spec_l20Difference fu p q = some r) :
    Calls Tryz.prog 100 [v0_, v1_].toArray w0 fun e w' => ∃ v, e = .returned v ∧ (Below w0.heap.size w0 w' ∧ ∃ F0, VO w' F0 v r ∧ New w0 w' F0) := by
 obtain ⟨A, c, A2, c2, A3, c3, rfl, hl, hl2, hl3⟩ := Plan_open h0
 obtain ⟨A4, c4, A5, c5, A6, c6, rfl, hl4, hl5, hl6⟩ := Plan_open h1
 have H := Mem.start ⟨w0, []⟩ S
 have H := H.pushArg (MP.val [(.slice A p.Network.Nodes.length c)] p.Network.Nodes) hl
 have H := H.pushArg (MP.val [(.slice A2 p.Network.Fibers.length c2)] p.Network.Fibers) hl2
 have H := H.pushArg (MP.val [(.slice A3 p.Lights.length c3)] p.Lights) hl3
 have H := H.pushArg (MP.val [(.slice A4 q.Network.Nodes.length c4)] q.Network.Nodes) hl4
 have H := H.pushArg (MP.val [(.slice A5 q.Network.Fibers.length c5)] q.Network.Fibers) hl5
 have H := H.pushArg (MP.val [(.slice A6 q.Lights.length c6)] q.Lights) hl6
 refine enter Tryz.func100 rfl rfl (nle rfl) rfl fun a hf => ?_
 rw [spec_l20Difference] at hF
 refine sq (reg (wl0 rfl (op_box hf H rfl rfl (by decide) fun b' a w hf H => ?_)))
 refine wl0 rfl (op_box hf H rfl rfl (by decide) fun b2 a w hf H => ?_)
 refine pr 1 hf rfl rfl fun a hf => ?_
 refine wl_end (then_n (sq (reg (wl0 rfl (op_bslice hf H (.ow []) rfl 136 ([] : List Action) [] rfl (fun w => by kernel_rfl) rfl (by decide) rfl rfl (fun i x h => by simp at h) (by decide) fun A7 a w hf H => ?_)))))
 refine pr 1 hf rfl rfl fun a hf => ?_
 refine wl_end (then_n (sq (sq (reg (pr 1 hf rfl rfl fun a hf => ?_)))))
 refine wl_end (then_n ?_)
 obtain ⟨out2, hB1, hF⟩ := bind_some hF
 have hf := hf.prune [2, 3, 5, 6] rfl
 have H := H.let [true, true] [true] [] [0, 1, 2, 3, 4, 5] rfl rfl rfl rfl
 refine loopC (fun (s : List Action × Int) (a : Act) (w : World) => match s with | (out', i) => ∃ (A8 : Option Addr) (c7 : Nat) (E : Go.TypeId) (Fs : List (List Nat)), Fr a 105 [(2, (.pointer (some ⟨b', 0, none⟩))), (3, (.pointer (some ⟨b2, 0, none⟩))), (5, (.slice A8 out'.length c7)), (6, (.int .i64 i))] ∧ Mem ⟨w0, []⟩ S [⟨b2, 37, [(.slice A4 q.Network.Nodes.length c4), (.slice A5 q.Network.Fibers.length c5), (.slice A6 q.Lights.length c6)]⟩, ⟨b', 37, [(.slice A p.Network.Nodes.length c), (.slice A2 p.Network.Fibers.length c2), (.slice A3 p.Lights.length c3)]⟩] [⟨.ow Fs, E, A8, c7, (out' : List Action)⟩] [] [(false, MP.val [(.slice A6 q.Lights.length c6)] (q.Lights : List Light)), (false, MP.val [(.slice A5 q.Network.Fibers.length c5)] (q.Network.Fibers : List Fiber)), (false, MP.val [(.slice A4 q.Network.Nodes.length c4)] (q.Network.Nodes : List ByteArray)), (false, MP.val [(.slice A3 p.Lights.length c3)] (p.Lights : List Light)), (false, MP.val [(.slice A2 p.Network.Fibers.length c2)] (p.Network.Fibers : List Fiber)), (false, MP.val [(.slice A p.Network.Nodes.length c)] (p.Network.Nodes : List ByteArray))] w) (fun k (s : List Action × Int) => spec_l20Difference_L1 fu p q k s.1 s.2 = some out2) (fun s => out2 = s) (([] : List Action), 0) fu hB1 ⟨A7, 0, 136, [], hf, H⟩ (fun s h => by cases h) ?_ ?_
 ·rintro fk ⟨out', i⟩ a w hR1 hI
  replace hR1 : spec_l20Difference_L1 fu p q (fk + 1) out' i = some out2 := hR1
  rw [spec_l20Difference_L1] at hR1
  obtain ⟨A8, c7, E, Fs, hf, H⟩ := hI
  refine sq (sq (reg (pr 2 hf rfl rfl fun a hf => ?_)))
  refine wl0 rfl (op_q hf (rq_loadB hf H TF.ls35 1 rfl rfl rfl) rfl (by decide) fun a hf => ?_)
  refine pr 2 hf rfl rfl fun a hf => ?_
  refine wl_end (then_n (iteB hR1 (fun hc hR1 => cd_t hf rfl hc ?_) fun hc hR1 => cd_f hf rfl hc ?_))
  ·refine wp_skip (then_n (sq (wp_block (sq (drawn [] (bs := [false, false, false, false, false, false, false, false, false]) (fuel := 9) (Checked.mixed Tryz.checked) rfl rfl fun w hb => ?_)))))
   have H := H.keep hb
   refine strT (H.let [true, false] [false] [] [] rfl rfl rfl rfl) (fun w H => trivial) fun hS => ?_
   refine tS 0 [] rfl rfl rfl rfl hf (by kernel_rfl) (by kernel_rfl) hS (fun w H => rq_loadBN hf H TF.la37 0 rfl rfl rfl rfl) fun a hf => ?_
   refine tp 1 rfl rfl hf (by kernel_rfl) (fun _ => hS) rfl fun a hf => ?_
   refine strT (H.let [true, true] [false] [] [] rfl rfl rfl rfl) (fun w H => H.let [true, false] [] [] [] rfl rfl rfl rfl) fun hS => ?_
   refine tS 2 [] rfl rfl rfl rfl hf (by kernel_rfl) (by kernel_rfl) hS (fun w H => rq_loadB hf H TF.ls35 1 rfl rfl rfl) fun a hf => ?_
   refine tp 3 rfl rfl hf (by kernel_rfl) (fun _ => hS) rfl fun a hf => ?_
   obtain ⟨e, he, hR1⟩ := bind_some hR1
   obtain ⟨p2, o, cs, hx, hr, H⟩ := pre_iaddr H Tryz.underlying35 TF.sz112 3 rfl he
   refine tP 4 rfl rfl rfl rfl hf (by kernel_rfl) (fun _ => hS) (fun w => rq_iaddrE hf rfl rfl rfl hx w) fun a hf => ?_
   obtain ⟨A9, c8, rfl, hl7⟩ := Light_cells hr
   have H := H.push (false, MP.val [(.slice A9 e.Route.Fibers.length c8)] e.Route.Fibers) hl7
   refine tp 5 rfl rfl hf (by kernel_rfl) (fun _ => hS) rfl fun a hf => ?_
   refine strT (H.let [true, true] [false] [] [1] rfl rfl rfl rfl) (fun w H => H.let [true, true] [] [] [] rfl rfl rfl rfl) fun hS => ?_
   refine tS 6 [] rfl rfl rfl rfl hf (by kernel_rfl) (by kernel_rfl) hS (fun w H => rq_loadI hf H TF.ls3 0 0 rfl rfl rfl) fun a hf => ?_
   obtain ⟨y, hy, hR1⟩ := bind_some hR1
   refine n1 7 (by kernel_rfl) rfl rfl (op_call hf TF.cl63 rfl (by decide) (spec_l9Find_ok (S := fun _ => True) (Plan_mkv (x := q) (rep_true (α := List ByteArray) (H.get 4 rfl)) (rep_true (α := List Fiber) (H.get 3 rfl)) (rep_true (α := List Light) (H.get 2 rfl))) mk_int hy) fun v w a hp hf => ?_)
   obtain ⟨hb, hp⟩ := hp
   obtain rfl := VR_int hp
   have H := H.keep hb
   have hS := H.let [true, true] [false] [] [1] rfl rfl rfl rfl
   refine ⟨fun _ => hS, ?_⟩
   refine tp 8 rfl rfl hf (by kernel_rfl) (fun _ => hS) rfl fun a hf => ?_
   refine dn (by kernel_rfl) ?_
   have hf := hf.prune [2, 3, 5, 6, 26] rfl
   refine then_n (iteB hR1 (fun hc2 hR1 => cd_t hf rfl hc2 ?_) fun hc2 hR1 => cd_f hf rfl hc2 ?_)
   ·refine reg (pr 2 hf rfl rfl fun a hf => ?_)
    refine wl0 rfl (op_q hf (rq_loadB hf H TF.ls35 1 rfl rfl rfl) rfl (by decide) fun a hf => ?_)
    refine pr 1 hf rfl rfl fun a hf => ?_
    obtain ⟨e2, he2, hR1⟩ := bind_some hR1
    refine wl0 rfl (op_iaddr hf H Tryz.underlying35 TF.sz112 5 rfl rfl rfl he2 (by decide) fun p3 o2 cs2 a hf hr2 H => ?_)
    obtain ⟨A10, c9, rfl, hl8⟩ := Light_cells hr2
    have H := H.push (false, MP.val [(.slice A10 e2.Route.Fibers.length c9)] e2.Route.Fibers) hl8
    refine wl0 rfl (op_q hf (rq_loadIN hf H TF.la112 1 0 rfl rfl rfl rfl) rfl (by decide) fun a hf => ?_)
    obtain ⟨y2, hy2, hR1⟩ := bind_some hR1
    refine wl0 rfl (op_call hf TF.cl150 rfl (by decide) (spec_l9Copy_ok (S := fun _ => True) (Light_mkv (x := e2) (rep_true (α := List Int) (H.get 0 rfl))) hy2) fun v2 w a hp2 hf => ?_)
    obtain ⟨hb2, F, hp3, hN⟩ := hp2
    obtain ⟨A11, c10, F2, rfl, rfl, hl9⟩ := Light_vo hp3
    have H := H.addOwn hb2 (X := [(⟨F2, MP.own F2 [(.slice A11 y2.Route.Fibers.length c10)] (y2.Route.Fibers : List Int)⟩ : DI)]) (by simpa using hN.1) (ps1 hl9 ps0) (by simpa using hN.2)
    have H := H.lend 0 rfl
    refine wl0 rfl (op_q hf (rq_build hf (cs := [(.int .i64 2), (.int .i64 y2.Id), (.int .i64 y2.Route.Start), (.slice A11 y2.Route.Fibers.length c10), (.int .i64 y2.Block.First), (.int .i64 y2.Block.Count)]) rfl (fun w => by kernel_rfl)) rfl (by decide) fun a hf => ?_)
    have H := H.recast (X := [(⟨F2, MP.own F2 [(.slice A11 y2.Route.Fibers.length c10)] (y2.Route.Fibers : List Int)⟩ : DI)]) (Y := [(⟨F2, MP.own F2 [(.int .i64 2), (.int .i64 y2.Id), (.int .i64 y2.Route.Start), (.slice A11 y2.Route.Fibers.length c10), (.int .i64 y2.Block.First), (.int .i64 y2.Block.Count)] (({ Kind := 2, Light := y2 } : Action) : Action)⟩ : DI)]) (List.Perm.of_eq (by simp)) fun _ => ps1 (Action_ownmk (x := ({ Kind := 2, Light := y2 } : Action)) (H.ownAt 0 rfl)) ps0
    refine wl0 rfl (op_bsliceO hf 136 H rfl (fun w => by kernel_rfl) (by decide) fun A12 a w hf H => ?_)
    obtain ⟨l, hl, hR1⟩ := bind_some hR1
    have H := H.frontR 1 rfl
    refine wl0 rfl (op_appO hf H Tryz.underlying65 TF.ai136 rfl (by decide) rfl rfl hl (by decide) fun E2 A13 c11 a w hf H => ?_)
    refine pr 1 hf rfl rfl fun a hf => ?_
    refine wl_end (blk_n (then_n (reg (pr 3 hf rfl rfl fun a hf => ?_))))
    have hf := hf.prune [2, 3, 5, 6] rfl
    refine wl_end ?_
    have hf := hf.prune [2, 3, 5, 6] rfl
    have H := H.let [true, true] [true] [] [5, 6, 7, 8, 9, 10] rfl rfl rfl rfl
    exact then_n ⟨(l, w64 (i + 1)), hR1, A13, c11, E2, Fs ++ [F2], hf, H⟩
   ·refine wp_skip (blk_n (then_n (reg (pr 3 hf rfl rfl fun a hf => ?_))))
    refine wl_end ?_
    have hf := hf.prune [2, 3, 5, 6] rfl
    have H := H.let [true, true] [true] [] [2, 3, 4, 5, 6, 7] rfl rfl rfl rfl
    exact then_n ⟨(out', w64 (i + 1)), hR1, A8, c7, E, Fs, hf, H⟩
  ·refine wp_exit (then_x (then_x (blk_e (?_))))
   have hf := hf.prune [2, 3, 5, 6] rfl
   have H := H.let [true, true] [true] [] [0, 1, 2, 3, 4, 5] rfl rfl rfl rfl
   exact ⟨(out', i), (Option.some.inj hR1).symm, A8, c7, E, Fs, hf, H⟩
 rintro a w ⟨⟨out3, i2⟩, rfl, A14, c12, E3, Fs2, hf, H⟩
 try dsimp only at hF
 refine then_n (sq (sq (reg (pr 1 hf rfl rfl fun a hf => ?_))))
 refine wl_end (then_n ?_)
 obtain ⟨out5, hB1, hF⟩ := bind_some hF
 have hf := hf.prune [2, 3, 5, 7] rfl
 have H := H.let [true, true] [true] [] [0, 1, 2, 3, 4, 5] rfl rfl rfl rfl
 refine loopC (fun (s : List Action × Int) (a : Act) (w : World) => match s with | (out4, i3) => ∃ (A15 : Option Addr) (c13 : Nat) (E4 : Go.TypeId) (Fs3 : List (List Nat)), Fr a 105 [(2, (.pointer (some ⟨b', 0, none⟩))), (3, (.pointer (some ⟨b2, 0, none⟩))), (5, (.slice A15 out4.length c13)), (7, (.int .i64 i3))] ∧ Mem ⟨w0, []⟩ S [⟨b2, 37, [(.slice A4 q.Network.Nodes.length c4), (.slice A5 q.Network.Fibers.length c5), (.slice A6 q.Lights.length c6)]⟩, ⟨b', 37, [(.slice A p.Network.Nodes.length c), (.slice A2 p.Network.Fibers.length c2), (.slice A3 p.Lights.length c3)]⟩] [⟨.ow Fs3, E4, A15, c13, (out4 : List Action)⟩] [] [(false, MP.val [(.slice A6 q.Lights.length c6)] (q.Lights : List Light)), (false, MP.val [(.slice A5 q.Network.Fibers.length c5)] (q.Network.Fibers : List Fiber)), (false, MP.val [(.slice A4 q.Network.Nodes.length c4)] (q.Network.Nodes : List ByteArray)), (false, MP.val [(.slice A3 p.Lights.length c3)] (p.Lights : List Light)), (false, MP.val [(.slice A2 p.Network.Fibers.length c2)] (p.Network.Fibers : List Fiber)), (false, MP.val [(.slice A p.Network.Nodes.length c)] (p.Network.Nodes : List ByteArray))] w) (fun k (s : List Action × Int) => spec_l20Difference_L2 fu p q k s.1 s.2 = some out5) (fun s => out5 = s) (out3, 0) fu hB1 ⟨A14, c12, E3, Fs2, hf, H⟩ (fun s h => by cases h) ?_ ?_
 ·rintro fk ⟨out4, i3⟩ a w hR1 hI
  replace hR1 : spec_l20Difference_L2 fu p q (fk + 1) out4 i3 = some out5 := hR1
  rw [spec_l20Difference_L2] at hR1
  obtain ⟨A15, c13, E4, Fs3, hf, H⟩ := hI
  refine sq (sq (reg (pr 2 hf rfl rfl fun a hf => ?_)))
  refine wl0 rfl (op_q hf (rq_loadB hf H TF.ls35 0 rfl rfl rfl) rfl (by decide) fun a hf => ?_)
  refine pr 2 hf rfl rfl fun a hf => ?_
  refine wl_end (then_n (iteB hR1 (fun hc3 hR1 => cd_t hf rfl hc3 ?_) fun hc3 hR1 => cd_f hf rfl hc3 ?_))
  ·refine wp_skip (then_n (sq (wp_block (sq (drawn [] (bs := [false, false, false, false, false, false, false, false, false]) (fuel := 9) (Checked.mixed Tryz.checked) rfl rfl fun w hb => ?_)))))
   have H := H.keep hb
   refine strT (H.let [false, true] [false] [] [] rfl rfl rfl rfl) (fun w H => trivial) fun hS => ?_
   refine tS 0 [] rfl rfl rfl rfl hf (by kernel_rfl) (by kernel_rfl) hS (fun w H => rq_loadBN hf H TF.la37 0 rfl rfl rfl rfl) fun a hf => ?_
   refine tp 1 rfl rfl hf (by kernel_rfl) (fun _ => hS) rfl fun a hf => ?_
   refine strT (H.let [true, true] [false] [] [] rfl rfl rfl rfl) (fun w H => H.let [false, true] [] [] [] rfl rfl rfl rfl) fun hS => ?_
   refine tS 2 [] rfl rfl rfl rfl hf (by kernel_rfl) (by kernel_rfl) hS (fun w H => rq_loadB hf H TF.ls35 0 rfl rfl rfl) fun a hf => ?_
   refine tp 3 rfl rfl hf (by kernel_rfl) (fun _ => hS) rfl fun a hf => ?_
   obtain ⟨e3, he3, hR1⟩ := bind_some hR1
   obtain ⟨p4, o3, cs3, hx2, hr3, H⟩ := pre_iaddr H Tryz.underlying35 TF.sz112 0 rfl he3
   refine tP 4 rfl rfl rfl rfl hf (by kernel_rfl) (fun _ => hS) (fun w => rq_iaddrE hf rfl rfl rfl hx2 w) fun a hf => ?_
   obtain ⟨A16, c14, rfl, hl10⟩ := Light_cells hr3
   have H := H.push (false, MP.val [(.slice A16 e3.Route.Fibers.length c14)] e3.Route.Fibers) hl10
   refine tp 5 rfl rfl hf (by kernel_rfl) (fun _ => hS) rfl fun a hf => ?_
   refine strT (H.let [true, true] [false] [] [1] rfl rfl rfl rfl) (fun w H => H.let [true, true] [] [] [] rfl rfl rfl rfl) fun hS => ?_
   refine tS 6 [] rfl rfl rfl rfl hf (by kernel_rfl) (by kernel_rfl) hS (fun w H => rq_loadI hf H TF.ls3 0 0 rfl rfl rfl) fun a hf => ?_
   obtain ⟨y3, hy3, hR1⟩ := bind_some hR1
   refine n1 7 (by kernel_rfl) rfl rfl (op_call hf TF.cl63 rfl (by decide) (spec_l9Find_ok (S := fun _ => True) (Plan_mkv (x := p) (rep_true (α := List ByteArray) (H.get 7 rfl)) (rep_true (α := List Fiber) (H.get 6 rfl)) (rep_true (α := List Light) (H.get 5 rfl))) mk_int hy3) fun v3 w a hp4 hf => ?_)
   obtain ⟨hb3, hp4⟩ := hp4
   obtain rfl := VR_int hp4
   have H := H.keep hb3
   have hS := H.let [true, true] [false] [] [1] rfl rfl rfl rfl
   refine ⟨fun _ => hS, ?_⟩
   refine tp 8 rfl rfl hf (by kernel_rfl) (fun _ => hS) rfl fun a hf => ?_
   refine dn (by kernel_rfl) ?_
   have hf := hf.prune [2, 3, 5, 7, 8] rfl
   refine then_n (sq ?_)
   obtain ⟨c15, hGc15, hR1⟩ := bind_some hR1
   have fh := hf.prune [2, 3, 5, 7] rfl
   have Hm := H.let [true, true] [true] [] [2, 3, 4, 5, 6, 7] rfl rfl rfl rfl
   refine midF 67 (.bool c15) fh Hm ?_ fun a w hf H => ?_
   ·refine drawn [] (bs := [false, false, false, false, false, false, false, false, false, false, false, false, false, false, false, false]) (fuel := 16) (Checked.mixed Tryz.checked) rfl rfl fun w hb => ?_
    have H := H.keep hb
    refine tp 0 rfl rfl hf (by kernel_rfl) (fun _ => trivial) rfl fun a hf => ?_
    refine tp 1 rfl rfl hf (by kernel_rfl) (fun _ => trivial) rfl fun a hf => ?_
    refine tp 2 rfl rfl hf (by kernel_rfl) (fun _ => trivial) rfl fun a hf => ?_
    refine iteB hGc15 (fun hc4 hGc15 => ?_) fun hc4 hGc15 => ?_
    ·have hf := hf.lit 54 rfl hc4
     refine tpg 3 rfl rfl rfl rfl hf (by kernel_rfl) (fun _ => trivial) rfl fun a hf => ?_
     refine strT (H.let [false, true] [false] [] [] rfl rfl rfl rfl) (fun w H => trivial) fun hS => ?_
     refine tSg 4 [] rfl rfl rfl rfl rfl rfl hf (by kernel_rfl) (by kernel_rfl) hS (fun w H => rq_loadB hf H TF.ls35 0 rfl rfl rfl) fun a hf => ?_
     refine tpg 5 rfl rfl rfl rfl hf (by kernel_rfl) (fun _ => hS) rfl fun a hf => ?_
     obtain ⟨e4, he4, hGc15⟩ := bind_some hGc15
     obtain ⟨p5, o4, cs4, hx3, hr4, H⟩ := pre_iaddr H Tryz.underlying35 TF.sz112 5 rfl he4
     refine tPg 6 rfl rfl rfl rfl rfl rfl hf (by kernel_rfl) (fun _ => hS) (fun w => rq_iaddrE hf rfl rfl rfl hx3 w) fun a hf => ?_
     obtain ⟨A17, c16, rfl, hl11⟩ := Light_cells hr4
     have H := H.push (false, MP.val [(.slice A17 e4.Route.Fibers.length c16)] e4.Route.Fibers) hl11
     refine strT (H.let [false, true] [false] [] [1] rfl rfl rfl rfl) (fun w H => H.let [true] [] [] [] rfl rfl rfl rfl) fun hS => ?_
     refine tSg 7 [] rfl rfl rfl rfl rfl rfl hf (by kernel_rfl) (by kernel_rfl) hS (fun w H => rq_loadIN hf H TF.la112 0 0 rfl rfl rfl rfl) fun a hf => ?_
     refine tpg 8 rfl rfl rfl rfl hf (by kernel_rfl) (fun _ => hS) rfl fun a hf => ?_
     refine strT (H.let [true, true] [false] [] [1] rfl rfl rfl rfl) (fun w H => H.let [false, true] [] [] [0] rfl rfl rfl rfl) fun hS => ?_
     refine tSg 9 [] rfl rfl rfl rfl rfl rfl hf (by kernel_rfl) (by kernel_rfl) hS (fun w H => rq_loadB hf H TF.ls35 0 rfl rfl rfl) fun a hf => ?_
     refine tpg 10 rfl rfl rfl rfl hf (by kernel_rfl) (fun _ => hS) rfl fun a hf => ?_
     obtain ⟨e5, he5, hGc15⟩ := bind_some hGc15
     obtain ⟨p6, o5, cs5, hx4, hr5, H⟩ := pre_iaddr H Tryz.underlying35 TF.sz112 4 rfl he5
     refine tPg 11 rfl rfl rfl rfl rfl rfl hf (by kernel_rfl) (fun _ => hS) (fun w => rq_iaddrE hf rfl rfl rfl hx4 w) fun a hf => ?_
     obtain ⟨A18, c17, rfl, hl12⟩ := Light_cells hr5
     have H := H.push (false, MP.val [(.slice A18 e5.Route.Fibers.length c17)] e5.Route.Fibers) hl12
     refine strT (H.let [true, true] [false] [] [1, 3] rfl rfl rfl rfl) (fun w H => H.let [true, true] [] [] [1] rfl rfl rfl rfl) fun hS => ?_
     refine tSg 12 [] rfl rfl rfl rfl rfl rfl hf (by kernel_rfl) (by kernel_rfl) hS (fun w H => rq_loadIN hf H TF.la112 0 0 rfl rfl rfl rfl) fun a hf => ?_
     obtain ⟨y4, hy4, hGc15⟩ := bind_some hGc15
     refine n1g 13 (by kernel_rfl) rfl rfl rfl rfl hf (op_call hf TF.cl164 rfl (by decide) (spec_l20Same_ok (S := fun _ => True) (Light_mkv (x := e4) (rep_true (α := List Int) (H.get 2 rfl))) (Light_mkv (x := e5) (rep_true (α := List Int) (H.get 0 rfl))) hy4) fun v4 w a hp5 hf => ?_)
     obtain ⟨hb4, hp5⟩ := hp5
     obtain rfl := VR_bool hp5
     have H := H.keep hb4
     have hS := H.let [true, true] [false] [] [1, 3] rfl rfl rfl rfl
     refine ⟨fun _ => hS, ?_⟩
     refine tpg 14 rfl rfl rfl rfl hf (by kernel_rfl) (fun _ => hS) rfl fun a hf => ?_
     refine tp 15 rfl rfl hf (by kernel_rfl) (fun _ => hS) rfl fun a hf => ?_
     refine dn (by kernel_rfl) ?_
     obtain rfl := Option.some.inj hGc15
     have hf := hf.prune [67, 2, 3, 5, 7] rfl
     have H := H.let [true, true] [true] [] [6, 7, 8, 9, 10, 11] rfl rfl rfl rfl
     exact ⟨hf, H⟩
    ·have hf := hf.lit 54 rfl hc4
     refine tU 3 rfl rfl rfl rfl rfl rfl rfl hf (by kernel_rfl) (fun _ => trivial) fun a hf => ?_
     refine tU 4 rfl rfl rfl rfl rfl rfl rfl hf (by kernel_rfl) (fun _ => trivial) fun a hf => ?_
     refine tU 5 rfl rfl rfl rfl rfl rfl rfl hf (by kernel_rfl) (fun _ => trivial) fun a hf => ?_
     refine tU 6 rfl rfl rfl rfl rfl rfl rfl hf (by kernel_rfl) (fun _ => trivial) fun a hf => ?_
     refine tU 7 rfl rfl rfl rfl rfl rfl rfl hf (by kernel_rfl) (fun _ => trivial) fun a hf => ?_
     refine tU 8 rfl rfl rfl rfl rfl rfl rfl hf (by kernel_rfl) (fun _ => trivial) fun a hf => ?_
     refine tU 9 rfl rfl rfl rfl rfl rfl rfl hf (by kernel_rfl) (fun _ => trivial) fun a hf => ?_
     refine tU 10 rfl rfl rfl rfl rfl rfl rfl hf (by kernel_rfl) (fun _ => trivial) fun a hf => ?_
     refine tU 11 rfl rfl rfl rfl rfl rfl rfl hf (by kernel_rfl) (fun _ => trivial) fun a hf => ?_
     refine tU 12 rfl rfl rfl rfl rfl rfl rfl hf (by kernel_rfl) (fun _ => trivial) fun a hf => ?_
     refine tU 13 rfl rfl rfl rfl rfl rfl rfl hf (by kernel_rfl) (fun _ => trivial) fun a hf => ?_
     refine tU 14 rfl rfl rfl rfl rfl rfl rfl hf (by kernel_rfl) (fun _ => trivial) fun a hf => ?_
     refine tp 15 rfl rfl hf (by kernel_rfl) (fun _ => trivial) rfl fun a hf => ?_
     refine dn (by kernel_rfl) ?_
     obtain rfl := Option.some.inj hGc15
     have hf := hf.prune [67, 2, 3, 5, 7] rfl
     have H := H.let [true, true] [true] [] [2, 3, 4, 5, 6, 7] rfl rfl rfl rfl
     exact ⟨hf, H⟩
   refine then_n (iteB hR1 (fun hc5 hR1 => cd_t hf rfl hc5 ?_) fun hc5 hR1 => cd_f hf rfl hc5 ?_)
   ·refine reg (pr 2 hf rfl rfl fun a hf => ?_)
    refine wl0 rfl (op_q hf (rq_loadB hf H TF.ls35 0 rfl rfl rfl) rfl (by decide) fun a hf => ?_)
    refine pr 1 hf rfl rfl fun a hf => ?_
    obtain ⟨e6, he6, hR1⟩ := bind_some hR1
    refine wl0 rfl (op_iaddr hf H Tryz.underlying35 TF.sz112 0 rfl rfl rfl he6 (by decide) fun p7 o6 cs6 a hf hr6 H => ?_)
    obtain ⟨A19, c18, rfl, hl13⟩ := Light_cells hr6
    have H := H.push (false, MP.val [(.slice A19 e6.Route.Fibers.length c18)] e6.Route.Fibers) hl13
    refine wl0 rfl (op_q hf (rq_loadIN hf H TF.la112 1 0 rfl rfl rfl rfl) rfl (by decide) fun a hf => ?_)
    obtain ⟨y5, hy5, hR1⟩ := bind_some hR1
    refine wl0 rfl (op_call hf TF.cl150 rfl (by decide) (spec_l9Copy_ok (S := fun _ => True) (Light_mkv (x := e6) (rep_true (α := List Int) (H.get 0 rfl))) hy5) fun v5 w a hp6 hf => ?_)
    obtain ⟨hb5, F3, hp7, hN2⟩ := hp6
    obtain ⟨A20, c19, F4, rfl, rfl, hl14⟩ := Light_vo hp7
    have H := H.addOwn hb5 (X := [(⟨F4, MP.own F4 [(.slice A20 y5.Route.Fibers.length c19)] (y5.Route.Fibers : List Int)⟩ : DI)]) (by simpa using hN2.1) (ps1 hl14 ps0) (by simpa using hN2.2)
    have H := H.lend 0 rfl
    refine wl0 rfl (op_q hf (rq_build hf (cs := [(.int .i64 3), (.int .i64 y5.Id), (.int .i64 y5.Route.Start), (.slice A20 y5.Route.Fibers.length c19), (.int .i64 y5.Block.First), (.int .i64 y5.Block.Count)]) rfl (fun w => by kernel_rfl)) rfl (by decide) fun a hf => ?_)
    have H := H.recast (X := [(⟨F4, MP.own F4 [(.slice A20 y5.Route.Fibers.length c19)] (y5.Route.Fibers : List Int)⟩ : DI)]) (Y := [(⟨F4, MP.own F4 [(.int .i64 3), (.int .i64 y5.Id), (.int .i64 y5.Route.Start), (.slice A20 y5.Route.Fibers.length c19), (.int .i64 y5.Block.First), (.int .i64 y5.Block.Count)] (({ Kind := 3, Light := y5 } : Action) : Action)⟩ : DI)]) (List.Perm.of_eq (by simp)) fun _ => ps1 (Action_ownmk (x := ({ Kind := 3, Light := y5 } : Action)) (H.ownAt 0 rfl)) ps0
    refine wl0 rfl (op_bsliceO hf 136 H rfl (fun w => by kernel_rfl) (by decide) fun A21 a w hf H => ?_)
    obtain ⟨l2, hl2, hR1⟩ := bind_some hR1
    have H := H.frontR 1 rfl
    refine wl0 rfl (op_appO hf H Tryz.underlying65 TF.ai136 rfl (by decide) rfl rfl hl2 (by decide) fun E5 A22 c20 a w hf H => ?_)
    refine pr 1 hf rfl rfl fun a hf => ?_
    refine wl_end (blk_n (then_n (reg (pr 3 hf rfl rfl fun a hf => ?_))))
    have hf := hf.prune [2, 3, 5, 7] rfl
    refine wl_end ?_
    have hf := hf.prune [2, 3, 5, 7] rfl
    have H := H.let [true, true] [true] [] [3, 4, 5, 6, 7, 8] rfl rfl rfl rfl
    exact then_n ⟨(l2, w64 (i3 + 1)), hR1, A22, c20, E5, Fs3 ++ [F4], hf, H⟩
   ·refine wp_skip (blk_n (then_n (reg (pr 3 hf rfl rfl fun a hf => ?_))))
    refine wl_end ?_
    have hf := hf.prune [2, 3, 5, 7] rfl
    have H := H.let [true, true] [true] [] [0, 1, 2, 3, 4, 5] rfl rfl rfl rfl
    exact then_n ⟨(out4, w64 (i3 + 1)), hR1, A15, c13, E4, Fs3, hf, H⟩
  ·refine wp_exit (then_x (then_x (blk_e (?_))))
   have hf := hf.prune [2, 3, 5, 7] rfl
   have H := H.let [true, true] [true] [] [0, 1, 2, 3, 4, 5] rfl rfl rfl rfl
   exact ⟨(out4, i3), (Option.some.inj hR1).symm, A15, c13, E4, Fs3, hf, H⟩
 rintro a w ⟨⟨out6, i4⟩, rfl, A23, c21, E6, Fs4, hf, H⟩
 try dsimp only at hF
 refine then_n (sq (sq (reg (pr 1 hf rfl rfl fun a hf => ?_))))
 refine wl_end (then_n ?_)
 obtain ⟨out8, hB1, hF⟩ := bind_some hF
 have hf := hf.prune [2, 3, 5, 9] rfl
 have H := H.let [true, true] [true] [] [0, 1, 2, 3, 4, 5] rfl rfl rfl rfl
 refine loopC (fun (s : List Action × Int) (a : Act) (w : World) => match s with | (out7, i5) => ∃ (A24 : Option Addr) (c22 : Nat) (E7 : Go.TypeId) (Fs5 : List (List Nat)), Fr a 105 [(2, (.pointer (some ⟨b', 0, none⟩))), (3, (.pointer (some ⟨b2, 0, none⟩))), (5, (.slice A24 out7.length c22)), (9, (.int .i64 i5))] ∧ Mem ⟨w0, []⟩ S [⟨b2, 37, [(.slice A4 q.Network.Nodes.length c4), (.slice A5 q.Network.Fibers.length c5), (.slice A6 q.Lights.length c6)]⟩, ⟨b', 37, [(.slice A p.Network.Nodes.length c), (.slice A2 p.Network.Fibers.length c2), (.slice A3 p.Lights.length c3)]⟩] [⟨.ow Fs5, E7, A24, c22, (out7 : List Action)⟩] [] [(false, MP.val [(.slice A6 q.Lights.length c6)] (q.Lights : List Light)), (false, MP.val [(.slice A5 q.Network.Fibers.length c5)] (q.Network.Fibers : List Fiber)), (false, MP.val [(.slice A4 q.Network.Nodes.length c4)] (q.Network.Nodes : List ByteArray)), (false, MP.val [(.slice A3 p.Lights.length c3)] (p.Lights : List Light)), (false, MP.val [(.slice A2 p.Network.Fibers.length c2)] (p.Network.Fibers : List Fiber)), (false, MP.val [(.slice A p.Network.Nodes.length c)] (p.Network.Nodes : List ByteArray))] w) (fun k (s : List Action × Int) => spec_l20Difference_L3 fu p q k s.1 s.2 = some out8) (fun s => out8 = s) (out6, 0) fu hB1 ⟨A23, c21, E6, Fs4, hf, H⟩ (fun s h => by cases h) ?_ ?_
 ·rintro fk ⟨out7, i5⟩ a w hR1 hI
  replace hR1 : spec_l20Difference_L3 fu p q (fk + 1) out7 i5 = some out8 := hR1
  rw [spec_l20Difference_L3] at hR1
  obtain ⟨A24, c22, E7, Fs5, hf, H⟩ := hI
  refine sq (sq (reg (pr 2 hf rfl rfl fun a hf => ?_)))
  refine wl0 rfl (op_q hf (rq_loadB hf H TF.ls35 0 rfl rfl rfl) rfl (by decide) fun a hf => ?_)
  refine pr 2 hf rfl rfl fun a hf => ?_
  refine wl_end (then_n (iteB hR1 (fun hc6 hR1 => cd_t hf rfl hc6 ?_) fun hc6 hR1 => cd_f hf rfl hc6 ?_))
  ·refine wp_skip (then_n (sq (wp_block (sq (drawn [] (bs := [false, false, false, false, false, false, false, false, false]) (fuel := 9) (Checked.mixed Tryz.checked) rfl rfl fun w hb => ?_)))))
   have H := H.keep hb
   refine strT (H.let [false, true] [false] [] [] rfl rfl rfl rfl) (fun w H => trivial) fun hS => ?_
   refine tS 0 [] rfl rfl rfl rfl hf (by kernel_rfl) (by kernel_rfl) hS (fun w H => rq_loadBN hf H TF.la37 0 rfl rfl rfl rfl) fun a hf => ?_
   refine tp 1 rfl rfl hf (by kernel_rfl) (fun _ => hS) rfl fun a hf => ?_
   refine strT (H.let [true, true] [false] [] [] rfl rfl rfl rfl) (fun w H => H.let [false, true] [] [] [] rfl rfl rfl rfl) fun hS => ?_
   refine tS 2 [] rfl rfl rfl rfl hf (by kernel_rfl) (by kernel_rfl) hS (fun w H => rq_loadB hf H TF.ls35 0 rfl rfl rfl) fun a hf => ?_
   refine tp 3 rfl rfl hf (by kernel_rfl) (fun _ => hS) rfl fun a hf => ?_
   obtain ⟨e7, he7, hR1⟩ := bind_some hR1
   obtain ⟨p8, o7, cs7, hx5, hr7, H⟩ := pre_iaddr H Tryz.underlying35 TF.sz112 0 rfl he7
   refine tP 4 rfl rfl rfl rfl hf (by kernel_rfl) (fun _ => hS) (fun w => rq_iaddrE hf rfl rfl rfl hx5 w) fun a hf => ?_
   obtain ⟨A25, c23, rfl, hl15⟩ := Light_cells hr7
   have H := H.push (false, MP.val [(.slice A25 e7.Route.Fibers.length c23)] e7.Route.Fibers) hl15
   refine tp 5 rfl rfl hf (by kernel_rfl) (fun _ => hS) rfl fun a hf => ?_
   refine strT (H.let [true, true] [false] [] [1] rfl rfl rfl rfl) (fun w H => H.let [true, true] [] [] [] rfl rfl rfl rfl) fun hS => ?_
   refine tS 6 [] rfl rfl rfl rfl hf (by kernel_rfl) (by kernel_rfl) hS (fun w H => rq_loadI hf H TF.ls3 0 0 rfl rfl rfl) fun a hf => ?_
   obtain ⟨y6, hy6, hR1⟩ := bind_some hR1
   refine n1 7 (by kernel_rfl) rfl rfl (op_call hf TF.cl63 rfl (by decide) (spec_l9Find_ok (S := fun _ => True) (Plan_mkv (x := p) (rep_true (α := List ByteArray) (H.get 7 rfl)) (rep_true (α := List Fiber) (H.get 6 rfl)) (rep_true (α := List Light) (H.get 5 rfl))) mk_int hy6) fun v6 w a hp8 hf => ?_)
   obtain ⟨hb6, hp8⟩ := hp8
   obtain rfl := VR_int hp8
   have H := H.keep hb6
   have hS := H.let [true, true] [false] [] [1] rfl rfl rfl rfl
   refine ⟨fun _ => hS, ?_⟩
   refine tp 8 rfl rfl hf (by kernel_rfl) (fun _ => hS) rfl fun a hf => ?_
   refine dn (by kernel_rfl) ?_
   have hf := hf.prune [2, 3, 5, 9, 93] rfl
   refine then_n (iteB hR1 (fun hc7 hR1 => cd_t hf rfl hc7 ?_) fun hc7 hR1 => cd_f hf rfl hc7 ?_)
   ·refine reg (pr 2 hf rfl rfl fun a hf => ?_)
    refine wl0 rfl (op_q hf (rq_loadB hf H TF.ls35 0 rfl rfl rfl) rfl (by decide) fun a hf => ?_)
    refine pr 1 hf rfl rfl fun a hf => ?_
    obtain ⟨e8, he8, hR1⟩ := bind_some hR1
    refine wl0 rfl (op_iaddr hf H Tryz.underlying35 TF.sz112 2 rfl rfl rfl he8 (by decide) fun p9 o8 cs8 a hf hr8 H => ?_)
    obtain ⟨A26, c24, rfl, hl16⟩ := Light_cells hr8
    have H := H.push (false, MP.val [(.slice A26 e8.Route.Fibers.length c24)] e8.Route.Fibers) hl16
    refine wl0 rfl (op_q hf (rq_loadIN hf H TF.la112 1 0 rfl rfl rfl rfl) rfl (by decide) fun a hf => ?_)
    obtain ⟨y7, hy7, hR1⟩ := bind_some hR1
    refine wl0 rfl (op_call hf TF.cl150 rfl (by decide) (spec_l9Copy_ok (S := fun _ => True) (Light_mkv (x := e8) (rep_true (α := List Int) (H.get 0 rfl))) hy7) fun v7 w a hp9 hf => ?_)
    obtain ⟨hb7, F5, hp10, hN3⟩ := hp9
    obtain ⟨A27, c25, F6, rfl, rfl, hl17⟩ := Light_vo hp10
    have H := H.addOwn hb7 (X := [(⟨F6, MP.own F6 [(.slice A27 y7.Route.Fibers.length c25)] (y7.Route.Fibers : List Int)⟩ : DI)]) (by simpa using hN3.1) (ps1 hl17 ps0) (by simpa using hN3.2)
    have H := H.lend 0 rfl
    refine wl0 rfl (op_q hf (rq_build hf (cs := [(.int .i64 1), (.int .i64 y7.Id), (.int .i64 y7.Route.Start), (.slice A27 y7.Route.Fibers.length c25), (.int .i64 y7.Block.First), (.int .i64 y7.Block.Count)]) rfl (fun w => by kernel_rfl)) rfl (by decide) fun a hf => ?_)
    have H := H.recast (X := [(⟨F6, MP.own F6 [(.slice A27 y7.Route.Fibers.length c25)] (y7.Route.Fibers : List Int)⟩ : DI)]) (Y := [(⟨F6, MP.own F6 [(.int .i64 1), (.int .i64 y7.Id), (.int .i64 y7.Route.Start), (.slice A27 y7.Route.Fibers.length c25), (.int .i64 y7.Block.First), (.int .i64 y7.Block.Count)] (({ Kind := 1, Light := y7 } : Action) : Action)⟩ : DI)]) (List.Perm.of_eq (by simp)) fun _ => ps1 (Action_ownmk (x := ({ Kind := 1, Light := y7 } : Action)) (H.ownAt 0 rfl)) ps0
    refine wl0 rfl (op_bsliceO hf 136 H rfl (fun w => by kernel_rfl) (by decide) fun A28 a w hf H => ?_)
    obtain ⟨l3, hl3, hR1⟩ := bind_some hR1
    have H := H.frontR 1 rfl
    refine wl0 rfl (op_appO hf H Tryz.underlying65 TF.ai136 rfl (by decide) rfl rfl hl3 (by decide) fun E8 A29 c26 a w hf H => ?_)
    refine pr 1 hf rfl rfl fun a hf => ?_
    refine wl_end (blk_n (then_n (reg (pr 3 hf rfl rfl fun a hf => ?_))))
    have hf := hf.prune [2, 3, 5, 9] rfl
    refine wl_end ?_
    have hf := hf.prune [2, 3, 5, 9] rfl
    have H := H.let [true, true] [true] [] [5, 6, 7, 8, 9, 10] rfl rfl rfl rfl
    exact then_n ⟨(l3, w64 (i5 + 1)), hR1, A29, c26, E8, Fs5 ++ [F6], hf, H⟩
   ·refine wp_skip (blk_n (then_n (reg (pr 3 hf rfl rfl fun a hf => ?_))))
    refine wl_end ?_
    have hf := hf.prune [2, 3, 5, 9] rfl
    have H := H.let [true, true] [true] [] [2, 3, 4, 5, 6, 7] rfl rfl rfl rfl
    exact then_n ⟨(out7, w64 (i5 + 1)), hR1, A24, c22, E7, Fs5, hf, H⟩
  ·refine wp_exit (then_x (then_x (blk_e (?_))))
   have hf := hf.prune [2, 3, 5, 9] rfl
   have H := H.let [true, true] [true] [] [0, 1, 2, 3, 4, 5] rfl rfl rfl rfl
   exact ⟨(out7, i5), (Option.some.inj hR1).symm, A24, c22, E7, Fs5, hf, H⟩
 rintro a w ⟨⟨out9, i6⟩, rfl, A30, c27, E9, Fs6, hf, H⟩
 try dsimp only at hF
 refine then_n (sq (reg (pr 2 hf rfl rfl fun a hf => ?_)))
 refine wl_end (then_n (wp_ret (?_)))
 obtain ⟨F7, H⟩ := H.freezeOwn 0 rfl
 have H := H.lend 0 rfl
 obtain rfl := Option.some.inj hF
 refine ret_1 (fn := Tryz.f100) (r := .tmp 4) hf rfl (rv_tmp hf rfl) ?_
 have hN := H.ends (X := [(⟨F7, MP.own F7 [(.slice A30 out9.length c27)] (out9 : List Action)⟩ : DI)])
 simp only [List.flatMap_cons, List.flatMap_nil, List.append_nil, List.append_assoc] at hN
 exact ⟨_, rfl, H.bel, F7, (mko_list (H.ownAt 0 rfl)), by first | exact hN | simpa using hN⟩

/- loop.example/g00897/spec.PlanDifference -/
set_option maxHeartbeats 1000000 in
theorem spec_PlanDifference_ok {fu : Nat} {w0 : World} {S : Nat → Prop} {v0_ : Value} {v1_ : Value} {p : Plan} {q : Plan} {r : List Action × Bool} (h0 : VR w0 S v0_ p) (h1 : VR w0 S v1_ q) (hF : spec_PlanDifference fu p q = some r) :
    Calls Tryz.prog 42 [v0_, v1_].toArray w0 fun e w' => ∃ v, e = .returned v ∧ (Below w0.heap.size w0 w' ∧ ∃ F0, ∃ u0 u1, v = .tuple #[u0, u1] ∧ VO w' F0 u0 r.1 ∧ VR w' (St ⟨w0, []⟩ S [] [] [] true) u1 r.2 ∧ New w0 w' F0) := by
 obtain ⟨A, c, A2, c2, A3, c3, rfl, hl, hl2, hl3⟩ := Plan_open h0
 obtain ⟨A4, c4, A5, c5, A6, c6, rfl, hl4, hl5, hl6⟩ := Plan_open h1
 have H := Mem.start ⟨w0, []⟩ S
 have H := H.pushArg (MP.val [(.slice A p.Network.Nodes.length c)] p.Network.Nodes) hl
 have H := H.pushArg (MP.val [(.slice A2 p.Network.Fibers.length c2)] p.Network.Fibers) hl2
 have H := H.pushArg (MP.val [(.slice A3 p.Lights.length c3)] p.Lights) hl3
 have H := H.pushArg (MP.val [(.slice A4 q.Network.Nodes.length c4)] q.Network.Nodes) hl4
 have H := H.pushArg (MP.val [(.slice A5 q.Network.Fibers.length c5)] q.Network.Fibers) hl5
 have H := H.pushArg (MP.val [(.slice A6 q.Lights.length c6)] q.Lights) hl6
 refine enter Tryz.func42 rfl rfl (nle rfl) rfl fun a hf => ?_
 rw [spec_PlanDifference] at hF
 refine sq (reg (wl0 rfl (op_box hf H rfl rfl (by decide) fun b' a w hf H => ?_)))
 refine wl0 rfl (op_box hf H rfl rfl (by decide) fun b2 a w hf H => ?_)
 refine pr 2 hf rfl rfl fun a hf => ?_
 refine wl_end (then_n (sq (sq ?_)))
 obtain ⟨c7, hGc7, hF⟩ := bind_some hF
 have fh := hf.prune [2, 3] rfl
 have Hm := H.let [true, true] [] [] [0, 1, 2, 3, 4, 5] rfl rfl rfl rfl
 refine midF 20 (.bool c7) fh Hm ?_ fun a w hf H => ?_
 ·refine reg (wl0 rfl (op_q hf (rq_loadBN hf H TF.la37 1 rfl rfl rfl rfl) rfl (by decide) fun a hf => ?_))
  obtain ⟨y, hy, hGc7⟩ := bind_some hGc7
  refine wl0 rfl (op_call hf TF.cl62 rfl (by decide) (spec_l9Good_ok (S := fun _ => True) (Plan_mkv (x := p) (rep_true (α := List ByteArray) (H.get 5 rfl)) (rep_true (α := List Fiber) (H.get 4 rfl)) (rep_true (α := List Light) (H.get 3 rfl))) hy) fun v w a hp hf => ?_)
  obtain ⟨hb, hp⟩ := hp
  obtain rfl := VR_bool hp
  have H := H.keep hb
  refine pr 2 hf rfl rfl fun a hf => ?_
  refine iteB hGc7 (fun hc hGc7 => ?_) fun hc hGc7 => ?_
  ·have hf := hf.lit 10 rfl hc
   refine pr 10 hf rfl rfl fun a hf => ?_
   obtain rfl := Option.some.inj hGc7
   have hf := hf.prune [20, 2, 3] rfl
   have H := H.let [true, true] [] [] [0, 1, 2, 3, 4, 5] rfl rfl rfl rfl
   exact wl_end ⟨hf, H⟩
  ·have hf := hf.lit 10 rfl hc
   refine wlg hf rfl rfl rfl (op_q hf (rq_loadBN hf H TF.la37 0 rfl rfl rfl rfl) rfl (by decide) fun a hf => ?_)
   obtain ⟨y2, hy2, hGc7⟩ := bind_some hGc7
   refine wlg hf rfl rfl rfl (op_call hf TF.cl62 rfl (by decide) (spec_l9Good_ok (S := fun _ => True) (Plan_mkv (x := q) (rep_true (α := List ByteArray) (H.get 2 rfl)) (rep_true (α := List Fiber) (H.get 1 rfl)) (rep_true (α := List Light) (H.get 0 rfl))) hy2) fun v2 w a hp2 hf => ?_)
   obtain ⟨hb2, hp2⟩ := hp2
   obtain rfl := VR_bool hp2
   have H := H.keep hb2
   refine pr 3 hf rfl rfl fun a hf => ?_
   refine iteB hGc7 (fun hc2 hGc7 => ?_) fun hc2 hGc7 => ?_
   ·have hf := hf.lit 15 rfl hc2
    refine pr 5 hf rfl rfl fun a hf => ?_
    obtain rfl := Option.some.inj hGc7
    have hf := hf.prune [20, 2, 3] rfl
    have H := H.let [true, true] [] [] [0, 1, 2, 3, 4, 5] rfl rfl rfl rfl
    exact wl_end ⟨hf, H⟩
   ·have hf := hf.lit 15 rfl hc2
    refine wlg hf rfl rfl rfl (op_q hf (rq_loadBN hf H TF.la37 1 rfl rfl rfl rfl) rfl (by decide) fun a hf => ?_)
    refine wlg hf rfl rfl rfl (op_q hf (rq_loadBN hf H TF.la37 0 rfl rfl rfl rfl) rfl (by decide) fun a hf => ?_)
    obtain ⟨y3, hy3, hGc7⟩ := bind_some hGc7
    refine wlg hf rfl rfl rfl (op_call hf TF.cl99 rfl (by decide) (spec_l20Networks_ok (S := fun _ => True) (Plan_mkv (x := p) (rep_true (α := List ByteArray) (H.get 5 rfl)) (rep_true (α := List Fiber) (H.get 4 rfl)) (rep_true (α := List Light) (H.get 3 rfl))) (Plan_mkv (x := q) (rep_true (α := List ByteArray) (H.get 2 rfl)) (rep_true (α := List Fiber) (H.get 1 rfl)) (rep_true (α := List Light) (H.get 0 rfl))) hy3) fun v3 w a hp3 hf => ?_)
    obtain ⟨hb3, hp3⟩ := hp3
    obtain rfl := VR_bool hp3
    have H := H.keep hb3
    refine pr 2 hf rfl rfl fun a hf => ?_
    obtain rfl := Option.some.inj hGc7
    have hf := hf.prune [20, 2, 3] rfl
    have H := H.let [true, true] [] [] [0, 1, 2, 3, 4, 5] rfl rfl rfl rfl
    exact wl_end ⟨hf, H⟩
 refine then_n (iteB hF (fun hc3 hF => cd_t hf rfl hc3 ?_) fun hc3 hF => cd_f hf rfl hc3 ?_)
 ·refine sq (reg (wl0 rfl (op_bslice hf H (.ow []) rfl 136 ([] : List Action) [] rfl (fun w => by kernel_rfl) rfl (by decide) rfl rfl (fun i x h => by simp at h) (by decide) fun A7 a w hf H => ?_)))
  refine pr 2 hf rfl rfl fun a hf => ?_
  refine wl_end (then_n (wp_ret (then_r (?_))))
  obtain ⟨F, H⟩ := H.freezeOwn 0 rfl
  have H := H.lend 0 rfl
  obtain rfl := Option.some.inj hF
  refine ret_2 (fn := Tryz.f42) (r := .tmp 4) (s := .tmp 5) hf rfl (rv_tmp hf rfl) (rv_tmp hf rfl) ?_
  have hN := H.ends (X := [(⟨F, MP.own F [(.slice A7 0 0)] (([] : List Action) : List Action)⟩ : DI)])
  simp only [List.flatMap_cons, List.flatMap_nil, List.append_nil, List.append_assoc] at hN
  exact ⟨_, rfl, H.bel, F, _, _, rfl, (mko_list (H.ownAt 0 rfl)), mk_bool, by first | exact hN | simpa using hN⟩
 ·refine wp_skip (then_n (sq (reg (wl0 rfl (op_q hf (rq_loadBN hf H TF.la37 1 rfl rfl rfl rfl) rfl (by decide) fun a hf => ?_)))))
  refine wl0 rfl (op_q hf (rq_loadBN hf H TF.la37 0 rfl rfl rfl rfl) rfl (by decide) fun a hf => ?_)
  obtain ⟨y4, hy4, hF⟩ := bind_some hF
  refine wl0 rfl (op_call hf TF.cl100 rfl (by decide) (spec_l20Difference_ok (S := fun _ => True) (Plan_mkv (x := p) (rep_true (α := List ByteArray) (H.get 5 rfl)) (rep_true (α := List Fiber) (H.get 4 rfl)) (rep_true (α := List Light) (H.get 3 rfl))) (Plan_mkv (x := q) (rep_true (α := List ByteArray) (H.get 2 rfl)) (rep_true (α := List Fiber) (H.get 1 rfl)) (rep_true (α := List Light) (H.get 0 rfl))) hy4) fun v4 w a hp4 hf => ?_)
  obtain ⟨hb4, F2, hp5, hN⟩ := hp4
  obtain ⟨A8, c8, rfl, hl7⟩ := VO_list hp5
  have H := H.addOwn hb4 (X := [(⟨F2, MP.own F2 [(.slice A8 y4.length c8)] (y4 : List Action)⟩ : DI)]) (by simpa using hN.1) (ps1 hl7 ps0) (by simpa using hN.2)
  have H := H.lend 0 rfl
  refine pr 1 hf rfl rfl fun a hf => ?_
  refine wl_end (then_n (sq (sq (reg (pr 3 hf rfl rfl fun a hf => ?_)))))
  refine wl_end (then_n (iteB hF (fun hc4 hF => cd_t hf rfl hc4 ?_) fun hc4 hF => cd_f hf rfl hc4 ?_))
  ·refine sq (reg (wl0 rfl (op_bslice hf H (.ow []) rfl 136 ([] : List Action) [] rfl (fun w => by kernel_rfl) rfl (by decide) rfl rfl (fun i x h => by simp at h) (by decide) fun A9 a w hf H => ?_)))
   refine pr 2 hf rfl rfl fun a hf => ?_
   refine wl_end (then_n (wp_ret (then_r (?_))))
   obtain ⟨F4, H⟩ := H.freezeOwn 0 rfl
   have H := H.lend 0 rfl
   obtain rfl := Option.some.inj hF
   refine ret_2 (fn := Tryz.f42) (r := .tmp 4) (s := .tmp 5) hf rfl (rv_tmp hf rfl) (rv_tmp hf rfl) ?_
   have hN := H.ends (X := [(⟨F4, MP.own F4 [(.slice A9 0 0)] (([] : List Action) : List Action)⟩ : DI)])
   simp only [List.flatMap_cons, List.flatMap_nil, List.append_nil, List.append_assoc] at hN
   exact ⟨_, rfl, H.bel, F4, _, _, rfl, (mko_list (H.ownAt 0 rfl)), mk_bool, by first | exact hN | simpa using hN⟩
  ·refine wp_skip (then_n (sq (reg (pr 3 hf rfl rfl fun a hf => ?_))))
   refine wl_end (then_n (wp_ret (?_)))
   obtain rfl := Option.some.inj hF
   refine ret_2 (fn := Tryz.f42) (r := .tmp 4) (s := .tmp 5) hf rfl (rv_tmp hf rfl) (rv_tmp hf rfl) ?_
   have hN := H.ends (X := [(⟨F2, MP.own F2 [(.slice A8 y4.length c8)] (y4 : List Action)⟩ : DI)])
   simp only [List.flatMap_cons, List.flatMap_nil, List.append_nil, List.append_assoc] at hN
   exact ⟨_, rfl, H.bel, F2, _, _, rfl, (mko_list (H.ownAt 0 rfl)), mk_bool, by first | exact hN | simpa using hN⟩

/- slices.Equal[[]string,string] -/
set_option maxHeartbeats 1000000 in
theorem slices_Equal_string_string_ok {fu : Nat} {w0 : World} {S : Nat → Prop} {v0_ : Value} {v1_ : Value} {s1 : List ByteArray} {s2 : List ByteArray} {r : Bool} (h0 : VR w0 S v0_ s1) (h1 : VR w0 S v1_ s2) (hF : slices_Equal_string_string fu s1 s2 = some r) :
    Calls Tryz.prog 165 [v0_, v1_].toArray w0 fun e w' => ∃ v, e = .returned v ∧ (Below w0.heap.size w0 w' ∧ VR w' (St ⟨w0, []⟩ S [] [] [] true) v r) := by
 obtain ⟨A, c, rfl, hl⟩ := VR_list h0
 obtain ⟨A2, c2, rfl, hl2⟩ := VR_list h1
 have H := Mem.start ⟨w0, []⟩ S
 have H := H.pushArg (MP.val [(.slice A s1.length c)] s1) hl
 have H := H.pushArg (MP.val [(.slice A2 s2.length c2)] s2) hl2
 refine enter Tryz.func165 rfl rfl (nle rfl) rfl fun a hf => ?_
 rw [slices_Equal_string_string] at hF
 refine sq (reg (pr 1 hf rfl rfl fun a hf => ?_))
 refine wl_end (then_n (sq (sq (reg (pr 5 hf rfl rfl fun a hf => ?_)))))
 refine wl_end (then_n (iteB hF (fun hc hF => cd_t hf rfl hc ?_) fun hc hF => cd_f hf rfl hc ?_))
 ·refine sq (reg (pr 1 hf rfl rfl fun a hf => ?_))
  refine wl_end (then_n (wp_ret (then_r (?_))))
  obtain rfl := Option.some.inj hF
  refine ret_1 (fn := Tryz.f165) (r := .tmp 4) hf rfl (rv_tmp hf rfl) ?_
  exact ⟨_, rfl, H.bel, mk_bool⟩
 ·refine wp_skip (then_n (sq (sq (reg (pr 3 hf rfl rfl fun a hf => ?_)))))
  refine wl_end (then_n ?_)
  obtain ⟨out', hB1, hF⟩ := bind_some hF
  have hf := hf.prune [0, 1, 12, 13] rfl
  have H := H.let [] [] [] [0, 1] rfl rfl rfl rfl
  refine loopC (fun (s : Int) (a : Act) (w : World) => match s with | i => Fr a 26 [(0, (.slice A s1.length c)), (1, (.slice A2 s2.length c2)), (12, (.int .i64 (s1.length : Int))), (13, (.int .i64 i))] ∧ Mem ⟨w0, []⟩ S [] [] [] [(false, MP.val [(.slice A2 s2.length c2)] (s2 : List ByteArray)), (false, MP.val [(.slice A s1.length c)] (s1 : List ByteArray))] w) (fun k (s : Int) => slices_Equal_string_string_L1 fu s1 s2 k s = some out') (fun s => out' = Out.next s) 0 fu hB1 ⟨hf, H⟩ (fun s h => by cases h) ?_ ?_
  ·rintro fk i a w hR1 hI
   replace hR1 : slices_Equal_string_string_L1 fu s1 s2 (fk + 1) i = some out' := hR1
   rw [slices_Equal_string_string_L1] at hR1
   obtain ⟨hf, H⟩ := hI
   refine sq (reg (pr 1 hf rfl rfl fun a hf => ?_))
   refine wl_end (then_n (sq (iteB hR1 (fun hc2 hR1 => cd_t hf rfl hc2 ?_) fun hc2 hR1 => cd_f hf rfl hc2 ?_)))
   ·refine wp_skip (then_n (sq (wp_block (sq (reg (pr 2 hf rfl rfl fun a hf => ?_))))))
    refine wl_end (then_n (sq (drawn [] (bs := [false, false, false, false, false, false, false, false, false]) (fuel := 9) (Checked.mixed Tryz.checked) rfl rfl fun w hb => ?_)))
    have H := H.keep hb
    refine tp 0 rfl rfl hf (by kernel_rfl) (fun _ => trivial) rfl fun a hf => ?_
    refine tp 1 rfl rfl hf (by kernel_rfl) (fun _ => trivial) rfl fun a hf => ?_
    obtain ⟨e, he, hR1⟩ := bind_some hR1
    obtain ⟨p, o, cs, hx, hr, H⟩ := pre_iaddr H Tryz.underlying22 TF.sz9 1 rfl he
    refine tP 2 rfl rfl rfl rfl hf (by kernel_rfl) (fun _ => trivial) (fun w => rq_iaddrE hf rfl rfl rfl hx w) fun a hf => ?_
    obtain rfl := hr
    refine strT (H.let [] [] [] [0] rfl rfl rfl rfl) (fun w H => trivial) fun hS => ?_
    refine tS 3 [] rfl rfl rfl rfl hf (by kernel_rfl) (by kernel_rfl) hS (fun w H => rq_loadI hf H TF.ls9 0 0 rfl rfl rfl) fun a hf => ?_
    refine tp 4 rfl rfl hf (by kernel_rfl) (fun _ => hS) rfl fun a hf => ?_
    refine tp 5 rfl rfl hf (by kernel_rfl) (fun _ => hS) rfl fun a hf => ?_
    obtain ⟨e2, he2, hR1⟩ := bind_some hR1
    obtain ⟨p2, o2, cs2, hx2, hr2, H⟩ := pre_iaddr H Tryz.underlying22 TF.sz9 1 rfl he2
    refine tP 6 rfl rfl rfl rfl hf (by kernel_rfl) (fun _ => hS) (fun w => rq_iaddrE hf rfl rfl rfl hx2 w) fun a hf => ?_
    obtain rfl := hr2
    refine strT (H.let [] [] [] [0, 1] rfl rfl rfl rfl) (fun w H => H.let [] [] [] [1] rfl rfl rfl rfl) fun hS => ?_
    refine tS 7 [] rfl rfl rfl rfl hf (by kernel_rfl) (by kernel_rfl) hS (fun w H => rq_loadI hf H TF.ls9 0 0 rfl rfl rfl) fun a hf => ?_
    refine tp 8 rfl rfl hf (by kernel_rfl) (fun _ => hS) rfl fun a hf => ?_
    refine dn (by kernel_rfl) ?_
    refine then_n (iteB hR1 (fun hc3 hR1 => cd_t hf rfl hc3 ?_) fun hc3 hR1 => cd_f hf rfl hc3 ?_)
    ·refine sq (reg (pr 1 hf rfl rfl fun a hf => ?_))
     have hf := hf.prune [4] rfl
     refine wl_end (then_n (wp_ret (blk_r (then_r (then_r (blk_r (then_r (then_r (?_)))))))))
     obtain rfl := Option.some.inj hR1
     replace hF := on_ret hF
     obtain rfl := Option.some.inj hF
     refine ret_1 (fn := Tryz.f165) (r := .tmp 4) hf rfl (rv_tmp hf rfl) ?_
     exact ⟨_, rfl, H.bel, mk_bool⟩
    ·refine wp_skip (blk_n (then_n (reg (pr 2 hf rfl rfl fun a hf => ?_))))
     have hf := hf.prune [0, 1, 12, 13] rfl
     refine wl_end ?_
     have hf := hf.prune [0, 1, 12, 13] rfl
     have H := H.let [] [] [] [2, 3] rfl rfl rfl rfl
     exact then_n ⟨w64 (i + 1), hR1, hf, H⟩
   ·refine wp_exit (then_x (then_x (blk_e (?_))))
    have hf := hf.prune [0, 1, 12, 13] rfl
    have H := H.let [] [] [] [0, 1] rfl rfl rfl rfl
    exact ⟨i, (Option.some.inj hR1).symm, hf, H⟩
  rintro a w ⟨i2, rfl, hf, H⟩
  replace hF := on_next hF
  refine then_n (sq (reg (pr 1 hf rfl rfl fun a hf => ?_)))
  refine wl_end (then_n (wp_ret (?_)))
  obtain rfl := Option.some.inj hF
  refine ret_1 (fn := Tryz.f165) (r := .tmp 4) hf rfl (rv_tmp hf rfl) ?_
  exact ⟨_, rfl, H.bel, mk_bool⟩

/- slices.Equal[[]loop.example/g00897/impl.Fiber,loop.example/g00897/impl.Fiber] -/
set_option maxHeartbeats 1000000 in
theorem slices_Equal_impl_Fiber_impl_Fiber_ok {fu : Nat} {w0 : World} {S : Nat → Prop} {v0_ : Value} {v1_ : Value} {s1 : List Fiber} {s2 : List Fiber} {r : Bool} (h0 : VR w0 S v0_ s1) (h1 : VR w0 S v1_ s2) (hF : slices_Equal_impl_Fiber_impl_Fiber fu s1 s2 = some r) :
    Calls Tryz.prog 166 [v0_, v1_].toArray w0 fun e w' => ∃ v, e = .returned v ∧ (Below w0.heap.size w0 w' ∧ VR w' (St ⟨w0, []⟩ S [] [] [] true) v r) := by
 obtain ⟨A, c, rfl, hl⟩ := VR_list h0
 obtain ⟨A2, c2, rfl, hl2⟩ := VR_list h1
 have H := Mem.start ⟨w0, []⟩ S
 have H := H.pushArg (MP.val [(.slice A s1.length c)] s1) hl
 have H := H.pushArg (MP.val [(.slice A2 s2.length c2)] s2) hl2
 refine enter Tryz.func166 rfl rfl (nle rfl) rfl fun a hf => ?_
 rw [slices_Equal_impl_Fiber_impl_Fiber] at hF
 refine sq (reg (pr 1 hf rfl rfl fun a hf => ?_))
 refine wl_end (then_n (sq (sq (reg (pr 5 hf rfl rfl fun a hf => ?_)))))
 refine wl_end (then_n (iteB hF (fun hc hF => cd_t hf rfl hc ?_) fun hc hF => cd_f hf rfl hc ?_))
 ·refine sq (reg (pr 1 hf rfl rfl fun a hf => ?_))
  refine wl_end (then_n (wp_ret (then_r (?_))))
  obtain rfl := Option.some.inj hF
  refine ret_1 (fn := Tryz.f166) (r := .tmp 4) hf rfl (rv_tmp hf rfl) ?_
  exact ⟨_, rfl, H.bel, mk_bool⟩
 ·refine wp_skip (then_n (sq (sq (reg (pr 3 hf rfl rfl fun a hf => ?_)))))
  refine wl_end (then_n ?_)
  obtain ⟨out', hB1, hF⟩ := bind_some hF
  have hf := hf.prune [0, 1, 12, 13] rfl
  have H := H.let [] [] [] [0, 1] rfl rfl rfl rfl
  refine loopC (fun (s : Int) (a : Act) (w : World) => match s with | i => Fr a 26 [(0, (.slice A s1.length c)), (1, (.slice A2 s2.length c2)), (12, (.int .i64 (s1.length : Int))), (13, (.int .i64 i))] ∧ Mem ⟨w0, []⟩ S [] [] [] [(false, MP.val [(.slice A2 s2.length c2)] (s2 : List Fiber)), (false, MP.val [(.slice A s1.length c)] (s1 : List Fiber))] w) (fun k (s : Int) => slices_Equal_impl_Fiber_impl_Fiber_L1 fu s1 s2 k s = some out') (fun s => out' = Out.next s) 0 fu hB1 ⟨hf, H⟩ (fun s h => by cases h) ?_ ?_
  ·rintro fk i a w hR1 hI
   replace hR1 : slices_Equal_impl_Fiber_impl_Fiber_L1 fu s1 s2 (fk + 1) i = some out' := hR1
   rw [slices_Equal_impl_Fiber_impl_Fiber_L1] at hR1
   obtain ⟨hf, H⟩ := hI
   refine sq (reg (pr 1 hf rfl rfl fun a hf => ?_))
   refine wl_end (then_n (sq (iteB hR1 (fun hc2 hR1 => cd_t hf rfl hc2 ?_) fun hc2 hR1 => cd_f hf rfl hc2 ?_)))
   ·refine wp_skip (then_n (sq (wp_block (sq (reg (pr 2 hf rfl rfl fun a hf => ?_))))))
    refine wl_end (then_n (sq (drawn [] (bs := [false, false, false, false, false, false, false, false, false]) (fuel := 9) (Checked.mixed Tryz.checked) rfl rfl fun w hb => ?_)))
    have H := H.keep hb
    refine tp 0 rfl rfl hf (by kernel_rfl) (fun _ => trivial) rfl fun a hf => ?_
    refine tp 1 rfl rfl hf (by kernel_rfl) (fun _ => trivial) rfl fun a hf => ?_
    obtain ⟨e, he, hR1⟩ := bind_some hR1
    obtain ⟨p, o, cs, hx, hr, H⟩ := pre_iaddr H Tryz.underlying32 TF.sz120 1 rfl he
    refine tP 2 rfl rfl rfl rfl hf (by kernel_rfl) (fun _ => trivial) (fun w => rq_iaddrE hf rfl rfl rfl hx w) fun a hf => ?_
    obtain rfl := Fiber_cells hr
    refine strT (H.let [] [] [] [0] rfl rfl rfl rfl) (fun w H => trivial) fun hS => ?_
    refine tS 3 [] rfl rfl rfl rfl hf (by kernel_rfl) (by kernel_rfl) hS (fun w H => rq_loadIN hf H TF.la120 0 0 rfl rfl rfl rfl) fun a hf => ?_
    refine tp 4 rfl rfl hf (by kernel_rfl) (fun _ => hS) rfl fun a hf => ?_
    refine tp 5 rfl rfl hf (by kernel_rfl) (fun _ => hS) rfl fun a hf => ?_
    obtain ⟨e2, he2, hR1⟩ := bind_some hR1
    obtain ⟨p2, o2, cs2, hx2, hr2, H⟩ := pre_iaddr H Tryz.underlying32 TF.sz120 1 rfl he2
    refine tP 6 rfl rfl rfl rfl hf (by kernel_rfl) (fun _ => hS) (fun w => rq_iaddrE hf rfl rfl rfl hx2 w) fun a hf => ?_
    obtain rfl := Fiber_cells hr2
    refine strT (H.let [] [] [] [0, 1] rfl rfl rfl rfl) (fun w H => H.let [] [] [] [1] rfl rfl rfl rfl) fun hS => ?_
    refine tS 7 [] rfl rfl rfl rfl hf (by kernel_rfl) (by kernel_rfl) hS (fun w H => rq_loadIN hf H TF.la120 0 0 rfl rfl rfl rfl) fun a hf => ?_
    refine tP 8 rfl rfl rfl rfl hf (by kernel_rfl) (fun _ => hS) (fun w => rq_neT hf TF.qeqt120 ([e.A, e.B, e.Length, e.Risk] : List Int) ([e2.A, e2.B, e2.Length, e2.Risk] : List Int) rfl rfl rfl rfl rfl rfl) fun a hf => ?_
    refine dn (by kernel_rfl) ?_
    refine then_n (iteB hR1 (fun hc3 hR1 => cd_t hf rfl hc3 ?_) fun hc3 hR1 => cd_f hf rfl hc3 ?_)
    ·refine sq (reg (pr 1 hf rfl rfl fun a hf => ?_))
     have hf := hf.prune [4] rfl
     refine wl_end (then_n (wp_ret (blk_r (then_r (then_r (blk_r (then_r (then_r (?_)))))))))
     obtain rfl := Option.some.inj hR1
     replace hF := on_ret hF
     obtain rfl := Option.some.inj hF
     refine ret_1 (fn := Tryz.f166) (r := .tmp 4) hf rfl (rv_tmp hf rfl) ?_
     exact ⟨_, rfl, H.bel, mk_bool⟩
    ·refine wp_skip (blk_n (then_n (reg (pr 2 hf rfl rfl fun a hf => ?_))))
     have hf := hf.prune [0, 1, 12, 13] rfl
     refine wl_end ?_
     have hf := hf.prune [0, 1, 12, 13] rfl
     have H := H.let [] [] [] [2, 3] rfl rfl rfl rfl
     exact then_n ⟨w64 (i + 1), hR1, hf, H⟩
   ·refine wp_exit (then_x (then_x (blk_e (?_))))
    have hf := hf.prune [0, 1, 12, 13] rfl
    have H := H.let [] [] [] [0, 1] rfl rfl rfl rfl
    exact ⟨i, (Option.some.inj hR1).symm, hf, H⟩
  rintro a w ⟨i2, rfl, hf, H⟩
  replace hF := on_next hF
  refine then_n (sq (reg (pr 1 hf rfl rfl fun a hf => ?_)))
  refine wl_end (then_n (wp_ret (?_)))
  obtain rfl := Option.some.inj hF
  refine ret_1 (fn := Tryz.f166) (r := .tmp 4) hf rfl (rv_tmp hf rfl) ?_
  exact ⟨_, rfl, H.bel, mk_bool⟩

/- loop.example/g00897/impl.equalNetworks -/
set_option maxHeartbeats 1000000 in
theorem impl_equalNetworks_ok {fu : Nat} {w0 : World} {S : Nat → Prop} {v0_ : Value} {v1_ : Value} {a' : Network} {b' : Network} {r : Bool} (h0 : VR w0 S v0_ a') (h1 : VR w0 S v1_ b') (hF : impl_equalNetworks fu a' b' = some r) :
    Calls Tryz.prog 101 [v0_, v1_].toArray w0 fun e w' => ∃ v, e = .returned v ∧ (Below w0.heap.size w0 w' ∧ VR w' (St ⟨w0, []⟩ S [] [] [] true) v r) := by
 obtain ⟨A, c, A2, c2, rfl, hl, hl2⟩ := Network_open h0
 obtain ⟨A3, c3, A4, c4, rfl, hl3, hl4⟩ := Network_open h1
 have H := Mem.start ⟨w0, []⟩ S
 have H := H.pushArg (MP.val [(.slice A a'.Nodes.length c)] a'.Nodes) hl
 have H := H.pushArg (MP.val [(.slice A2 a'.Fibers.length c2)] a'.Fibers) hl2
 have H := H.pushArg (MP.val [(.slice A3 b'.Nodes.length c3)] b'.Nodes) hl3
 have H := H.pushArg (MP.val [(.slice A4 b'.Fibers.length c4)] b'.Fibers) hl4
 refine enter Tryz.func101 rfl rfl (nle rfl) rfl fun a hf => ?_
 rw [impl_equalNetworks] at hF
 refine sq (reg (wl0 rfl (op_box hf H rfl rfl (by decide) fun b2 a w hf H => ?_)))
 refine wl0 rfl (op_box hf H rfl rfl (by decide) fun b3 a w hf H => ?_)
 refine pr 1 hf rfl rfl fun a hf => ?_
 refine wl_end (then_n (sq ?_))
 obtain ⟨c5, hGc5, hF⟩ := bind_some hF
 have fh := hf.prune [] rfl
 have Hm := H.let [false, false] [] [] [] rfl rfl rfl rfl
 refine midF 4 (.bool c5) fh Hm ?_ fun a w hf H => ?_
 ·refine reg (pr 1 hf rfl rfl fun a hf => ?_)
  refine wl0 rfl (op_q hf (rq_loadB hf H TF.ls22 1 rfl rfl rfl) rfl (by decide) fun a hf => ?_)
  refine pr 1 hf rfl rfl fun a hf => ?_
  refine wl0 rfl (op_q hf (rq_loadB hf H TF.ls22 0 rfl rfl rfl) rfl (by decide) fun a hf => ?_)
  obtain ⟨y, hy, hGc5⟩ := bind_some hGc5
  refine wl0 rfl (op_call hf TF.cl165 rfl (by decide) (slices_Equal_string_string_ok (S := fun _ => True) (mk_list (rep_true (α := List ByteArray) (H.get 3 rfl))) (mk_list (rep_true (α := List ByteArray) (H.get 1 rfl))) hy) fun v w a hp hf => ?_)
  obtain ⟨hb, hp⟩ := hp
  obtain rfl := VR_bool hp
  have H := H.keep hb
  refine pr 1 hf rfl rfl fun a hf => ?_
  refine iteB hGc5 (fun hc hGc5 => ?_) fun hc hGc5 => ?_
  ·have hf := hf.lit 10 rfl hc
   refine pr 1 hf rfl rfl fun a hf => ?_
   refine wlg hf rfl rfl rfl (op_q hf (rq_loadB hf H TF.ls32 1 rfl rfl rfl) rfl (by decide) fun a hf => ?_)
   refine pr 1 hf rfl rfl fun a hf => ?_
   refine wlg hf rfl rfl rfl (op_q hf (rq_loadB hf H TF.ls32 0 rfl rfl rfl) rfl (by decide) fun a hf => ?_)
   obtain ⟨y2, hy2, hGc5⟩ := bind_some hGc5
   refine wlg hf rfl rfl rfl (op_call hf TF.cl166 rfl (by decide) (slices_Equal_impl_Fiber_impl_Fiber_ok (S := fun _ => True) (mk_list (rep_true (α := List Fiber) (H.get 2 rfl))) (mk_list (rep_true (α := List Fiber) (H.get 0 rfl))) hy2) fun v2 w a hp2 hf => ?_)
   obtain ⟨hb2, hp2⟩ := hp2
   obtain rfl := VR_bool hp2
   have H := H.keep hb2
   refine pr 2 hf rfl rfl fun a hf => ?_
   obtain rfl := Option.some.inj hGc5
   have hf := hf.prune [4] rfl
   have H := H.let [false, false] [] [] [] rfl rfl rfl rfl
   exact wl_end ⟨hf, H⟩
  ·have hf := hf.lit 10 rfl hc
   refine pr 7 hf rfl rfl fun a hf => ?_
   obtain rfl := Option.some.inj hGc5
   have hf := hf.prune [4] rfl
   have H := H.let [false, false] [] [] [] rfl rfl rfl rfl
   exact wl_end ⟨hf, H⟩
 refine then_n (wp_ret (?_))
 obtain rfl := Option.some.inj hF
 refine ret_1 (fn := Tryz.f101) (r := .tmp 4) hf rfl (rv_tmp hf rfl) ?_
 exact ⟨_, rfl, H.bel, mk_bool⟩

/- slices.Equal[[]int,int] -/
set_option maxHeartbeats 1000000 in
theorem slices_Equal_int_int_ok {fu : Nat} {w0 : World} {S : Nat → Prop} {v0_ : Value} {v1_ : Value} {s1 : List Int} {s2 : List Int} {r : Bool} (h0 : VR w0 S v0_ s1) (h1 : VR w0 S v1_ s2) (hF : slices_Equal_int_int fu s1 s2 = some r) :
    Calls Tryz.prog 169 [v0_, v1_].toArray w0 fun e w' => ∃ v, e = .returned v ∧ (Below w0.heap.size w0 w' ∧ VR w' (St ⟨w0, []⟩ S [] [] [] true) v r) := by
 obtain ⟨A, c, rfl, hl⟩ := VR_list h0
 obtain ⟨A2, c2, rfl, hl2⟩ := VR_list h1
 have H := Mem.start ⟨w0, []⟩ S
 have H := H.pushArg (MP.val [(.slice A s1.length c)] s1) hl
 have H := H.pushArg (MP.val [(.slice A2 s2.length c2)] s2) hl2
 refine enter Tryz.func169 rfl rfl (nle rfl) rfl fun a hf => ?_
 rw [slices_Equal_int_int] at hF
 refine sq (reg (pr 1 hf rfl rfl fun a hf => ?_))
 refine wl_end (then_n (sq (sq (reg (pr 5 hf rfl rfl fun a hf => ?_)))))
 refine wl_end (then_n (iteB hF (fun hc hF => cd_t hf rfl hc ?_) fun hc hF => cd_f hf rfl hc ?_))
 ·refine sq (reg (pr 1 hf rfl rfl fun a hf => ?_))
  refine wl_end (then_n (wp_ret (then_r (?_))))
  obtain rfl := Option.some.inj hF
  refine ret_1 (fn := Tryz.f169) (r := .tmp 4) hf rfl (rv_tmp hf rfl) ?_
  exact ⟨_, rfl, H.bel, mk_bool⟩
 ·refine wp_skip (then_n (sq (sq (reg (pr 3 hf rfl rfl fun a hf => ?_)))))
  refine wl_end (then_n ?_)
  obtain ⟨out', hB1, hF⟩ := bind_some hF
  have hf := hf.prune [0, 1, 12, 13] rfl
  have H := H.let [] [] [] [0, 1] rfl rfl rfl rfl
  refine loopC (fun (s : Int) (a : Act) (w : World) => match s with | i => Fr a 26 [(0, (.slice A s1.length c)), (1, (.slice A2 s2.length c2)), (12, (.int .i64 (s1.length : Int))), (13, (.int .i64 i))] ∧ Mem ⟨w0, []⟩ S [] [] [] [(false, MP.val [(.slice A2 s2.length c2)] (s2 : List Int)), (false, MP.val [(.slice A s1.length c)] (s1 : List Int))] w) (fun k (s : Int) => slices_Equal_int_int_L1 fu s1 s2 k s = some out') (fun s => out' = Out.next s) 0 fu hB1 ⟨hf, H⟩ (fun s h => by cases h) ?_ ?_
  ·rintro fk i a w hR1 hI
   replace hR1 : slices_Equal_int_int_L1 fu s1 s2 (fk + 1) i = some out' := hR1
   rw [slices_Equal_int_int_L1] at hR1
   obtain ⟨hf, H⟩ := hI
   refine sq (reg (pr 1 hf rfl rfl fun a hf => ?_))
   refine wl_end (then_n (sq (iteB hR1 (fun hc2 hR1 => cd_t hf rfl hc2 ?_) fun hc2 hR1 => cd_f hf rfl hc2 ?_)))
   ·refine wp_skip (then_n (sq (wp_block (sq (reg (pr 2 hf rfl rfl fun a hf => ?_))))))
    refine wl_end (then_n (sq (drawn [] (bs := [false, false, false, false, false, false, false, false, false]) (fuel := 9) (Checked.mixed Tryz.checked) rfl rfl fun w hb => ?_)))
    have H := H.keep hb
    refine tp 0 rfl rfl hf (by kernel_rfl) (fun _ => trivial) rfl fun a hf => ?_
    refine tp 1 rfl rfl hf (by kernel_rfl) (fun _ => trivial) rfl fun a hf => ?_
    obtain ⟨e, he, hR1⟩ := bind_some hR1
    obtain ⟨p, o, cs, hx, hr, H⟩ := pre_iaddr H Tryz.underlying44 TF.sz3 1 rfl he
    refine tP 2 rfl rfl rfl rfl hf (by kernel_rfl) (fun _ => trivial) (fun w => rq_iaddrE hf rfl rfl rfl hx w) fun a hf => ?_
    obtain rfl := hr
    refine strT (H.let [] [] [] [0] rfl rfl rfl rfl) (fun w H => trivial) fun hS => ?_
    refine tS 3 [] rfl rfl rfl rfl hf (by kernel_rfl) (by kernel_rfl) hS (fun w H => rq_loadI hf H TF.ls3 0 0 rfl rfl rfl) fun a hf => ?_
    refine tp 4 rfl rfl hf (by kernel_rfl) (fun _ => hS) rfl fun a hf => ?_
    refine tp 5 rfl rfl hf (by kernel_rfl) (fun _ => hS) rfl fun a hf => ?_
    obtain ⟨e2, he2, hR1⟩ := bind_some hR1
    obtain ⟨p2, o2, cs2, hx2, hr2, H⟩ := pre_iaddr H Tryz.underlying44 TF.sz3 1 rfl he2
    refine tP 6 rfl rfl rfl rfl hf (by kernel_rfl) (fun _ => hS) (fun w => rq_iaddrE hf rfl rfl rfl hx2 w) fun a hf => ?_
    obtain rfl := hr2
    refine strT (H.let [] [] [] [0, 1] rfl rfl rfl rfl) (fun w H => H.let [] [] [] [1] rfl rfl rfl rfl) fun hS => ?_
    refine tS 7 [] rfl rfl rfl rfl hf (by kernel_rfl) (by kernel_rfl) hS (fun w H => rq_loadI hf H TF.ls3 0 0 rfl rfl rfl) fun a hf => ?_
    refine tp 8 rfl rfl hf (by kernel_rfl) (fun _ => hS) rfl fun a hf => ?_
    refine dn (by kernel_rfl) ?_
    refine then_n (iteB hR1 (fun hc3 hR1 => cd_t hf rfl hc3 ?_) fun hc3 hR1 => cd_f hf rfl hc3 ?_)
    ·refine sq (reg (pr 1 hf rfl rfl fun a hf => ?_))
     have hf := hf.prune [4] rfl
     refine wl_end (then_n (wp_ret (blk_r (then_r (then_r (blk_r (then_r (then_r (?_)))))))))
     obtain rfl := Option.some.inj hR1
     replace hF := on_ret hF
     obtain rfl := Option.some.inj hF
     refine ret_1 (fn := Tryz.f169) (r := .tmp 4) hf rfl (rv_tmp hf rfl) ?_
     exact ⟨_, rfl, H.bel, mk_bool⟩
    ·refine wp_skip (blk_n (then_n (reg (pr 2 hf rfl rfl fun a hf => ?_))))
     have hf := hf.prune [0, 1, 12, 13] rfl
     refine wl_end ?_
     have hf := hf.prune [0, 1, 12, 13] rfl
     have H := H.let [] [] [] [2, 3] rfl rfl rfl rfl
     exact then_n ⟨w64 (i + 1), hR1, hf, H⟩
   ·refine wp_exit (then_x (then_x (blk_e (?_))))
    have hf := hf.prune [0, 1, 12, 13] rfl
    have H := H.let [] [] [] [0, 1] rfl rfl rfl rfl
    exact ⟨i, (Option.some.inj hR1).symm, hf, H⟩
  rintro a w ⟨i2, rfl, hf, H⟩
  replace hF := on_next hF
  refine then_n (sq (reg (pr 1 hf rfl rfl fun a hf => ?_)))
  refine wl_end (then_n (wp_ret (?_)))
  obtain rfl := Option.some.inj hF
  refine ret_1 (fn := Tryz.f169) (r := .tmp 4) hf rfl (rv_tmp hf rfl) ?_
  exact ⟨_, rfl, H.bel, mk_bool⟩

/- loop.example/g00897/impl.equalLights -/
set_option maxHeartbeats 1000000 in
theorem impl_equalLights_ok {fu : Nat} {w0 : World} {S : Nat → Prop} {v0_ : Value} {v1_ : Value} {a' : Light} {b' : Light} {r : Bool} (h0 : VR w0 S v0_ a') (h1 : VR w0 S v1_ b') (hF : impl_equalLights fu a' b' = some r) :
    Calls Tryz.prog 103 [v0_, v1_].toArray w0 fun e w' => ∃ v, e = .returned v ∧ (Below w0.heap.size w0 w' ∧ VR w' (St ⟨w0, []⟩ S [] [] [] true) v r) := by
 obtain ⟨A, c, rfl, hl⟩ := Light_open h0
 obtain ⟨A2, c2, rfl, hl2⟩ := Light_open h1
 have H := Mem.start ⟨w0, []⟩ S
 have H := H.pushArg (MP.val [(.slice A a'.Route.Fibers.length c)] a'.Route.Fibers) hl
 have H := H.pushArg (MP.val [(.slice A2 b'.Route.Fibers.length c2)] b'.Route.Fibers) hl2
 refine enter Tryz.func103 rfl rfl (nle rfl) rfl fun a hf => ?_
 rw [impl_equalLights] at hF
 refine sq (reg (wl0 rfl (op_box hf H rfl rfl (by decide) fun b2 a w hf H => ?_)))
 refine wl0 rfl (op_box hf H rfl rfl (by decide) fun b3 a w hf H => ?_)
 refine pr 1 hf rfl rfl fun a hf => ?_
 refine wl_end (then_n (sq ?_))
 obtain ⟨c3, hGc3, hF⟩ := bind_some hF
 have fh := hf.prune [] rfl
 have Hm := H.let [false, false] [] [] [] rfl rfl rfl rfl
 refine midF 4 (.bool c3) fh Hm ?_ fun a w hf H => ?_
 ·refine reg (pr 1 hf rfl rfl fun a hf => ?_)
  refine wl0 rfl (op_q hf (rq_loadB hf H TF.ls3 1 rfl rfl rfl) rfl (by decide) fun a hf => ?_)
  refine pr 1 hf rfl rfl fun a hf => ?_
  refine wl0 rfl (op_q hf (rq_loadB hf H TF.ls3 0 rfl rfl rfl) rfl (by decide) fun a hf => ?_)
  refine pr 2 hf rfl rfl fun a hf => ?_
  refine iteB hGc3 (fun hc hGc3 => ?_) fun hc hGc3 => ?_
  ·have hf := hf.lit 10 rfl hc
   refine pr 2 hf rfl rfl fun a hf => ?_
   refine wlg hf rfl rfl rfl (op_q hf (rq_loadB hf H TF.ls3 1 rfl rfl rfl) rfl (by decide) fun a hf => ?_)
   refine pr 2 hf rfl rfl fun a hf => ?_
   refine wlg hf rfl rfl rfl (op_q hf (rq_loadB hf H TF.ls3 0 rfl rfl rfl) rfl (by decide) fun a hf => ?_)
   refine pr 3 hf rfl rfl fun a hf => ?_
   refine iteB hGc3 (fun hc2 hGc3 => ?_) fun hc2 hGc3 => ?_
   ·have hf := hf.lit 19 rfl hc2
    refine pr 2 hf rfl rfl fun a hf => ?_
    refine wlg hf rfl rfl rfl (op_q hf (rq_loadB hf H TF.ls44 1 rfl rfl rfl) rfl (by decide) fun a hf => ?_)
    refine pr 2 hf rfl rfl fun a hf => ?_
    refine wlg hf rfl rfl rfl (op_q hf (rq_loadB hf H TF.ls44 0 rfl rfl rfl) rfl (by decide) fun a hf => ?_)
    obtain ⟨y, hy, hGc3⟩ := bind_some hGc3
    refine wlg hf rfl rfl rfl (op_call hf TF.cl169 rfl (by decide) (slices_Equal_int_int_ok (S := fun _ => True) (mk_list (rep_true (α := List Int) (H.get 1 rfl))) (mk_list (rep_true (α := List Int) (H.get 0 rfl))) hy) fun v w a hp hf => ?_)
    obtain ⟨hb, hp⟩ := hp
    obtain rfl := VR_bool hp
    have H := H.keep hb
    refine pr 2 hf rfl rfl fun a hf => ?_
    refine iteB hGc3 (fun hc3 hGc3 => ?_) fun hc3 hGc3 => ?_
    ·have hf := hf.lit 28 rfl hc3
     refine pr 1 hf rfl rfl fun a hf => ?_
     refine wlg hf rfl rfl rfl (op_q hf (rq_loadBN hf H TF.la110 1 rfl rfl rfl rfl) rfl (by decide) fun a hf => ?_)
     refine pr 1 hf rfl rfl fun a hf => ?_
     refine wlg hf rfl rfl rfl (op_q hf (rq_loadBN hf H TF.la110 0 rfl rfl rfl rfl) rfl (by decide) fun a hf => ?_)
     refine wlg hf rfl rfl rfl (op_q hf (rq_eqT hf TF.qeqt110 ([a'.Block.First, a'.Block.Count] : List Int) ([b'.Block.First, b'.Block.Count] : List Int) rfl rfl rfl rfl rfl rfl) rfl (by decide) fun a hf => ?_)
     refine pr 2 hf rfl rfl fun a hf => ?_
     obtain rfl := Option.some.inj hGc3
     have hf := hf.prune [4] rfl
     have H := H.let [false, false] [] [] [] rfl rfl rfl rfl
     exact wl_end ⟨hf, H⟩
    ·have hf := hf.lit 28 rfl hc3
     refine pr 7 hf rfl rfl fun a hf => ?_
     obtain rfl := Option.some.inj hGc3
     have hf := hf.prune [4] rfl
     have H := H.let [false, false] [] [] [] rfl rfl rfl rfl
     exact wl_end ⟨hf, H⟩
   ·have hf := hf.lit 19 rfl hc2
    refine pr 16 hf rfl rfl fun a hf => ?_
    obtain rfl := Option.some.inj hGc3
    have hf := hf.prune [4] rfl
    have H := H.let [false, false] [] [] [] rfl rfl rfl rfl
    exact wl_end ⟨hf, H⟩
  ·have hf := hf.lit 10 rfl hc
   refine pr 25 hf rfl rfl fun a hf => ?_
   obtain rfl := Option.some.inj hGc3
   have hf := hf.prune [4] rfl
   have H := H.let [false, false] [] [] [] rfl rfl rfl rfl
   exact wl_end ⟨hf, H⟩
 refine then_n (wp_ret (?_))
 obtain rfl := Option.some.inj hF
 refine ret_1 (fn := Tryz.f103) (r := .tmp 4) hf rfl (rv_tmp hf rfl) ?_
 exact ⟨_, rfl, H.bel, mk_bool⟩
end AT

