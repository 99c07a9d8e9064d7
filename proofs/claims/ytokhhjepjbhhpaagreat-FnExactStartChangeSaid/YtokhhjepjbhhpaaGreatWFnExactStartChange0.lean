/- The Go functions do what is told of them, by program (gen.py). -/
import Derived.Test.YtokhhjepjbhhpaaGreatWC1
set_option linter.unusedVariables false
set_option linter.unusedSimpArgs false
set_option maxRecDepth 100000
namespace AT
open Go Go.RowKit Go.Proofs

/- loop.example/g00897/spec.l2Own -/
set_option maxHeartbeats 1000000 in
theorem spec_l2Own_ok {fu : Nat} {w0 : World} {S : Nat → Prop} {v0_ : Value} {n' : Network} {r : Network} (h0 : VR w0 S v0_ n') (hF : spec_l2Own fu n' = some r) :
    Calls Tryz.prog 149 [v0_].toArray w0 fun e w' => ∃ v, e = .returned v ∧ (Below w0.heap.size w0 w' ∧ ∃ F0, VO w' F0 v r ∧ New w0 w' F0) := by
 obtain ⟨A, c, A2, c2, rfl, hl, hl2⟩ := Network_open h0
 have H := Mem.start ⟨w0, []⟩ S
 have H := H.pushArg (MP.val [(.slice A n'.Nodes.length c)] n'.Nodes) hl
 have H := H.pushArg (MP.val [(.slice A2 n'.Fibers.length c2)] n'.Fibers) hl2
 refine enter Tryz.func149 rfl rfl (nle rfl) rfl fun a hf => ?_
 rw [spec_l2Own] at hF
 refine sq (reg (wl0 rfl (op_box hf H rfl rfl (by decide) fun b' a w hf H => ?_)))
 refine wl0 rfl (op_alloc hf H TF.zv34 rfl (by decide) fun b2 a w hf H => ?_)
 refine wl_end (then_n (sq (drawn [9] (bs := [false, false, false, false, false, false, false, false, false, false]) (fuel := 10) (Checked.mixed Tryz.checked) rfl rfl fun w hb => ?_)))
 have H := H.keep hb
 refine tp 1 rfl rfl hf (by kernel_rfl) (fun _ => trivial) rfl fun a hf => ?_
 refine strT (H.let [false, true] [] [] [] rfl rfl rfl rfl) (fun w H => trivial) fun hS => ?_
 refine tS 2 [2, 3, 7, 8, 9] rfl rfl rfl rfl hf (by kernel_rfl) (by kernel_rfl) hS (fun w H => rq_loadB hf H TF.ls22 0 rfl rfl rfl) fun a hf => ?_
 refine tp 5 rfl rfl hf (by kernel_rfl) (fun _ => hS) rfl fun a hf => ?_
 refine tS 6 [6, 7, 8, 9] rfl rfl rfl rfl hf (by kernel_rfl) (by kernel_rfl) hS (fun w H => rq_loadB hf H TF.ls32 0 rfl rfl rfl) fun a hf => ?_
 refine on2 (i := 0) (j := 4) (bi := [true, true, true, false, false, true, true, false, false, false]) (bj := [false, true, true, false, true, true, true, false, false, false]) (by kernel_rfl) rfl rfl rfl rfl rfl rfl ?_ ?_
 ·refine (op_bslice hf H (.sh true) rfl 9 ([] : List ByteArray) [] rfl (fun w => by kernel_rfl) rfl (by decide) rfl trivial el0 (by decide) fun A3 a w hf H => ?_)
  have hS := H.let [false, true] [false] [] [] rfl rfl rfl rfl
  refine ⟨fun _ => hS, ?_⟩
  refine on2 (i := 3) (j := 4) (bi := [true, true, true, true, false, true, true, false, false, false]) (bj := [true, true, true, false, true, true, true, false, false, false]) (by kernel_rfl) rfl rfl rfl rfl rfl rfl ?_ ?_
  ·obtain ⟨l, hl, hF⟩ := bind_some hF
   have H := H.rowWeak 0 rfl
   refine (op_appI hf H Tryz.underlying22 TF.ai9 rfl (by decide) 0 1 rfl rfl rfl rfl (.inl rfl) hl (by decide) fun E A4 c3 a w hf H => ?_)
   have H := H.rowOwn 0 rfl rfl
   have H := H.rowSh 0 rfl
   have hS := H.let [false, true] [false] [] [] rfl rfl rfl rfl
   refine ⟨fun _ => hS, ?_⟩
   refine n1 4 (by kernel_rfl) rfl rfl (op_bslice hf H (.sh true) rfl 120 ([] : List Fiber) [] rfl (fun w => by kernel_rfl) rfl (by decide) rfl trivial el0 (by decide) fun A5 a w hf H => ?_)
   have hS := H.let [false, true] [false, false] [] [] rfl rfl rfl rfl
   refine ⟨fun _ => hS, ?_⟩
   obtain ⟨l2, hl2, hF⟩ := bind_some hF
   have H := H.rowWeak 0 rfl
   refine n1 7 (by kernel_rfl) rfl rfl (op_appI hf H Tryz.underlying32 TF.ai120 rfl (by decide) 0 0 rfl rfl rfl rfl (.inl rfl) hl2 (by decide) fun E2 A6 c4 a w hf H => ?_)
   have H := H.rowOwn 0 rfl rfl
   have H := H.rowSh 0 rfl
   have hS := H.let [false, true] [false, false] [] [] rfl rfl rfl rfl
   refine ⟨fun _ => hS, ?_⟩
   refine tP 8 rfl rfl rfl rfl hf (by kernel_rfl) (fun _ => hS) (fun w => rq_build hf (cs := [(.slice A4 l.length c3), (.slice A6 l2.length c4)]) rfl (fun w => by kernel_rfl)) fun a hf => ?_
   refine n1 9 (by kernel_rfl) rfl rfl (op_storeB hf H 0 TF.sz34 rfl rfl rfl rfl rfl rfl (nle rfl) fun w H => ?_)
   refine ⟨fun h => absurd h (by decide), ?_⟩
   refine dn (by kernel_rfl) ?_
   refine then_n (wp_ret (?_))
   have H := H.rowOwn 1 rfl rfl
   obtain ⟨F, H⟩ := H.freezeOwn 1 rfl
   have H := H.lend 0 rfl
   have H := H.rowOwn 0 rfl rfl
   obtain ⟨F2, H⟩ := H.freezeOwn 0 rfl
   have H := H.lend 0 rfl
   have H := H.frontD 1 rfl
   obtain rfl := Option.some.inj hF
   refine ret_1 (fn := Tryz.f149) (r := .cell 2 34) hf rfl (rv_cellN hf H 0 TF.la34 rfl rfl rfl) ?_
   have hN := H.ends (X := [(⟨F, MP.own F [(.slice A4 l.length c3)] (l : List ByteArray)⟩ : DI), (⟨F2, MP.own F2 [(.slice A6 l2.length c4)] (l2 : List Fiber)⟩ : DI)])
   simp only [List.flatMap_cons, List.flatMap_nil, List.append_nil, List.append_assoc] at hN
   exact ⟨_, rfl, H.bel, (F ++ F2), ⟨_, Network_ownmk (x := ({ Nodes := l, Fibers := l2 } : Network)) (H.ownAt 0 rfl) (H.ownAt 1 rfl), rfl⟩, by first | exact hN | simpa using hN⟩
  ·refine (op_bslice hf H (.sh true) rfl 120 ([] : List Fiber) [] rfl (fun w => by kernel_rfl) rfl (by decide) rfl trivial el0 (by decide) fun A4 a w hf H => ?_)
   have hS := H.let [false, true] [false, false] [] [] rfl rfl rfl rfl
   refine ⟨fun _ => hS, ?_⟩
   obtain ⟨l, hl, hF⟩ := bind_some hF
   have H := H.rowWeak 1 rfl
   refine n1 3 (by kernel_rfl) rfl rfl (op_appI hf H Tryz.underlying22 TF.ai9 rfl (by decide) 1 1 rfl rfl rfl rfl (.inl rfl) hl (by decide) fun E A5 c3 a w hf H => ?_)
   have H := H.rowOwn 1 rfl rfl
   have H := H.rowSh 1 rfl
   have hS := H.let [false, true] [false, false] [] [] rfl rfl rfl rfl
   refine ⟨fun _ => hS, ?_⟩
   obtain ⟨l2, hl2, hF⟩ := bind_some hF
   have H := H.rowWeak 0 rfl
   refine n1 7 (by kernel_rfl) rfl rfl (op_appI hf H Tryz.underlying32 TF.ai120 rfl (by decide) 0 0 rfl rfl rfl rfl (.inl rfl) hl2 (by decide) fun E2 A6 c4 a w hf H => ?_)
   have H := H.rowOwn 0 rfl rfl
   have H := H.rowSh 0 rfl
   have hS := H.let [false, true] [false, false] [] [] rfl rfl rfl rfl
   refine ⟨fun _ => hS, ?_⟩
   refine tP 8 rfl rfl rfl rfl hf (by kernel_rfl) (fun _ => hS) (fun w => rq_build hf (cs := [(.slice A5 l.length c3), (.slice A6 l2.length c4)]) rfl (fun w => by kernel_rfl)) fun a hf => ?_
   refine n1 9 (by kernel_rfl) rfl rfl (op_storeB hf H 0 TF.sz34 rfl rfl rfl rfl rfl rfl (nle rfl) fun w H => ?_)
   refine ⟨fun h => absurd h (by decide), ?_⟩
   refine dn (by kernel_rfl) ?_
   refine then_n (wp_ret (?_))
   have H := H.rowOwn 1 rfl rfl
   obtain ⟨F, H⟩ := H.freezeOwn 1 rfl
   have H := H.lend 0 rfl
   have H := H.rowOwn 0 rfl rfl
   obtain ⟨F2, H⟩ := H.freezeOwn 0 rfl
   have H := H.lend 0 rfl
   have H := H.frontD 1 rfl
   obtain rfl := Option.some.inj hF
   refine ret_1 (fn := Tryz.f149) (r := .cell 2 34) hf rfl (rv_cellN hf H 0 TF.la34 rfl rfl rfl) ?_
   have hN := H.ends (X := [(⟨F, MP.own F [(.slice A5 l.length c3)] (l : List ByteArray)⟩ : DI), (⟨F2, MP.own F2 [(.slice A6 l2.length c4)] (l2 : List Fiber)⟩ : DI)])
   simp only [List.flatMap_cons, List.flatMap_nil, List.append_nil, List.append_assoc] at hN
   exact ⟨_, rfl, H.bel, (F ++ F2), ⟨_, Network_ownmk (x := ({ Nodes := l, Fibers := l2 } : Network)) (H.ownAt 0 rfl) (H.ownAt 1 rfl), rfl⟩, by first | exact hN | simpa using hN⟩
 ·refine (op_bslice hf H (.sh true) rfl 120 ([] : List Fiber) [] rfl (fun w => by kernel_rfl) rfl (by decide) rfl trivial el0 (by decide) fun A3 a w hf H => ?_)
  have hS := H.let [false, true] [false] [] [] rfl rfl rfl rfl
  refine ⟨fun _ => hS, ?_⟩
  refine n1 0 (by kernel_rfl) rfl rfl (op_bslice hf H (.sh true) rfl 9 ([] : List ByteArray) [] rfl (fun w => by kernel_rfl) rfl (by decide) rfl trivial el0 (by decide) fun A4 a w hf H => ?_)
  have hS := H.let [false, true] [false, false] [] [] rfl rfl rfl rfl
  refine ⟨fun _ => hS, ?_⟩
  obtain ⟨l, hl, hF⟩ := bind_some hF
  have H := H.rowWeak 0 rfl
  refine n1 3 (by kernel_rfl) rfl rfl (op_appI hf H Tryz.underlying22 TF.ai9 rfl (by decide) 0 1 rfl rfl rfl rfl (.inl rfl) hl (by decide) fun E A5 c3 a w hf H => ?_)
  have H := H.rowOwn 0 rfl rfl
  have H := H.rowSh 0 rfl
  have hS := H.let [false, true] [false, false] [] [] rfl rfl rfl rfl
  refine ⟨fun _ => hS, ?_⟩
  obtain ⟨l2, hl2, hF⟩ := bind_some hF
  have H := H.rowWeak 1 rfl
  refine n1 7 (by kernel_rfl) rfl rfl (op_appI hf H Tryz.underlying32 TF.ai120 rfl (by decide) 1 0 rfl rfl rfl rfl (.inl rfl) hl2 (by decide) fun E2 A6 c4 a w hf H => ?_)
  have H := H.rowOwn 1 rfl rfl
  have H := H.rowSh 1 rfl
  have hS := H.let [false, true] [false, false] [] [] rfl rfl rfl rfl
  refine ⟨fun _ => hS, ?_⟩
  refine tP 8 rfl rfl rfl rfl hf (by kernel_rfl) (fun _ => hS) (fun w => rq_build hf (cs := [(.slice A5 l.length c3), (.slice A6 l2.length c4)]) rfl (fun w => by kernel_rfl)) fun a hf => ?_
  refine n1 9 (by kernel_rfl) rfl rfl (op_storeB hf H 0 TF.sz34 rfl rfl rfl rfl rfl rfl (nle rfl) fun w H => ?_)
  refine ⟨fun h => absurd h (by decide), ?_⟩
  refine dn (by kernel_rfl) ?_
  refine then_n (wp_ret (?_))
  have H := H.rowOwn 0 rfl rfl
  obtain ⟨F, H⟩ := H.freezeOwn 0 rfl
  have H := H.lend 0 rfl
  have H := H.rowOwn 0 rfl rfl
  obtain ⟨F2, H⟩ := H.freezeOwn 0 rfl
  have H := H.lend 0 rfl
  have H := H.frontD 1 rfl
  obtain rfl := Option.some.inj hF
  refine ret_1 (fn := Tryz.f149) (r := .cell 2 34) hf rfl (rv_cellN hf H 0 TF.la34 rfl rfl rfl) ?_
  have hN := H.ends (X := [(⟨F, MP.own F [(.slice A5 l.length c3)] (l : List ByteArray)⟩ : DI), (⟨F2, MP.own F2 [(.slice A6 l2.length c4)] (l2 : List Fiber)⟩ : DI)])
  simp only [List.flatMap_cons, List.flatMap_nil, List.append_nil, List.append_assoc] at hN
  exact ⟨_, rfl, H.bel, (F ++ F2), ⟨_, Network_ownmk (x := ({ Nodes := l, Fibers := l2 } : Network)) (H.ownAt 0 rfl) (H.ownAt 1 rfl), rfl⟩, by first | exact hN | simpa using hN⟩

/- loop.example/g00897/spec.l1Own -/
set_option maxHeartbeats 1000000 in
theorem spec_l1Own_ok {fu : Nat} {w0 : World} {S : Nat → Prop} {v0_ : Value} {l : List Int} {r : List Int} (h0 : VR w0 S v0_ l) (hF : spec_l1Own fu l = some r) :
    Calls Tryz.prog 225 [v0_].toArray w0 fun e w' => ∃ v, e = .returned v ∧ (Below w0.heap.size w0 w' ∧ ∃ F0, VO w' F0 v r ∧ New w0 w' F0) := by
 obtain ⟨A, c, rfl, hl⟩ := VR_list h0
 have H := Mem.start ⟨w0, []⟩ S
 have H := H.pushArg (MP.val [(.slice A l.length c)] l) hl
 refine enter Tryz.func225 rfl rfl (nle rfl) rfl fun a hf => ?_
 rw [spec_l1Own] at hF
 refine sq (reg (pr 1 hf rfl rfl fun a hf => ?_))
 refine wl_end (then_n (sq (reg (wl0 rfl (op_bslice hf H (.sh true) rfl 3 ([] : List Int) [] rfl (fun w => by kernel_rfl) rfl (by decide) rfl trivial el0 (by decide) fun A2 a w hf H => ?_)))))
 refine pr 1 hf rfl rfl fun a hf => ?_
 obtain ⟨l2, hl2, hF⟩ := bind_some hF
 have H := H.rowWeak 0 rfl
 refine wl0 rfl (op_appI hf H Tryz.underlying44 TF.ai3 rfl (by decide) 0 0 rfl rfl rfl rfl (.inl rfl) hl2 (by decide) fun E A3 c2 a w hf H => ?_)
 have H := H.rowOwn 0 rfl rfl
 have H := H.rowSh 0 rfl
 refine pr 1 hf rfl rfl fun a hf => ?_
 refine wl_end (then_n (wp_ret (?_)))
 have H := H.rowOwn 0 rfl rfl
 obtain ⟨F, H⟩ := H.freezeOwn 0 rfl
 have H := H.lend 0 rfl
 obtain rfl := Option.some.inj hF
 refine ret_1 (fn := Tryz.f225) (r := .tmp 2) hf rfl (rv_tmp hf rfl) ?_
 have hN := H.ends (X := [(⟨F, MP.own F [(.slice A3 l2.length c2)] (l2 : List Int)⟩ : DI)])
 simp only [List.flatMap_cons, List.flatMap_nil, List.append_nil, List.append_assoc] at hN
 exact ⟨_, rfl, H.bel, F, (mko_list (H.ownAt 0 rfl)), by first | exact hN | simpa using hN⟩

/- loop.example/g00897/spec.l4Own -/
set_option maxHeartbeats 1000000 in
theorem spec_l4Own_ok {fu : Nat} {w0 : World} {S : Nat → Prop} {v0_ : Value} {r' : Route} {r : Route} (h0 : VR w0 S v0_ r') (hF : spec_l4Own fu r' = some r) :
    Calls Tryz.prog 200 [v0_].toArray w0 fun e w' => ∃ v, e = .returned v ∧ (Below w0.heap.size w0 w' ∧ ∃ F0, VO w' F0 v r ∧ New w0 w' F0) := by
 obtain ⟨A, c, rfl, hl⟩ := Route_open h0
 have H := Mem.start ⟨w0, []⟩ S
 have H := H.pushArg (MP.val [(.slice A r'.Fibers.length c)] r'.Fibers) hl
 refine enter Tryz.func200 rfl rfl (nle rfl) rfl fun a hf => ?_
 rw [spec_l4Own] at hF
 refine sq (reg (wl0 rfl (op_box hf H rfl rfl (by decide) fun b' a w hf H => ?_)))
 refine wl0 rfl (op_alloc hf H TF.zv108 rfl (by decide) fun b2 a w hf H => ?_)
 refine wl_end (then_n (sq (drawn [6] (bs := [false, false, false, false, false, false, false]) (fuel := 7) (Checked.mixed Tryz.checked) rfl rfl fun w hb => ?_)))
 have H := H.keep hb
 refine tp 0 rfl rfl hf (by kernel_rfl) (fun _ => trivial) rfl fun a hf => ?_
 refine strT (H.let [false, true] [] [] [] rfl rfl rfl rfl) (fun w H => trivial) fun hS => ?_
 refine tS 1 [1, 5, 6] rfl rfl rfl rfl hf (by kernel_rfl) (by kernel_rfl) hS (fun w H => rq_loadB hf H TF.ls3 0 rfl rfl rfl) fun a hf => ?_
 refine tp 2 rfl rfl hf (by kernel_rfl) (fun _ => hS) rfl fun a hf => ?_
 refine tS 3 [3, 4, 5, 6] rfl rfl rfl rfl hf (by kernel_rfl) (by kernel_rfl) hS (fun w H => rq_loadB hf H TF.ls44 0 rfl rfl rfl) fun a hf => ?_
 obtain ⟨y, hy, hF⟩ := bind_some hF
 refine n1 4 (by kernel_rfl) rfl rfl (op_call hf TF.cl225 rfl (by decide) (spec_l1Own_ok (S := fun _ => True) (mk_list (rep_true (α := List Int) (H.get 0 rfl))) hy) fun v w a hp hf => ?_)
 obtain ⟨hb, F, hp2, hN⟩ := hp
 obtain ⟨A2, c2, rfl, hl2⟩ := VO_list hp2
 have H := H.addOwn hb (X := [(⟨F, MP.own F [(.slice A2 y.length c2)] (y : List Int)⟩ : DI)]) (by simpa using hN.1) (ps1 hl2 ps0) (by simpa using hN.2)
 have H := H.lend 0 rfl
 have hS := H.let [false, true] [] [false] [] rfl rfl rfl rfl
 refine ⟨fun _ => hS, ?_⟩
 refine tP 5 rfl rfl rfl rfl hf (by kernel_rfl) (fun _ => hS) (fun w => rq_build hf (cs := [(.int .i64 r'.Start), (.slice A2 y.length c2)]) rfl (fun w => by kernel_rfl)) fun a hf => ?_
 refine n1 6 (by kernel_rfl) rfl rfl (op_storeB hf H 0 TF.sz108 rfl rfl rfl rfl rfl rfl (nle rfl) fun w H => ?_)
 refine ⟨fun h => absurd h (by decide), ?_⟩
 refine dn (by kernel_rfl) ?_
 refine then_n (wp_ret (?_))
 obtain rfl := Option.some.inj hF
 refine ret_1 (fn := Tryz.f200) (r := .cell 2 108) hf rfl (rv_cellN hf H 0 TF.la108 rfl rfl rfl) ?_
 have hN := H.ends (X := [(⟨F, MP.own F [(.slice A2 y.length c2)] (y : List Int)⟩ : DI)])
 simp only [List.flatMap_cons, List.flatMap_nil, List.append_nil, List.append_assoc] at hN
 exact ⟨_, rfl, H.bel, F, ⟨_, Route_ownmk (x := ({ Start := r'.Start, Fibers := y } : Route)) (H.ownAt 0 rfl), rfl⟩, by first | exact hN | simpa using hN⟩

/- loop.example/g00897/spec.l9Copy -/
set_option maxHeartbeats 1000000 in
theorem spec_l9Copy_ok {fu : Nat} {w0 : World} {S : Nat → Prop} {v0_ : Value} {x1 : Light} {r : Light} (h0 : VR w0 S v0_ x1) (hF : spec_l9Copy fu x1 = some r) :
    Calls Tryz.prog 150 [v0_].toArray w0 fun e w' => ∃ v, e = .returned v ∧ (Below w0.heap.size w0 w' ∧ ∃ F0, VO w' F0 v r ∧ New w0 w' F0) := by
 obtain ⟨A, c, rfl, hl⟩ := Light_open h0
 have H := Mem.start ⟨w0, []⟩ S
 have H := H.pushArg (MP.val [(.slice A x1.Route.Fibers.length c)] x1.Route.Fibers) hl
 refine enter Tryz.func150 rfl rfl (nle rfl) rfl fun a hf => ?_
 rw [spec_l9Copy] at hF
 refine sq (reg (wl0 rfl (op_box hf H rfl rfl (by decide) fun b' a w hf H => ?_)))
 refine wl0 rfl (op_alloc hf H TF.zv112 rfl (by decide) fun b2 a w hf H => ?_)
 refine wl_end (then_n (sq (drawn [8] (bs := [false, false, false, false, false, false, false, false, false]) (fuel := 9) (Checked.mixed Tryz.checked) rfl rfl fun w hb => ?_)))
 have H := H.keep hb
 refine tp 0 rfl rfl hf (by kernel_rfl) (fun _ => trivial) rfl fun a hf => ?_
 refine strT (H.let [false, true] [] [] [] rfl rfl rfl rfl) (fun w H => trivial) fun hS => ?_
 refine tS 1 [1, 7, 8] rfl rfl rfl rfl hf (by kernel_rfl) (by kernel_rfl) hS (fun w H => rq_loadB hf H TF.ls3 0 rfl rfl rfl) fun a hf => ?_
 refine tp 2 rfl rfl hf (by kernel_rfl) (fun _ => hS) rfl fun a hf => ?_
 refine tS 3 [3, 4, 7, 8] rfl rfl rfl rfl hf (by kernel_rfl) (by kernel_rfl) hS (fun w H => rq_loadBN hf H TF.la108 0 rfl rfl rfl rfl) fun a hf => ?_
 refine tp 5 rfl rfl hf (by kernel_rfl) (fun _ => hS) rfl fun a hf => ?_
 refine tS 6 [6, 7, 8] rfl rfl rfl rfl hf (by kernel_rfl) (by kernel_rfl) hS (fun w H => rq_loadBN hf H TF.la110 0 rfl rfl rfl rfl) fun a hf => ?_
 obtain ⟨y, hy, hF⟩ := bind_some hF
 refine n1 4 (by kernel_rfl) rfl rfl (op_call hf TF.cl200 rfl (by decide) (spec_l4Own_ok (S := fun _ => True) (Route_mkv (x := x1.Route) (rep_true (α := List Int) (H.get 0 rfl))) hy) fun v w a hp hf => ?_)
 obtain ⟨hb, F, hp2, hN⟩ := hp
 obtain ⟨A2, c2, F2, rfl, rfl, hl2⟩ := Route_vo hp2
 have H := H.addOwn hb (X := [(⟨F2, MP.own F2 [(.slice A2 y.Fibers.length c2)] (y.Fibers : List Int)⟩ : DI)]) (by simpa using hN.1) (ps1 hl2 ps0) (by simpa using hN.2)
 have H := H.lend 0 rfl
 have hS := H.let [false, true] [] [false] [] rfl rfl rfl rfl
 refine ⟨fun _ => hS, ?_⟩
 refine tP 7 rfl rfl rfl rfl hf (by kernel_rfl) (fun _ => hS) (fun w => rq_build hf (cs := [(.int .i64 x1.Id), (.int .i64 y.Start), (.slice A2 y.Fibers.length c2), (.int .i64 x1.Block.First), (.int .i64 x1.Block.Count)]) rfl (fun w => by kernel_rfl)) fun a hf => ?_
 refine n1 8 (by kernel_rfl) rfl rfl (op_storeB hf H 0 TF.sz112 rfl rfl rfl rfl rfl rfl (nle rfl) fun w H => ?_)
 refine ⟨fun h => absurd h (by decide), ?_⟩
 refine dn (by kernel_rfl) ?_
 refine then_n (wp_ret (?_))
 obtain rfl := Option.some.inj hF
 refine ret_1 (fn := Tryz.f150) (r := .cell 2 112) hf rfl (rv_cellN hf H 0 TF.la112 rfl rfl rfl) ?_
 have hN := H.ends (X := [(⟨F2, MP.own F2 [(.slice A2 y.Fibers.length c2)] (y.Fibers : List Int)⟩ : DI)])
 simp only [List.flatMap_cons, List.flatMap_nil, List.append_nil, List.append_assoc] at hN
 exact ⟨_, rfl, H.bel, F2, ⟨_, Light_ownmk (x := ({ Id := x1.Id, Route := y, Block := x1.Block } : Light)) (H.ownAt 0 rfl), rfl⟩, by first | exact hN | simpa using hN⟩

/- loop.example/g00897/spec.l9Own -/
set_option maxHeartbeats 1000000 in
theorem spec_l9Own_ok {fu : Nat} {w0 : World} {S : Nat → Prop} {v0_ : Value} {p : Plan} {r : Plan} (h0 : VR w0 S v0_ p) (hF : spec_l9Own fu p = some r) :
    Calls Tryz.prog 84 [v0_].toArray w0 fun e w' => ∃ v, e = .returned v ∧ (Below w0.heap.size w0 w' ∧ ∃ F0, VO w' F0 v r ∧ New w0 w' F0) := by
 obtain ⟨A, c, A2, c2, A3, c3, rfl, hl, hl2, hl3⟩ := Plan_open h0
 have H := Mem.start ⟨w0, []⟩ S
 have H := H.pushArg (MP.val [(.slice A p.Network.Nodes.length c)] p.Network.Nodes) hl
 have H := H.pushArg (MP.val [(.slice A2 p.Network.Fibers.length c2)] p.Network.Fibers) hl2
 have H := H.pushArg (MP.val [(.slice A3 p.Lights.length c3)] p.Lights) hl3
 refine enter Tryz.func84 rfl rfl (nle rfl) rfl fun a hf => ?_
 rw [spec_l9Own] at hF
 refine sq (reg (wl0 rfl (op_box hf H rfl rfl (by decide) fun b' a w hf H => ?_)))
 refine wl0 rfl (op_alloc hf H TF.zv37 rfl (by decide) fun b2 a w hf H => ?_)
 refine wl_end (then_n (sq (reg (pr 1 hf rfl rfl fun a hf => ?_))))
 refine wl0 rfl (op_q hf (rq_loadBN hf H TF.la34 1 rfl rfl rfl rfl) rfl (by decide) fun a hf => ?_)
 obtain ⟨y, hy, hF⟩ := bind_some hF
 refine wl0 rfl (op_call hf TF.cl149 rfl (by decide) (spec_l2Own_ok (S := fun _ => True) (Network_mkv (x := p.Network) (rep_true (α := List ByteArray) (H.get 2 rfl)) (rep_true (α := List Fiber) (H.get 1 rfl))) hy) fun v w a hp hf => ?_)
 obtain ⟨hb, F, hp2, hN⟩ := hp
 obtain ⟨A4, c4, F2, A5, c5, F3, rfl, rfl, hl4, hl5⟩ := Network_vo hp2
 have H := H.addOwn hb (X := [(⟨F2, MP.own F2 [(.slice A4 y.Nodes.length c4)] (y.Nodes : List ByteArray)⟩ : DI), (⟨F3, MP.own F3 [(.slice A5 y.Fibers.length c5)] (y.Fibers : List Fiber)⟩ : DI)]) (by simpa using hN.1) (ps1 hl4 (ps1 hl5 ps0)) (by simpa using hN.2)
 have H := H.lend 0 rfl
 have H := H.lend 1 rfl
 refine wl0 rfl (op_q hf (rq_build hf (cs := [(.slice A4 y.Nodes.length c4), (.slice A5 y.Fibers.length c5), (.slice none 0 0)]) rfl (fun w => by kernel_rfl)) rfl (by decide) fun a hf => ?_)
 refine wl0 rfl (op_alloc hf H TF.zv37 rfl (by decide) fun b3 a w hf H => ?_)
 refine wl0 rfl (op_storeB hf H 0 TF.sz37 rfl rfl rfl rfl rfl rfl (nle rfl) fun w H => ?_)
 refine wl_end (then_n (sq (sq (reg (pr 1 hf rfl rfl fun a hf => ?_)))))
 refine wl_end (then_n ?_)
 have H := H.nilRow (Light) (.ow []) rfl rfl 112
 obtain ⟨out', hB1, hF⟩ := bind_some hF
 have hf := hf.prune [1, 2, 3, 4] rfl
 have H := H.let [true, true, true] [true] [true, true] [0, 1, 2, 3, 4] rfl rfl rfl rfl
 refine loopC (fun (s : Int × List Light) (a : Act) (w : World) => match s with | (i, m) => ∃ (A6 : Option Addr) (c6 : Nat) (E : Go.TypeId) (Fs : List (List Nat)), Fr a 28 [(1, (.pointer (some ⟨b', 0, none⟩))), (2, (.pointer (some ⟨b2, 0, none⟩))), (3, (.pointer (some ⟨b3, 0, none⟩))), (4, (.int .i64 i))] ∧ Mem ⟨w0, []⟩ S [⟨b3, 37, [(.slice A4 y.Nodes.length c4), (.slice A5 y.Fibers.length c5), (.slice A6 m.length c6)]⟩, ⟨b2, 37, [(.slice none 0 0), (.slice none 0 0), (.slice none 0 0)]⟩, ⟨b', 37, [(.slice A p.Network.Nodes.length c), (.slice A2 p.Network.Fibers.length c2), (.slice A3 p.Lights.length c3)]⟩] [⟨.ow Fs, E, A6, c6, (m : List Light)⟩] [⟨F2, MP.own F2 [(.slice A4 y.Nodes.length c4)] (y.Nodes : List ByteArray)⟩, ⟨F3, MP.own F3 [(.slice A5 y.Fibers.length c5)] (y.Fibers : List Fiber)⟩] [(true, MP.val [(.slice A5 y.Fibers.length c5)] (y.Fibers : List Fiber)), (true, MP.val [(.slice A4 y.Nodes.length c4)] (y.Nodes : List ByteArray)), (false, MP.val [(.slice A3 p.Lights.length c3)] (p.Lights : List Light)), (false, MP.val [(.slice A2 p.Network.Fibers.length c2)] (p.Network.Fibers : List Fiber)), (false, MP.val [(.slice A p.Network.Nodes.length c)] (p.Network.Nodes : List ByteArray))] w) (fun k (s : Int × List Light) => spec_l9Own_L1 fu p k s.1 s.2 = some out') (fun s => out' = s) (0, ([] : List Light)) fu hB1 ⟨none, 0, 112, [], hf, H⟩ (fun s h => by cases h) ?_ ?_
 ·rintro fk ⟨i, m⟩ a w hR1 hI
  replace hR1 : spec_l9Own_L1 fu p (fk + 1) i m = some out' := hR1
  rw [spec_l9Own_L1] at hR1
  obtain ⟨A6, c6, E, Fs, hf, H⟩ := hI
  refine sq (sq (reg (pr 2 hf rfl rfl fun a hf => ?_)))
  refine wl0 rfl (op_q hf (rq_loadB hf H TF.ls35 2 rfl rfl rfl) rfl (by decide) fun a hf => ?_)
  refine pr 2 hf rfl rfl fun a hf => ?_
  refine wl_end (then_n (iteB hR1 (fun hc hR1 => cd_t hf rfl hc ?_) fun hc hR1 => cd_f hf rfl hc ?_))
  ·refine wp_skip (then_n (sq (wp_block (drawn [11] (bs := [false, false, false, false, false, false, false, false, false, false, false, false]) (fuel := 12) (Checked.mixed Tryz.checked) rfl rfl fun w hb => ?_))))
   have H := H.keep hb
   refine tp 0 rfl rfl hf (by kernel_rfl) (fun _ => trivial) rfl fun a hf => ?_
   refine strT (H.let [true, false, false] [false] [false, false] [] rfl rfl rfl rfl) (fun w H => trivial) fun hS => ?_
   refine tS 1 [1, 9, 10, 11] rfl rfl rfl rfl hf (by kernel_rfl) (by kernel_rfl) hS (fun w H => rq_loadB hf H TF.ls35 0 rfl rfl rfl) fun a hf => ?_
   refine tp 2 rfl rfl hf (by kernel_rfl) (fun _ => hS) rfl fun a hf => ?_
   refine strT (H.let [true, false, true] [false] [false, false] [] rfl rfl rfl rfl) (fun w H => H.let [true, false] [] [] [] rfl rfl rfl rfl) fun hS => ?_
   refine tS 3 [3, 5, 6, 7, 8, 9, 10, 11] rfl rfl rfl rfl hf (by kernel_rfl) (by kernel_rfl) hS (fun w H => rq_loadB hf H TF.ls35 1 rfl rfl rfl) fun a hf => ?_
   refine tp 4 rfl rfl hf (by kernel_rfl) (fun _ => hS) rfl fun a hf => ?_
   obtain ⟨e, he, hR1⟩ := bind_some hR1
   obtain ⟨p2, o, cs, hx, hr, H⟩ := pre_iaddr H Tryz.underlying35 TF.sz112 2 rfl he
   refine tP 5 rfl rfl rfl rfl hf (by kernel_rfl) (fun _ => hS) (fun w => rq_iaddrE hf rfl rfl rfl hx w) fun a hf => ?_
   obtain ⟨A7, c7, rfl, hl6⟩ := Light_cells hr
   have H := H.push (false, MP.val [(.slice A7 e.Route.Fibers.length c7)] e.Route.Fibers) hl6
   refine strT (H.let [true, false, true] [false] [false, false] [1] rfl rfl rfl rfl) (fun w H => H.let [true, true] [] [] [] rfl rfl rfl rfl) fun hS => ?_
   refine tS 6 [6, 7, 8, 9, 10, 11] rfl rfl rfl rfl hf (by kernel_rfl) (by kernel_rfl) hS (fun w H => rq_loadIN hf H TF.la112 0 0 rfl rfl rfl rfl) fun a hf => ?_
   obtain ⟨y2, hy2, hR1⟩ := bind_some hR1
   refine n1 7 (by kernel_rfl) rfl rfl (op_call hf TF.cl150 rfl (by decide) (spec_l9Copy_ok (S := fun _ => True) (Light_mkv (x := e) (rep_true (α := List Int) (H.get 0 rfl))) hy2) fun v2 w a hp3 hf => ?_)
   obtain ⟨hb2, F4, hp4, hN2⟩ := hp3
   obtain ⟨A8, c8, F5, rfl, rfl, hl7⟩ := Light_vo hp4
   have H := H.addOwn hb2 (X := [(⟨F5, MP.own F5 [(.slice A8 y2.Route.Fibers.length c8)] (y2.Route.Fibers : List Int)⟩ : DI)]) (by simpa using hN2.1) (ps1 hl7 ps0) (by simpa using hN2.2)
   have H := H.lend 0 rfl
   have hS := H.let [true, false, true] [false] [false, false, false] [2] rfl rfl rfl rfl
   refine ⟨fun _ => hS, ?_⟩
   have H := H.recast (X := [(⟨F5, MP.own F5 [(.slice A8 y2.Route.Fibers.length c8)] (y2.Route.Fibers : List Int)⟩ : DI)]) (Y := [(⟨F5, MP.own F5 [(.int .i64 y2.Id), (.int .i64 y2.Route.Start), (.slice A8 y2.Route.Fibers.length c8), (.int .i64 y2.Block.First), (.int .i64 y2.Block.Count)] (y2 : Light)⟩ : DI)]) (List.Perm.of_eq (by simp)) fun _ => ps1 (Light_ownmk (x := y2) (H.ownAt 0 rfl)) ps0
   refine n1 8 (by kernel_rfl) rfl rfl (op_bsliceO hf 112 H rfl (fun w => by kernel_rfl) (by decide) fun A9 a w hf H => ?_)
   have hS := H.let [true, false, true] [false, false] [false, false] [2] rfl rfl rfl rfl
   refine ⟨fun _ => hS, ?_⟩
   obtain ⟨l, hl, hR1⟩ := bind_some hR1
   have H := H.frontR 1 rfl
   refine n1 9 (by kernel_rfl) rfl rfl (op_appO hf H Tryz.underlying35 TF.ai112 rfl (by decide) rfl rfl hl (by decide) fun E2 A10 c9 a w hf H => ?_)
   have hS := H.let [true, false, true] [false] [false, false] [2] rfl rfl rfl rfl
   refine ⟨fun _ => hS, ?_⟩
   refine tp 10 rfl rfl hf (by kernel_rfl) (fun _ => hS) rfl fun a hf => ?_
   refine n1 11 (by kernel_rfl) rfl rfl (op_storeB hf H 0 TF.sz35 rfl rfl rfl rfl rfl rfl (nle rfl) fun w H => ?_)
   refine ⟨fun h => absurd h (by decide), ?_⟩
   refine dn (by kernel_rfl) ?_
   have hf := hf.prune [1, 2, 3, 4] rfl
   refine blk_n (then_n (reg (pr 3 hf rfl rfl fun a hf => ?_)))
   refine wl_end ?_
   have hf := hf.prune [1, 2, 3, 4] rfl
   have H := H.let [true, true, true] [true] [true, true] [3, 4, 5, 6, 7] rfl rfl rfl rfl
   exact then_n ⟨(w64 (i + 1), l), hR1, A10, c9, E2, Fs ++ [F5], hf, H⟩
  ·refine wp_exit (then_x (then_x (blk_e (?_))))
   have hf := hf.prune [1, 2, 3, 4] rfl
   have H := H.let [true, true, true] [true] [true, true] [0, 1, 2, 3, 4] rfl rfl rfl rfl
   exact ⟨(i, m), (Option.some.inj hR1).symm, A6, c6, E, Fs, hf, H⟩
 rintro a w ⟨⟨i2, m2⟩, rfl, A11, c10, E3, Fs2, hf, H⟩
 dsimp only at hF
 refine then_n (sq (reg (wl0 rfl (op_q hf (rq_loadBN hf H TF.la37 0 rfl rfl rfl rfl) rfl (by decide) fun a hf => ?_))))
 refine wl0 rfl (op_storeB hf H 1 TF.sz37 rfl rfl rfl rfl rfl rfl (nle rfl) fun w H => ?_)
 refine wl_end (then_n (wp_ret (?_)))
 obtain ⟨F6, H⟩ := H.freezeOwn 0 rfl
 have H := H.lend 0 rfl
 have H := H.frontD 2 rfl
 have H := H.frontD 2 rfl
 obtain rfl := Option.some.inj hF
 refine ret_1 (fn := Tryz.f84) (r := .cell 2 37) hf rfl (rv_cellN hf H 1 TF.la37 rfl rfl rfl) ?_
 have hN := H.ends (X := [(⟨F2, MP.own F2 [(.slice A4 y.Nodes.length c4)] (y.Nodes : List ByteArray)⟩ : DI), (⟨F3, MP.own F3 [(.slice A5 y.Fibers.length c5)] (y.Fibers : List Fiber)⟩ : DI), (⟨F6, MP.own F6 [(.slice A11 m2.length c10)] (m2 : List Light)⟩ : DI)])
 simp only [List.flatMap_cons, List.flatMap_nil, List.append_nil, List.append_assoc] at hN
 exact ⟨_, rfl, H.bel, (F2 ++ (F3 ++ F6)), ⟨_, Plan_ownmk (x := ({ Network := y, Lights := m2 } : Plan)) (H.ownAt 0 rfl) (H.ownAt 1 rfl) (H.ownAt 2 rfl), rfl⟩, by first | exact hN | simpa using hN⟩

/- loop.example/g00897/impl.copyNetwork -/
set_option maxHeartbeats 1000000 in
theorem impl_copyNetwork_ok {fu : Nat} {w0 : World} {S : Nat → Prop} {v0_ : Value} {n' : Network} {r : Network} (h0 : VR w0 S v0_ n') (hF : impl_copyNetwork fu n' = some r) :
    Calls Tryz.prog 151 [v0_].toArray w0 fun e w' => ∃ v, e = .returned v ∧ (Below w0.heap.size w0 w' ∧ ∃ F0, VO w' F0 v r ∧ New w0 w' F0) := by
 obtain ⟨A, c, A2, c2, rfl, hl, hl2⟩ := Network_open h0
 have H := Mem.start ⟨w0, []⟩ S
 have H := H.pushArg (MP.val [(.slice A n'.Nodes.length c)] n'.Nodes) hl
 have H := H.pushArg (MP.val [(.slice A2 n'.Fibers.length c2)] n'.Fibers) hl2
 refine enter Tryz.func151 rfl rfl (nle rfl) rfl fun a hf => ?_
 rw [impl_copyNetwork] at hF
 refine sq (reg (wl0 rfl (op_box hf H rfl rfl (by decide) fun b' a w hf H => ?_)))
 refine wl0 rfl (op_alloc hf H TF.zv34 rfl (by decide) fun b2 a w hf H => ?_)
 refine wl_end (then_n (sq (drawn [9] (bs := [false, false, false, false, false, false, false, false, false, false]) (fuel := 10) (Checked.mixed Tryz.checked) rfl rfl fun w hb => ?_)))
 have H := H.keep hb
 refine tp 1 rfl rfl hf (by kernel_rfl) (fun _ => trivial) rfl fun a hf => ?_
 refine strT (H.let [false, true] [] [] [] rfl rfl rfl rfl) (fun w H => trivial) fun hS => ?_
 refine tS 2 [2, 3, 7, 8, 9] rfl rfl rfl rfl hf (by kernel_rfl) (by kernel_rfl) hS (fun w H => rq_loadB hf H TF.ls22 0 rfl rfl rfl) fun a hf => ?_
 refine tp 5 rfl rfl hf (by kernel_rfl) (fun _ => hS) rfl fun a hf => ?_
 refine tS 6 [6, 7, 8, 9] rfl rfl rfl rfl hf (by kernel_rfl) (by kernel_rfl) hS (fun w H => rq_loadB hf H TF.ls32 0 rfl rfl rfl) fun a hf => ?_
 refine on2 (i := 0) (j := 4) (bi := [true, true, true, false, false, true, true, false, false, false]) (bj := [false, true, true, false, true, true, true, false, false, false]) (by kernel_rfl) rfl rfl rfl rfl rfl rfl ?_ ?_
 ·refine (op_bslice hf H (.sh true) rfl 9 ([] : List ByteArray) [] rfl (fun w => by kernel_rfl) rfl (by decide) rfl trivial el0 (by decide) fun A3 a w hf H => ?_)
  have hS := H.let [false, true] [false] [] [] rfl rfl rfl rfl
  refine ⟨fun _ => hS, ?_⟩
  refine on2 (i := 3) (j := 4) (bi := [true, true, true, true, false, true, true, false, false, false]) (bj := [true, true, true, false, true, true, true, false, false, false]) (by kernel_rfl) rfl rfl rfl rfl rfl rfl ?_ ?_
  ·obtain ⟨l, hl, hF⟩ := bind_some hF
   have H := H.rowWeak 0 rfl
   refine (op_appI hf H Tryz.underlying22 TF.ai9 rfl (by decide) 0 1 rfl rfl rfl rfl (.inl rfl) hl (by decide) fun E A4 c3 a w hf H => ?_)
   have H := H.rowOwn 0 rfl rfl
   have H := H.rowSh 0 rfl
   have hS := H.let [false, true] [false] [] [] rfl rfl rfl rfl
   refine ⟨fun _ => hS, ?_⟩
   refine n1 4 (by kernel_rfl) rfl rfl (op_bslice hf H (.sh true) rfl 120 ([] : List Fiber) [] rfl (fun w => by kernel_rfl) rfl (by decide) rfl trivial el0 (by decide) fun A5 a w hf H => ?_)
   have hS := H.let [false, true] [false, false] [] [] rfl rfl rfl rfl
   refine ⟨fun _ => hS, ?_⟩
   obtain ⟨l2, hl2, hF⟩ := bind_some hF
   have H := H.rowWeak 0 rfl
   refine n1 7 (by kernel_rfl) rfl rfl (op_appI hf H Tryz.underlying32 TF.ai120 rfl (by decide) 0 0 rfl rfl rfl rfl (.inl rfl) hl2 (by decide) fun E2 A6 c4 a w hf H => ?_)
   have H := H.rowOwn 0 rfl rfl
   have H := H.rowSh 0 rfl
   have hS := H.let [false, true] [false, false] [] [] rfl rfl rfl rfl
   refine ⟨fun _ => hS, ?_⟩
   refine tP 8 rfl rfl rfl rfl hf (by kernel_rfl) (fun _ => hS) (fun w => rq_build hf (cs := [(.slice A4 l.length c3), (.slice A6 l2.length c4)]) rfl (fun w => by kernel_rfl)) fun a hf => ?_
   refine n1 9 (by kernel_rfl) rfl rfl (op_storeB hf H 0 TF.sz34 rfl rfl rfl rfl rfl rfl (nle rfl) fun w H => ?_)
   refine ⟨fun h => absurd h (by decide), ?_⟩
   refine dn (by kernel_rfl) ?_
   refine then_n (wp_ret (?_))
   have H := H.rowOwn 1 rfl rfl
   obtain ⟨F, H⟩ := H.freezeOwn 1 rfl
   have H := H.lend 0 rfl
   have H := H.rowOwn 0 rfl rfl
   obtain ⟨F2, H⟩ := H.freezeOwn 0 rfl
   have H := H.lend 0 rfl
   have H := H.frontD 1 rfl
   obtain rfl := Option.some.inj hF
   refine ret_1 (fn := Tryz.f151) (r := .cell 2 34) hf rfl (rv_cellN hf H 0 TF.la34 rfl rfl rfl) ?_
   have hN := H.ends (X := [(⟨F, MP.own F [(.slice A4 l.length c3)] (l : List ByteArray)⟩ : DI), (⟨F2, MP.own F2 [(.slice A6 l2.length c4)] (l2 : List Fiber)⟩ : DI)])
   simp only [List.flatMap_cons, List.flatMap_nil, List.append_nil, List.append_assoc] at hN
   exact ⟨_, rfl, H.bel, (F ++ F2), ⟨_, Network_ownmk (x := ({ Nodes := l, Fibers := l2 } : Network)) (H.ownAt 0 rfl) (H.ownAt 1 rfl), rfl⟩, by first | exact hN | simpa using hN⟩
  ·refine (op_bslice hf H (.sh true) rfl 120 ([] : List Fiber) [] rfl (fun w => by kernel_rfl) rfl (by decide) rfl trivial el0 (by decide) fun A4 a w hf H => ?_)
   have hS := H.let [false, true] [false, false] [] [] rfl rfl rfl rfl
   refine ⟨fun _ => hS, ?_⟩
   obtain ⟨l, hl, hF⟩ := bind_some hF
   have H := H.rowWeak 1 rfl
   refine n1 3 (by kernel_rfl) rfl rfl (op_appI hf H Tryz.underlying22 TF.ai9 rfl (by decide) 1 1 rfl rfl rfl rfl (.inl rfl) hl (by decide) fun E A5 c3 a w hf H => ?_)
   have H := H.rowOwn 1 rfl rfl
   have H := H.rowSh 1 rfl
   have hS := H.let [false, true] [false, false] [] [] rfl rfl rfl rfl
   refine ⟨fun _ => hS, ?_⟩
   obtain ⟨l2, hl2, hF⟩ := bind_some hF
   have H := H.rowWeak 0 rfl
   refine n1 7 (by kernel_rfl) rfl rfl (op_appI hf H Tryz.underlying32 TF.ai120 rfl (by decide) 0 0 rfl rfl rfl rfl (.inl rfl) hl2 (by decide) fun E2 A6 c4 a w hf H => ?_)
   have H := H.rowOwn 0 rfl rfl
   have H := H.rowSh 0 rfl
   have hS := H.let [false, true] [false, false] [] [] rfl rfl rfl rfl
   refine ⟨fun _ => hS, ?_⟩
   refine tP 8 rfl rfl rfl rfl hf (by kernel_rfl) (fun _ => hS) (fun w => rq_build hf (cs := [(.slice A5 l.length c3), (.slice A6 l2.length c4)]) rfl (fun w => by kernel_rfl)) fun a hf => ?_
   refine n1 9 (by kernel_rfl) rfl rfl (op_storeB hf H 0 TF.sz34 rfl rfl rfl rfl rfl rfl (nle rfl) fun w H => ?_)
   refine ⟨fun h => absurd h (by decide), ?_⟩
   refine dn (by kernel_rfl) ?_
   refine then_n (wp_ret (?_))
   have H := H.rowOwn 1 rfl rfl
   obtain ⟨F, H⟩ := H.freezeOwn 1 rfl
   have H := H.lend 0 rfl
   have H := H.rowOwn 0 rfl rfl
   obtain ⟨F2, H⟩ := H.freezeOwn 0 rfl
   have H := H.lend 0 rfl
   have H := H.frontD 1 rfl
   obtain rfl := Option.some.inj hF
   refine ret_1 (fn := Tryz.f151) (r := .cell 2 34) hf rfl (rv_cellN hf H 0 TF.la34 rfl rfl rfl) ?_
   have hN := H.ends (X := [(⟨F, MP.own F [(.slice A5 l.length c3)] (l : List ByteArray)⟩ : DI), (⟨F2, MP.own F2 [(.slice A6 l2.length c4)] (l2 : List Fiber)⟩ : DI)])
   simp only [List.flatMap_cons, List.flatMap_nil, List.append_nil, List.append_assoc] at hN
   exact ⟨_, rfl, H.bel, (F ++ F2), ⟨_, Network_ownmk (x := ({ Nodes := l, Fibers := l2 } : Network)) (H.ownAt 0 rfl) (H.ownAt 1 rfl), rfl⟩, by first | exact hN | simpa using hN⟩
 ·refine (op_bslice hf H (.sh true) rfl 120 ([] : List Fiber) [] rfl (fun w => by kernel_rfl) rfl (by decide) rfl trivial el0 (by decide) fun A3 a w hf H => ?_)
  have hS := H.let [false, true] [false] [] [] rfl rfl rfl rfl
  refine ⟨fun _ => hS, ?_⟩
  refine n1 0 (by kernel_rfl) rfl rfl (op_bslice hf H (.sh true) rfl 9 ([] : List ByteArray) [] rfl (fun w => by kernel_rfl) rfl (by decide) rfl trivial el0 (by decide) fun A4 a w hf H => ?_)
  have hS := H.let [false, true] [false, false] [] [] rfl rfl rfl rfl
  refine ⟨fun _ => hS, ?_⟩
  obtain ⟨l, hl, hF⟩ := bind_some hF
  have H := H.rowWeak 0 rfl
  refine n1 3 (by kernel_rfl) rfl rfl (op_appI hf H Tryz.underlying22 TF.ai9 rfl (by decide) 0 1 rfl rfl rfl rfl (.inl rfl) hl (by decide) fun E A5 c3 a w hf H => ?_)
  have H := H.rowOwn 0 rfl rfl
  have H := H.rowSh 0 rfl
  have hS := H.let [false, true] [false, false] [] [] rfl rfl rfl rfl
  refine ⟨fun _ => hS, ?_⟩
  obtain ⟨l2, hl2, hF⟩ := bind_some hF
  have H := H.rowWeak 1 rfl
  refine n1 7 (by kernel_rfl) rfl rfl (op_appI hf H Tryz.underlying32 TF.ai120 rfl (by decide) 1 0 rfl rfl rfl rfl (.inl rfl) hl2 (by decide) fun E2 A6 c4 a w hf H => ?_)
  have H := H.rowOwn 1 rfl rfl
  have H := H.rowSh 1 rfl
  have hS := H.let [false, true] [false, false] [] [] rfl rfl rfl rfl
  refine ⟨fun _ => hS, ?_⟩
  refine tP 8 rfl rfl rfl rfl hf (by kernel_rfl) (fun _ => hS) (fun w => rq_build hf (cs := [(.slice A5 l.length c3), (.slice A6 l2.length c4)]) rfl (fun w => by kernel_rfl)) fun a hf => ?_
  refine n1 9 (by kernel_rfl) rfl rfl (op_storeB hf H 0 TF.sz34 rfl rfl rfl rfl rfl rfl (nle rfl) fun w H => ?_)
  refine ⟨fun h => absurd h (by decide), ?_⟩
  refine dn (by kernel_rfl) ?_
  refine then_n (wp_ret (?_))
  have H := H.rowOwn 0 rfl rfl
  obtain ⟨F, H⟩ := H.freezeOwn 0 rfl
  have H := H.lend 0 rfl
  have H := H.rowOwn 0 rfl rfl
  obtain ⟨F2, H⟩ := H.freezeOwn 0 rfl
  have H := H.lend 0 rfl
  have H := H.frontD 1 rfl
  obtain rfl := Option.some.inj hF
  refine ret_1 (fn := Tryz.f151) (r := .cell 2 34) hf rfl (rv_cellN hf H 0 TF.la34 rfl rfl rfl) ?_
  have hN := H.ends (X := [(⟨F, MP.own F [(.slice A5 l.length c3)] (l : List ByteArray)⟩ : DI), (⟨F2, MP.own F2 [(.slice A6 l2.length c4)] (l2 : List Fiber)⟩ : DI)])
  simp only [List.flatMap_cons, List.flatMap_nil, List.append_nil, List.append_assoc] at hN
  exact ⟨_, rfl, H.bel, (F ++ F2), ⟨_, Network_ownmk (x := ({ Nodes := l, Fibers := l2 } : Network)) (H.ownAt 0 rfl) (H.ownAt 1 rfl), rfl⟩, by first | exact hN | simpa using hN⟩

/- loop.example/g00897/impl.copyRoute -/
set_option maxHeartbeats 1000000 in
theorem impl_copyRoute_ok {fu : Nat} {w0 : World} {S : Nat → Prop} {v0_ : Value} {r' : Route} {r : Route} (h0 : VR w0 S v0_ r') (hF : impl_copyRoute fu r' = some r) :
    Calls Tryz.prog 152 [v0_].toArray w0 fun e w' => ∃ v, e = .returned v ∧ (Below w0.heap.size w0 w' ∧ ∃ F0, VO w' F0 v r ∧ New w0 w' F0) := by
 obtain ⟨A, c, rfl, hl⟩ := Route_open h0
 have H := Mem.start ⟨w0, []⟩ S
 have H := H.pushArg (MP.val [(.slice A r'.Fibers.length c)] r'.Fibers) hl
 refine enter Tryz.func152 rfl rfl (nle rfl) rfl fun a hf => ?_
 rw [impl_copyRoute] at hF
 refine sq (reg (wl0 rfl (op_box hf H rfl rfl (by decide) fun b' a w hf H => ?_)))
 refine wl0 rfl (op_alloc hf H TF.zv108 rfl (by decide) fun b2 a w hf H => ?_)
 refine wl_end (then_n (sq (drawn [7] (bs := [false, false, false, false, false, false, false, false]) (fuel := 8) (Checked.mixed Tryz.checked) rfl rfl fun w hb => ?_)))
 have H := H.keep hb
 refine tp 0 rfl rfl hf (by kernel_rfl) (fun _ => trivial) rfl fun a hf => ?_
 refine strT (H.let [false, true] [] [] [] rfl rfl rfl rfl) (fun w H => trivial) fun hS => ?_
 refine tS 1 [1, 6, 7] rfl rfl rfl rfl hf (by kernel_rfl) (by kernel_rfl) hS (fun w H => rq_loadB hf H TF.ls3 0 rfl rfl rfl) fun a hf => ?_
 refine tp 3 rfl rfl hf (by kernel_rfl) (fun _ => hS) rfl fun a hf => ?_
 refine tS 4 [4, 5, 6, 7] rfl rfl rfl rfl hf (by kernel_rfl) (by kernel_rfl) hS (fun w H => rq_loadB hf H TF.ls44 0 rfl rfl rfl) fun a hf => ?_
 refine n1 2 (by kernel_rfl) rfl rfl (op_bslice hf H (.sh true) rfl 3 ([] : List Int) [] rfl (fun w => by kernel_rfl) rfl (by decide) rfl trivial el0 (by decide) fun A2 a w hf H => ?_)
 have hS := H.let [false, true] [false] [] [] rfl rfl rfl rfl
 refine ⟨fun _ => hS, ?_⟩
 obtain ⟨l, hl, hF⟩ := bind_some hF
 have H := H.rowWeak 0 rfl
 refine n1 5 (by kernel_rfl) rfl rfl (op_appI hf H Tryz.underlying44 TF.ai3 rfl (by decide) 0 0 rfl rfl rfl rfl (.inl rfl) hl (by decide) fun E A3 c2 a w hf H => ?_)
 have H := H.rowOwn 0 rfl rfl
 have H := H.rowSh 0 rfl
 have hS := H.let [false, true] [false] [] [] rfl rfl rfl rfl
 refine ⟨fun _ => hS, ?_⟩
 refine tP 6 rfl rfl rfl rfl hf (by kernel_rfl) (fun _ => hS) (fun w => rq_build hf (cs := [(.int .i64 r'.Start), (.slice A3 l.length c2)]) rfl (fun w => by kernel_rfl)) fun a hf => ?_
 refine n1 7 (by kernel_rfl) rfl rfl (op_storeB hf H 0 TF.sz108 rfl rfl rfl rfl rfl rfl (nle rfl) fun w H => ?_)
 refine ⟨fun h => absurd h (by decide), ?_⟩
 refine dn (by kernel_rfl) ?_
 refine then_n (wp_ret (?_))
 have H := H.rowOwn 0 rfl rfl
 obtain ⟨F, H⟩ := H.freezeOwn 0 rfl
 have H := H.lend 0 rfl
 obtain rfl := Option.some.inj hF
 refine ret_1 (fn := Tryz.f152) (r := .cell 2 108) hf rfl (rv_cellN hf H 0 TF.la108 rfl rfl rfl) ?_
 have hN := H.ends (X := [(⟨F, MP.own F [(.slice A3 l.length c2)] (l : List Int)⟩ : DI)])
 simp only [List.flatMap_cons, List.flatMap_nil, List.append_nil, List.append_assoc] at hN
 exact ⟨_, rfl, H.bel, F, ⟨_, Route_ownmk (x := ({ Start := r'.Start, Fibers := l } : Route)) (H.ownAt 0 rfl), rfl⟩, by first | exact hN | simpa using hN⟩

/- loop.example/g00897/impl.copyPlan -/
set_option maxHeartbeats 1000000 in
theorem impl_copyPlan_ok {fu : Nat} {w0 : World} {S : Nat → Prop} {v0_ : Value} {p : Plan} {r : Plan} (h0 : VR w0 S v0_ p) (hF : impl_copyPlan fu p = some r) :
    Calls Tryz.prog 86 [v0_].toArray w0 fun e w' => ∃ v, e = .returned v ∧ (Below w0.heap.size w0 w' ∧ ∃ F0, VO w' F0 v r ∧ New w0 w' F0) := by
 obtain ⟨A, c, A2, c2, A3, c3, rfl, hl, hl2, hl3⟩ := Plan_open h0
 have H := Mem.start ⟨w0, []⟩ S
 have H := H.pushArg (MP.val [(.slice A p.Network.Nodes.length c)] p.Network.Nodes) hl
 have H := H.pushArg (MP.val [(.slice A2 p.Network.Fibers.length c2)] p.Network.Fibers) hl2
 have H := H.pushArg (MP.val [(.slice A3 p.Lights.length c3)] p.Lights) hl3
 refine enter Tryz.func86 rfl rfl (nle rfl) rfl fun a hf => ?_
 rw [impl_copyPlan] at hF
 refine sq (reg (wl0 rfl (op_box hf H rfl rfl (by decide) fun b' a w hf H => ?_)))
 refine wl0 rfl (op_alloc hf H TF.zv37 rfl (by decide) fun b2 a w hf H => ?_)
 refine wl_end (then_n (sq (reg (pr 1 hf rfl rfl fun a hf => ?_))))
 refine wl0 rfl (op_q hf (rq_loadBN hf H TF.la34 1 rfl rfl rfl rfl) rfl (by decide) fun a hf => ?_)
 obtain ⟨y, hy, hF⟩ := bind_some hF
 refine wl0 rfl (op_call hf TF.cl151 rfl (by decide) (impl_copyNetwork_ok (S := fun _ => True) (Network_mkv (x := p.Network) (rep_true (α := List ByteArray) (H.get 2 rfl)) (rep_true (α := List Fiber) (H.get 1 rfl))) hy) fun v w a hp hf => ?_)
 obtain ⟨hb, F, hp2, hN⟩ := hp
 obtain ⟨A4, c4, F2, A5, c5, F3, rfl, rfl, hl4, hl5⟩ := Network_vo hp2
 have H := H.addOwn hb (X := [(⟨F2, MP.own F2 [(.slice A4 y.Nodes.length c4)] (y.Nodes : List ByteArray)⟩ : DI), (⟨F3, MP.own F3 [(.slice A5 y.Fibers.length c5)] (y.Fibers : List Fiber)⟩ : DI)]) (by simpa using hN.1) (ps1 hl4 (ps1 hl5 ps0)) (by simpa using hN.2)
 have H := H.lend 0 rfl
 have H := H.lend 1 rfl
 refine wl0 rfl (op_q hf (rq_build hf (cs := [(.slice A4 y.Nodes.length c4), (.slice A5 y.Fibers.length c5), (.slice none 0 0)]) rfl (fun w => by kernel_rfl)) rfl (by decide) fun a hf => ?_)
 refine wl0 rfl (op_alloc hf H TF.zv37 rfl (by decide) fun b3 a w hf H => ?_)
 refine wl0 rfl (op_storeB hf H 0 TF.sz37 rfl rfl rfl rfl rfl rfl (nle rfl) fun w H => ?_)
 refine wl_end (then_n (sq (sq (reg (pr 1 hf rfl rfl fun a hf => ?_)))))
 refine wl0 rfl (op_q hf (rq_loadB hf H TF.ls35 2 rfl rfl rfl) rfl (by decide) fun a hf => ?_)
 refine pr 2 hf rfl rfl fun a hf => ?_
 refine wl_end (then_n ?_)
 have H := H.nilRow (Light) (.ow []) rfl rfl 112
 obtain ⟨out', hB1, hF⟩ := bind_some hF
 have hf := hf.prune [2, 3, 11, 12, 13] rfl
 have H := H.let [true, true, false] [true] [true, true] [0, 1, 2] rfl rfl rfl rfl
 refine loopC (fun (s : Int × List Light) (a : Act) (w : World) => match s with | (i, m) => ∃ (A6 : Option Addr) (c6 : Nat) (E : Go.TypeId) (Fs : List (List Nat)), Fr a 32 [(2, (.pointer (some ⟨b2, 0, none⟩))), (3, (.pointer (some ⟨b3, 0, none⟩))), (11, (.slice A3 p.Lights.length c3)), (12, (.int .i64 (p.Lights.length : Int))), (13, (.int .i64 i))] ∧ Mem ⟨w0, []⟩ S [⟨b3, 37, [(.slice A4 y.Nodes.length c4), (.slice A5 y.Fibers.length c5), (.slice A6 m.length c6)]⟩, ⟨b2, 37, [(.slice none 0 0), (.slice none 0 0), (.slice none 0 0)]⟩] [⟨.ow Fs, E, A6, c6, (m : List Light)⟩] [⟨F2, MP.own F2 [(.slice A4 y.Nodes.length c4)] (y.Nodes : List ByteArray)⟩, ⟨F3, MP.own F3 [(.slice A5 y.Fibers.length c5)] (y.Fibers : List Fiber)⟩] [(true, MP.val [(.slice A5 y.Fibers.length c5)] (y.Fibers : List Fiber)), (true, MP.val [(.slice A4 y.Nodes.length c4)] (y.Nodes : List ByteArray)), (false, MP.val [(.slice A3 p.Lights.length c3)] (p.Lights : List Light))] w) (fun k (s : Int × List Light) => impl_copyPlan_L1 fu p k s.1 s.2 = some out') (fun s => out' = s) (0, ([] : List Light)) fu hB1 ⟨none, 0, 112, [], hf, H⟩ (fun s h => by cases h) ?_ ?_
 ·rintro fk ⟨i, m⟩ a w hR1 hI
  replace hR1 : impl_copyPlan_L1 fu p (fk + 1) i m = some out' := hR1
  rw [impl_copyPlan_L1] at hR1
  obtain ⟨A6, c6, E, Fs, hf, H⟩ := hI
  refine sq (reg (pr 1 hf rfl rfl fun a hf => ?_))
  refine wl_end (then_n (sq (iteB hR1 (fun hc hR1 => cd_t hf rfl hc ?_) fun hc hR1 => cd_f hf rfl hc ?_)))
  ·refine wp_skip (then_n (sq (wp_block (sq (reg ?_)))))
   obtain ⟨e, he, hR1⟩ := bind_some hR1
   refine wl0 rfl (op_iaddr hf H Tryz.underlying35 TF.sz112 2 rfl rfl rfl he (by decide) fun p2 o cs a hf hr H => ?_)
   obtain ⟨A7, c7, rfl, hl6⟩ := Light_cells hr
   have H := H.push (false, MP.val [(.slice A7 e.Route.Fibers.length c7)] e.Route.Fibers) hl6
   refine wl0 rfl (op_q hf (rq_loadIN hf H TF.la112 1 0 rfl rfl rfl rfl) rfl (by decide) fun a hf => ?_)
   refine wl0 rfl (op_alloc hf H TF.zv112 rfl (by decide) fun b4 a w hf H => ?_)
   refine wl0 rfl (op_storeB hf H 0 TF.sz112 rfl rfl rfl rfl rfl rfl (nle rfl) fun w H => ?_)
   refine wl_end (then_n (drawn [13] (bs := [false, false, false, false, false, false, false, false, false, false, false, false, false, false]) (fuel := 14) (Checked.mixed Tryz.checked) rfl rfl fun w hb => ?_))
   have H := H.keep hb
   refine tp 0 rfl rfl hf (by kernel_rfl) (fun _ => trivial) rfl fun a hf => ?_
   refine strT (H.let [false, true, false] [false] [false, false] [] rfl rfl rfl rfl) (fun w H => trivial) fun hS => ?_
   refine tS 1 [1, 11, 12, 13] rfl rfl rfl rfl hf (by kernel_rfl) (by kernel_rfl) hS (fun w H => rq_loadB hf H TF.ls35 0 rfl rfl rfl) fun a hf => ?_
   refine tp 2 rfl rfl hf (by kernel_rfl) (fun _ => hS) rfl fun a hf => ?_
   refine strT (H.let [true, true, false] [false] [false, false] [] rfl rfl rfl rfl) (fun w H => H.let [false, true] [] [] [] rfl rfl rfl rfl) fun hS => ?_
   refine tS 3 [3, 9, 10, 11, 12, 13] rfl rfl rfl rfl hf (by kernel_rfl) (by kernel_rfl) hS (fun w H => rq_loadB hf H TF.ls3 0 rfl rfl rfl) fun a hf => ?_
   refine tp 4 rfl rfl hf (by kernel_rfl) (fun _ => hS) rfl fun a hf => ?_
   refine tS 5 [5, 6, 9, 10, 11, 12, 13] rfl rfl rfl rfl hf (by kernel_rfl) (by kernel_rfl) hS (fun w H => rq_loadBN hf H TF.la108 0 rfl rfl rfl rfl) fun a hf => ?_
   refine tp 7 rfl rfl hf (by kernel_rfl) (fun _ => hS) rfl fun a hf => ?_
   refine tS 8 [8, 9, 10, 11, 12, 13] rfl rfl rfl rfl hf (by kernel_rfl) (by kernel_rfl) hS (fun w H => rq_loadBN hf H TF.la110 0 rfl rfl rfl rfl) fun a hf => ?_
   obtain ⟨y2, hy2, hR1⟩ := bind_some hR1
   refine n1 6 (by kernel_rfl) rfl rfl (op_call hf TF.cl152 rfl (by decide) (impl_copyRoute_ok (S := fun _ => True) (Route_mkv (x := e.Route) (rep_true (α := List Int) (H.get 0 rfl))) hy2) fun v2 w a hp3 hf => ?_)
   obtain ⟨hb2, F4, hp4, hN2⟩ := hp3
   obtain ⟨A8, c8, F5, rfl, rfl, hl7⟩ := Route_vo hp4
   have H := H.addOwn hb2 (X := [(⟨F5, MP.own F5 [(.slice A8 y2.Fibers.length c8)] (y2.Fibers : List Int)⟩ : DI)]) (by simpa using hN2.1) (ps1 hl7 ps0) (by simpa using hN2.2)
   have H := H.lend 0 rfl
   have hS := H.let [true, true, false] [false] [false, false, false] [] rfl rfl rfl rfl
   refine ⟨fun _ => hS, ?_⟩
   refine tP 9 rfl rfl rfl rfl hf (by kernel_rfl) (fun _ => hS) (fun w => rq_build hf (cs := [(.int .i64 e.Id), (.int .i64 y2.Start), (.slice A8 y2.Fibers.length c8), (.int .i64 e.Block.First), (.int .i64 e.Block.Count)]) rfl (fun w => by kernel_rfl)) fun a hf => ?_
   have H := H.recast (X := [(⟨F5, MP.own F5 [(.slice A8 y2.Fibers.length c8)] (y2.Fibers : List Int)⟩ : DI)]) (Y := [(⟨F5, MP.own F5 [(.int .i64 e.Id), (.int .i64 y2.Start), (.slice A8 y2.Fibers.length c8), (.int .i64 e.Block.First), (.int .i64 e.Block.Count)] (({ Id := e.Id, Route := y2, Block := e.Block } : Light) : Light)⟩ : DI)]) (List.Perm.of_eq (by simp)) fun _ => ps1 (Light_ownmk (x := ({ Id := e.Id, Route := y2, Block := e.Block } : Light)) (H.ownAt 0 rfl)) ps0
   refine n1 10 (by kernel_rfl) rfl rfl (op_bsliceO hf 112 H rfl (fun w => by kernel_rfl) (by decide) fun A9 a w hf H => ?_)
   have hS := H.let [true, true, false] [false, false] [false, false] [] rfl rfl rfl rfl
   refine ⟨fun _ => hS, ?_⟩
   obtain ⟨l, hl, hR1⟩ := bind_some hR1
   have H := H.frontR 1 rfl
   refine n1 11 (by kernel_rfl) rfl rfl (op_appO hf H Tryz.underlying35 TF.ai112 rfl (by decide) rfl rfl hl (by decide) fun E2 A10 c9 a w hf H => ?_)
   have hS := H.let [true, true, false] [false] [false, false] [] rfl rfl rfl rfl
   refine ⟨fun _ => hS, ?_⟩
   refine tp 12 rfl rfl hf (by kernel_rfl) (fun _ => hS) rfl fun a hf => ?_
   refine n1 13 (by kernel_rfl) rfl rfl (op_storeB hf H 1 TF.sz35 rfl rfl rfl rfl rfl rfl (nle rfl) fun w H => ?_)
   refine ⟨fun h => absurd h (by decide), ?_⟩
   refine dn (by kernel_rfl) ?_
   have hf := hf.prune [2, 3, 11, 12, 13] rfl
   refine blk_n (then_n (reg (pr 2 hf rfl rfl fun a hf => ?_)))
   refine wl_end ?_
   have hf := hf.prune [2, 3, 11, 12, 13] rfl
   have H := H.let [false, true, true] [true] [true, true] [3, 4, 5] rfl rfl rfl rfl
   exact then_n ⟨(w64 (i + 1), l), hR1, A10, c9, E2, Fs ++ [F5], hf, H⟩
  ·refine wp_exit (then_x (then_x (blk_e (?_))))
   have hf := hf.prune [2, 3, 11, 12, 13] rfl
   have H := H.let [true, true] [true] [true, true] [0, 1, 2] rfl rfl rfl rfl
   exact ⟨(i, m), (Option.some.inj hR1).symm, A6, c6, E, Fs, hf, H⟩
 rintro a w ⟨⟨i2, m2⟩, rfl, A11, c10, E3, Fs2, hf, H⟩
 dsimp only at hF
 refine then_n (sq (reg (wl0 rfl (op_q hf (rq_loadBN hf H TF.la37 0 rfl rfl rfl rfl) rfl (by decide) fun a hf => ?_))))
 refine wl0 rfl (op_storeB hf H 1 TF.sz37 rfl rfl rfl rfl rfl rfl (nle rfl) fun w H => ?_)
 refine wl_end (then_n (wp_ret (?_)))
 obtain ⟨F6, H⟩ := H.freezeOwn 0 rfl
 have H := H.lend 0 rfl
 have H := H.frontD 2 rfl
 have H := H.frontD 2 rfl
 obtain rfl := Option.some.inj hF
 refine ret_1 (fn := Tryz.f86) (r := .cell 2 37) hf rfl (rv_cellN hf H 1 TF.la37 rfl rfl rfl) ?_
 have hN := H.ends (X := [(⟨F2, MP.own F2 [(.slice A4 y.Nodes.length c4)] (y.Nodes : List ByteArray)⟩ : DI), (⟨F3, MP.own F3 [(.slice A5 y.Fibers.length c5)] (y.Fibers : List Fiber)⟩ : DI), (⟨F6, MP.own F6 [(.slice A11 m2.length c10)] (m2 : List Light)⟩ : DI)])
 simp only [List.flatMap_cons, List.flatMap_nil, List.append_nil, List.append_assoc] at hN
 exact ⟨_, rfl, H.bel, (F2 ++ (F3 ++ F6)), ⟨_, Plan_ownmk (x := ({ Network := y, Lights := m2 } : Plan)) (H.ownAt 0 rfl) (H.ownAt 1 rfl) (H.ownAt 2 rfl), rfl⟩, by first | exact hN | simpa using hN⟩

/- loop.example/g00897/laws.markText -/
set_option maxHeartbeats 1000000 in
theorem laws_markText_ok {fu : Nat} {w0 : World} {S : Nat → Prop} {v0_ : Value} {k' : Int} {r : ByteArray} (h0 : VR w0 S v0_ k') (hF : laws_markText fu k' = some r) :
    Calls Tryz.prog 199 [v0_].toArray w0 fun e w' => ∃ v, e = .returned v ∧ (Below w0.heap.size w0 w' ∧ VR w' (St ⟨w0, []⟩ S [] [] [] true) v r) := by
 obtain rfl := VR_int h0
 have H := Mem.start ⟨w0, []⟩ S
 refine enter Tryz.func199 rfl rfl (nle rfl) rfl fun a hf => ?_
 rw [laws_markText] at hF
 refine sq (reg (pr 1 hf rfl rfl fun a hf => ?_))
 refine wl_end (then_n (sq (sq (reg (pr 2 hf rfl rfl fun a hf => ?_)))))
 refine wl_end (then_n (iteB hF (fun hc hF => cd_t hf rfl hc ?_) fun hc hF => cd_f hf rfl hc ?_))
 ·refine sq (reg (pr 1 hf rfl rfl fun a hf => ?_))
  refine wl_end (then_n (wp_ret (then_r (?_))))
  obtain rfl := Option.some.inj hF
  refine ret_1 (fn := Tryz.f199) (r := .tmp 2) hf rfl (rv_tmp hf rfl) ?_
  exact ⟨_, rfl, H.bel, mk_str⟩
 ·refine wp_skip (then_n (sq (reg (pr 1 hf rfl rfl fun a hf => ?_))))
  refine wl_end (then_n (sq ?_))
  obtain ⟨out2, hB1, hF⟩ := bind_some hF
  have hf := hf.prune [0, 3] rfl
  have H := H.let [] [] [] [] rfl rfl rfl rfl
  refine loopC (fun (s : Int × ByteArray) (a : Act) (w : World) => match s with | (k2, out') => Fr a 20 [(0, (.int .i64 k2)), (3, (.string out'))] ∧ Mem ⟨w0, []⟩ S [] [] [] [] w) (fun k (s : Int × ByteArray) => laws_markText_L1 fu k s.1 s.2 = some out2) (fun s => out2 = s) (k', ByteArray.empty) fu hB1 ⟨hf, H⟩ (fun s h => by cases h) ?_ ?_
  ·rintro fk ⟨k2, out'⟩ a w hR1 hI
   replace hR1 : laws_markText_L1 fu (fk + 1) k2 out' = some out2 := hR1
   rw [laws_markText_L1] at hR1
   obtain ⟨hf, H⟩ := hI
   refine sq (sq (reg (pr 2 hf rfl rfl fun a hf => ?_)))
   refine wl_end (then_n (iteB hR1 (fun hc2 hR1 => cd_t hf rfl hc2 ?_) fun hc2 hR1 => cd_f hf rfl hc2 ?_))
   ·refine wp_skip (then_n (wp_block (sq (reg (pr 1 hf rfl rfl fun a hf => ?_)))))
    obtain ⟨q, hq, hR1⟩ := bind_some hR1
    refine wl0 rfl (op_q hf (rq_rem hf rfl rfl hq) rfl (by decide) fun a hf => ?_)
    refine pr 1 hf rfl rfl fun a hf => ?_
    refine wl0 rfl (op_q hf (rq_conv u8w Tryz.underlying3 Tryz.underlying5 hf rfl) rfl (by decide) fun a hf => ?_)
    refine wl0 rfl (op_bslice hf H (.sh true) rfl 5 ([(⟨wu8 (w64 (48 + q))⟩ : By)] : List By) [(.int .u8 (wu8 (w64 (48 + q))))] rfl (fun w => by kernel_rfl) rfl (by decide) rfl trivial (el1 (y := (⟨wu8 (w64 (48 + q))⟩ : By)) (rfl)) (by decide) fun A a w hf H => ?_)
    refine wl0 rfl (op_q hf (rq_convBS Tryz.underlying229 Tryz.underlying5 Tryz.underlying9 hf rfl (H.rowTrue 0 rfl)) rfl (by decide) fun a hf => ?_)
    refine pr 1 hf rfl rfl fun a hf => ?_
    obtain ⟨s', hs', hR1⟩ := bind_some hR1
    refine wl0 rfl (op_q hf (rq_scat hf rfl rfl hs') rfl (by decide) fun a hf => ?_)
    refine pr 1 hf rfl rfl fun a hf => ?_
    refine wl_end (then_n (reg (pr 1 hf rfl rfl fun a hf => ?_)))
    obtain ⟨q2, hq2, hR1⟩ := bind_some hR1
    refine wl0 rfl (op_q hf (rq_quo hf rfl rfl hq2) rfl (by decide) fun a hf => ?_)
    refine pr 1 hf rfl rfl fun a hf => ?_
    refine wl_end (blk_n ?_)
    have hf := hf.prune [0, 3] rfl
    have H := H.let [] [false] [] [] rfl rfl rfl rfl
    exact then_n ⟨(q2, s'), hR1, hf, H⟩
   ·refine wp_exit (then_x (then_x (blk_e (?_))))
    have hf := hf.prune [0, 3] rfl
    have H := H.let [] [] [] [] rfl rfl rfl rfl
    exact ⟨(k2, out'), (Option.some.inj hR1).symm, hf, H⟩
  rintro a w ⟨⟨k3, out3⟩, rfl, hf, H⟩
  dsimp only at hF
  refine then_n (sq (reg (pr 1 hf rfl rfl fun a hf => ?_)))
  obtain ⟨s2, hs2, hF⟩ := bind_some hF
  refine wl0 rfl (op_q hf (rq_scat hf rfl rfl hs2) rfl (by decide) fun a hf => ?_)
  refine pr 1 hf rfl rfl fun a hf => ?_
  refine wl_end (then_n (wp_ret (?_)))
  obtain rfl := Option.some.inj hF
  refine ret_1 (fn := Tryz.f199) (r := .tmp 2) hf rfl (rv_tmp hf rfl) ?_
  exact ⟨_, rfl, H.bel, mk_str⟩

/- loop.example/g00897/laws.markStringS -/
set_option maxHeartbeats 1000000 in
theorem laws_markStringS_ok {fu : Nat} {w0 : World} {S : Nat → Prop} {F : List Nat} {cs : List Value} {v1_ : Value} {a' : List ByteArray} {k' : Int} {r : Int × List ByteArray} (hO : GoTy.own w0 F cs a') (hn : F.Nodup) (h1 : VR w0 S v1_ k') (hF : laws_markStringS fu a' k' = some r) :
    Calls Tryz.prog 145 [(bif GoTy.agg (List ByteArray) then .agg cs.toArray else cs.headD undef), v1_].toArray w0 fun e w' => ∃ v, e = .returned v ∧ (Chg w0 w' F ∧ VR w' (fun _ => True) v r.1 ∧ ∃ F', GoTy.own w' F' cs r.2 ∧ Back w0 w' F F') := by
 obtain rfl := VR_int h1
 obtain ⟨A, c, rfl, hO⟩ := own_list hO
 have H := Mem.startG S hO hn
 obtain ⟨Fs, E, H, -⟩ := H.thaw rfl
 have H := H.rowSh 0 rfl
 refine enter Tryz.func145 rfl rfl (nle rfl) rfl fun a hf => ?_
 rw [laws_markStringS] at hF
 refine sq (reg (pr 1 hf rfl rfl fun a hf => ?_))
 refine wl_end (then_n (sq (sq (reg (pr 1 hf rfl rfl fun a hf => ?_)))))
 refine wl_end (then_n ?_)
 obtain ⟨out', hB1, hF⟩ := bind_some hF
 have hf := hf.prune [0, 1, 5] rfl
 have hf : Fr a 20 [(0, (.slice A a'.length c)), (1, (.int .i64 k')), (5, (.int .i64 0))] := by first | exact hf | (simp only [List.length_set] at hf; exact hf)
 have H := H.let [] [true] [] [] rfl rfl rfl rfl
 refine loopC (fun (s : List ByteArray × Int × Int) (a : Act) (w : World) => match s with | (a2, k2, i) => a2.length = a'.length ∧ Fr a 20 [(0, (.slice A a'.length c)), (1, (.int .i64 k2)), (5, (.int .i64 i))] ∧ Mem ⟨w0, F⟩ S [] [⟨.sh true, E, A, c, (a2 : List ByteArray)⟩] [] [] w) (fun k (s : List ByteArray × Int × Int) => laws_markStringS_L1 fu k s.1 s.2.1 s.2.2 = some out') (fun s => out' = s) (a', k', 0) fu hB1 ⟨rfl, hf, H⟩ (fun s h => by cases h) ?_ ?_
 ·rintro fk ⟨a2, k2, i⟩ a w hR1 hI
  replace hR1 : laws_markStringS_L1 fu (fk + 1) a2 k2 i = some out' := hR1
  rw [laws_markStringS_L1] at hR1
  obtain ⟨hlen, hf, H⟩ := hI
  have hf : Fr a 20 [(0, (.slice A a2.length c)), (1, (.int .i64 k2)), (5, (.int .i64 i))] := by rw [hlen]; exact hf
  refine sq (sq (reg (pr 4 hf rfl rfl fun a hf => ?_)))
  refine wl_end (then_n (iteB hR1 (fun hc hR1 => cd_t hf rfl hc ?_) fun hc hR1 => cd_f hf rfl hc ?_))
  ·refine wp_skip (then_n (sq (wp_block (sq (reg (pr 3 hf rfl rfl fun a hf => ?_))))))
   obtain ⟨y, hy, hR1⟩ := bind_some hR1
   refine wl0 rfl (op_call hf TF.cl199 rfl (by decide) (laws_markText_ok (S := fun _ => True) mk_int hy) fun v w a hp hf => ?_)
   obtain ⟨hb, hp⟩ := hp
   obtain rfl := VR_str hp
   have H := H.keep hb
   obtain ⟨e, he, hR1⟩ := bind_some hR1
   refine wl0 rfl (op_iaddrR hf H Tryz.underlying22 TF.sz9 0 rfl rfl rfl he (by decide) fun p o cs a hf hA hr hk => ?_)
   obtain rfl := hr
   refine wl0 rfl (op_storeR (e' := y) (o := o) (off := 0) hf H TF.sz9 0 rfl rfl rfl rfl rfl (nle rfl) rfl hA he (st_full rfl) fun w H => ?_)
   replace hf : Fr a 20 [(0, (.slice A a2.length c)), (1, (.int .i64 k2)), (5, (.int .i64 i)), (6, (.int .i64 i)), (7, (.slice A a2.length c)), (8, (.int .i64 (a2.length : Int))), (9, (.bool (decide (i < (a2.length : Int))))), (12, (.slice A a2.length c)), (13, (.int .i64 i)), (14, (.int .i64 k2)), (15, (.string y)), (16, (.pointer (some ⟨p, o + 0, none⟩)))] := hf.prune [0, 1, 5, 6, 7, 8, 9, 12, 13, 14, 15, 16] rfl
   replace hf : Fr a 20 [(0, (.slice A (a2.set (i).toNat y).length c)), (1, (.int .i64 k2)), (5, (.int .i64 i)), (6, (.int .i64 i)), (7, (.slice A (a2.set (i).toNat y).length c)), (8, (.int .i64 (a2.length : Int))), (9, (.bool (decide (i < (a2.length : Int))))), (12, (.slice A (a2.set (i).toNat y).length c)), (13, (.int .i64 i)), (14, (.int .i64 k2)), (15, (.string y)), (16, (.pointer (some ⟨p, o + 0, none⟩)))] := by simpa only [List.length_set, Nat.add_zero] using hf
   refine wl_end (then_n (reg (pr 3 hf rfl rfl fun a hf => ?_)))
   refine wl_end (blk_n (then_n (reg (pr 3 hf rfl rfl fun a hf => ?_))))
   have hf := hf.prune [0, 1, 5] rfl
   refine wl_end ?_
   have hf := hf.prune [0, 1, 5] rfl
   have hf : Fr a 20 [(0, (.slice A a'.length c)), (1, (.int .i64 (w64 (k2 + 1)))), (5, (.int .i64 (w64 (i + 1))))] := by first | exact hf | (simp only [List.length_set, hlen] at hf; exact hf)
   have H := H.let [] [true] [] [] rfl rfl rfl rfl
   exact then_n ⟨(a2.set (i).toNat y, w64 (k2 + 1), w64 (i + 1)), hR1, (by simp only [List.length_set, hlen]), hf, H⟩
  ·refine wp_exit (then_x (then_x (blk_e (?_))))
   have hf := hf.prune [0, 1, 5] rfl
   have hf : Fr a 20 [(0, (.slice A a'.length c)), (1, (.int .i64 k2)), (5, (.int .i64 i))] := by first | exact hf | (simp only [List.length_set, hlen] at hf; exact hf)
   have H := H.let [] [true] [] [] rfl rfl rfl rfl
   exact ⟨(a2, k2, i), (Option.some.inj hR1).symm, (by simp only [List.length_set, hlen]), hf, H⟩
 rintro a w ⟨⟨a3, k3, i2⟩, rfl, hlen, hf, H⟩
 try dsimp only at hlen
 have hf : Fr a 20 [(0, (.slice A a3.length c)), (1, (.int .i64 k3)), (5, (.int .i64 i2))] := by rw [hlen]; exact hf
 dsimp only at hF
 refine then_n (sq (reg (pr 2 hf rfl rfl fun a hf => ?_)))
 refine wl_end (then_n (wp_ret (?_)))
 have H := H.rowOwn 0 rfl rfl
 obtain ⟨F', H⟩ := H.freezeOwn 0 rfl
 rw [hlen] at H
 obtain rfl := Option.some.inj hF
 refine ret_1 (fn := Tryz.f145) (r := .tmp 4) hf rfl (rv_tmp hf rfl) ?_
 exact ⟨_, rfl, H.chg, mk_int, _, H.ownAt 0 rfl, H.back⟩

/- loop.example/g00897/laws.markFiberS -/
set_option maxHeartbeats 1000000 in
theorem laws_markFiberS_ok {fu : Nat} {w0 : World} {S : Nat → Prop} {F : List Nat} {cs : List Value} {v1_ : Value} {a' : List Fiber} {k' : Int} {r : Int × List Fiber} (hO : GoTy.own w0 F cs a') (hn : F.Nodup) (h1 : VR w0 S v1_ k') (hF : laws_markFiberS fu a' k' = some r) :
    Calls Tryz.prog 146 [(bif GoTy.agg (List Fiber) then .agg cs.toArray else cs.headD undef), v1_].toArray w0 fun e w' => ∃ v, e = .returned v ∧ (Chg w0 w' F ∧ VR w' (fun _ => True) v r.1 ∧ ∃ F', GoTy.own w' F' cs r.2 ∧ Back w0 w' F F') := by
 obtain rfl := VR_int h1
 obtain ⟨A, c, rfl, hO⟩ := own_list hO
 have H := Mem.startG S hO hn
 obtain ⟨Fs, E, H, -⟩ := H.thaw rfl
 have H := H.rowSh 0 rfl
 refine enter Tryz.func146 rfl rfl (nle rfl) rfl fun a hf => ?_
 rw [laws_markFiberS] at hF
 refine sq (reg (pr 1 hf rfl rfl fun a hf => ?_))
 refine wl_end (then_n (sq (sq (reg (pr 1 hf rfl rfl fun a hf => ?_)))))
 refine wl_end (then_n ?_)
 obtain ⟨out', hB1, hF⟩ := bind_some hF
 have hf := hf.prune [0, 1, 5] rfl
 have hf : Fr a 41 [(0, (.slice A a'.length c)), (1, (.int .i64 k')), (5, (.int .i64 0))] := by first | exact hf | (simp only [List.length_set] at hf; exact hf)
 have H := H.let [] [true] [] [] rfl rfl rfl rfl
 refine loopC (fun (s : List Fiber × Int × Int) (a : Act) (w : World) => match s with | (a2, k2, i) => a2.length = a'.length ∧ Fr a 41 [(0, (.slice A a'.length c)), (1, (.int .i64 k2)), (5, (.int .i64 i))] ∧ Mem ⟨w0, F⟩ S [] [⟨.sh true, E, A, c, (a2 : List Fiber)⟩] [] [] w) (fun k (s : List Fiber × Int × Int) => laws_markFiberS_L1 fu k s.1 s.2.1 s.2.2 = some out') (fun s => out' = s) (a', k', 0) fu hB1 ⟨rfl, hf, H⟩ (fun s h => by cases h) ?_ ?_
 ·rintro fk ⟨a2, k2, i⟩ a w hR1 hI
  replace hR1 : laws_markFiberS_L1 fu (fk + 1) a2 k2 i = some out' := hR1
  rw [laws_markFiberS_L1] at hR1
  obtain ⟨hlen, hf, H⟩ := hI
  have hf : Fr a 41 [(0, (.slice A a2.length c)), (1, (.int .i64 k2)), (5, (.int .i64 i))] := by rw [hlen]; exact hf
  refine sq (sq (reg (pr 4 hf rfl rfl fun a hf => ?_)))
  refine wl_end (then_n (iteB hR1 (fun hc hR1 => cd_t hf rfl hc ?_) fun hc hR1 => cd_f hf rfl hc ?_))
  ·refine wp_skip (then_n (sq (wp_block (sq (reg (pr 3 hf rfl rfl fun a hf => ?_))))))
   obtain ⟨e, he, hR1⟩ := bind_some hR1
   refine wl0 rfl (op_iaddrR hf H Tryz.underlying32 TF.sz120 0 rfl rfl rfl he (by decide) fun p o cs a hf hA hr hk => ?_)
   obtain rfl := Fiber_cells hr
   refine pr 1 hf rfl rfl fun a hf => ?_
   refine wl0 rfl (op_storeR (e' := ({ A := k2, B := e.B, Length := e.Length, Risk := e.Risk } : Fiber)) (o := o) (off := 0) hf H TF.sz3 0 rfl rfl rfl rfl rfl (nle rfl) rfl hA he (fun cs h => by obtain rfl := Fiber_cells h; exact Fiber_mk (x := ({ A := k2, B := e.B, Length := e.Length, Risk := e.Risk } : Fiber))) fun w H => ?_)
   replace hf : Fr a 41 [(0, (.slice A a2.length c)), (1, (.int .i64 k2)), (5, (.int .i64 i)), (6, (.int .i64 i)), (7, (.slice A a2.length c)), (8, (.int .i64 (a2.length : Int))), (9, (.bool (decide (i < (a2.length : Int))))), (12, (.slice A a2.length c)), (13, (.int .i64 i)), (14, (.int .i64 k2)), (15, (.pointer (some ⟨p, o + 0, none⟩))), (16, (.pointer (some ⟨p, o + 0, none⟩)))] := hf.prune [0, 1, 5, 6, 7, 8, 9, 12, 13, 14, 15, 16] rfl
   replace hf : Fr a 41 [(0, (.slice A (a2.set (i).toNat ({ A := k2, B := e.B, Length := e.Length, Risk := e.Risk } : Fiber)).length c)), (1, (.int .i64 k2)), (5, (.int .i64 i)), (6, (.int .i64 i)), (7, (.slice A (a2.set (i).toNat ({ A := k2, B := e.B, Length := e.Length, Risk := e.Risk } : Fiber)).length c)), (8, (.int .i64 (a2.length : Int))), (9, (.bool (decide (i < (a2.length : Int))))), (12, (.slice A (a2.set (i).toNat ({ A := k2, B := e.B, Length := e.Length, Risk := e.Risk } : Fiber)).length c)), (13, (.int .i64 i)), (14, (.int .i64 k2)), (15, (.pointer (some ⟨p, o + 0, none⟩))), (16, (.pointer (some ⟨p, o + 0, none⟩)))] := by simpa only [List.length_set, Nat.add_zero] using hf
   refine wl_end (then_n (sq (reg (pr 3 hf rfl rfl fun a hf => ?_))))
   refine wl_end (then_n (sq (reg (pr 3 hf rfl rfl fun a hf => ?_))))
   obtain ⟨e2, he2, hR1⟩ := bind_some hR1
   refine wl0 rfl (op_iaddrR hf H Tryz.underlying32 TF.sz120 0 rfl rfl rfl he2 (by decide) fun p2 o2 cs2 a hf hA2 hr2 hk2 => ?_)
   obtain rfl := Fiber_cells hr2
   refine pr 1 hf rfl rfl fun a hf => ?_
   refine wl0 rfl (op_storeR (e' := ({ A := e2.A, B := w64 (k2 + 1), Length := e2.Length, Risk := e2.Risk } : Fiber)) (o := o2) (off := 1) hf H TF.sz3 0 rfl rfl rfl rfl rfl (nle rfl) rfl hA2 he2 (fun cs h => by obtain rfl := Fiber_cells h; exact Fiber_mk (x := ({ A := e2.A, B := w64 (k2 + 1), Length := e2.Length, Risk := e2.Risk } : Fiber))) fun w H => ?_)
   replace hf : Fr a 41 [(0, (.slice A (a2.set (i).toNat ({ A := k2, B := e.B, Length := e.Length, Risk := e.Risk } : Fiber)).length c)), (1, (.int .i64 (w64 (k2 + 1)))), (5, (.int .i64 i)), (6, (.int .i64 i)), (7, (.slice A (a2.set (i).toNat ({ A := k2, B := e.B, Length := e.Length, Risk := e.Risk } : Fiber)).length c)), (8, (.int .i64 (a2.length : Int))), (9, (.bool (decide (i < (a2.length : Int))))), (12, (.slice A (a2.set (i).toNat ({ A := k2, B := e.B, Length := e.Length, Risk := e.Risk } : Fiber)).length c)), (13, (.int .i64 i)), (14, (.int .i64 k2)), (15, (.pointer (some ⟨p, o + 0, none⟩))), (16, (.pointer (some ⟨p, o + 0, none⟩))), (17, (.int .i64 k2)), (18, (.int .i64 (w64 (k2 + 1)))), (19, (.slice A (a2.set (i).toNat ({ A := k2, B := e.B, Length := e.Length, Risk := e.Risk } : Fiber)).length c)), (20, (.int .i64 i)), (21, (.int .i64 (w64 (k2 + 1)))), (22, (.pointer (some ⟨p2, o2 + 0, none⟩))), (23, (.pointer (some ⟨p2, o2 + 1, none⟩)))] := hf.prune [0, 1, 5, 6, 7, 8, 9, 12, 13, 14, 15, 16, 17, 18, 19, 20, 21, 22, 23] rfl
   replace hf : Fr a 41 [(0, (.slice A ((a2.set (i).toNat ({ A := k2, B := e.B, Length := e.Length, Risk := e.Risk } : Fiber)).set (i).toNat ({ A := e2.A, B := w64 (k2 + 1), Length := e2.Length, Risk := e2.Risk } : Fiber)).length c)), (1, (.int .i64 (w64 (k2 + 1)))), (5, (.int .i64 i)), (6, (.int .i64 i)), (7, (.slice A ((a2.set (i).toNat ({ A := k2, B := e.B, Length := e.Length, Risk := e.Risk } : Fiber)).set (i).toNat ({ A := e2.A, B := w64 (k2 + 1), Length := e2.Length, Risk := e2.Risk } : Fiber)).length c)), (8, (.int .i64 (a2.length : Int))), (9, (.bool (decide (i < (a2.length : Int))))), (12, (.slice A ((a2.set (i).toNat ({ A := k2, B := e.B, Length := e.Length, Risk := e.Risk } : Fiber)).set (i).toNat ({ A := e2.A, B := w64 (k2 + 1), Length := e2.Length, Risk := e2.Risk } : Fiber)).length c)), (13, (.int .i64 i)), (14, (.int .i64 k2)), (15, (.pointer (some ⟨p, o + 0, none⟩))), (16, (.pointer (some ⟨p, o + 0, none⟩))), (17, (.int .i64 k2)), (18, (.int .i64 (w64 (k2 + 1)))), (19, (.slice A ((a2.set (i).toNat ({ A := k2, B := e.B, Length := e.Length, Risk := e.Risk } : Fiber)).set (i).toNat ({ A := e2.A, B := w64 (k2 + 1), Length := e2.Length, Risk := e2.Risk } : Fiber)).length c)), (20, (.int .i64 i)), (21, (.int .i64 (w64 (k2 + 1)))), (22, (.pointer (some ⟨p2, o2 + 0, none⟩))), (23, (.pointer (some ⟨p2, o2 + 1, none⟩)))] := by simpa only [List.length_set, Nat.add_zero] using hf
   have hf := hf.prune [0, 1, 5] rfl
   refine wl_end (then_n (sq (reg (pr 3 hf rfl rfl fun a hf => ?_))))
   refine wl_end (then_n (sq (reg (pr 3 hf rfl rfl fun a hf => ?_))))
   obtain ⟨e3, he3, hR1⟩ := bind_some hR1
   refine wl0 rfl (op_iaddrR hf H Tryz.underlying32 TF.sz120 0 rfl rfl rfl he3 (by decide) fun p3 o3 cs3 a hf hA3 hr3 hk3 => ?_)
   obtain rfl := Fiber_cells hr3
   refine pr 1 hf rfl rfl fun a hf => ?_
   refine wl0 rfl (op_storeR (e' := ({ A := e3.A, B := e3.B, Length := w64 ((w64 (k2 + 1)) + 1), Risk := e3.Risk } : Fiber)) (o := o3) (off := 2) hf H TF.sz3 0 rfl rfl rfl rfl rfl (nle rfl) rfl hA3 he3 (fun cs h => by obtain rfl := Fiber_cells h; exact Fiber_mk (x := ({ A := e3.A, B := e3.B, Length := w64 ((w64 (k2 + 1)) + 1), Risk := e3.Risk } : Fiber))) fun w H => ?_)
   replace hf : Fr a 41 [(0, (.slice A ((a2.set (i).toNat ({ A := k2, B := e.B, Length := e.Length, Risk := e.Risk } : Fiber)).set (i).toNat ({ A := e2.A, B := w64 (k2 + 1), Length := e2.Length, Risk := e2.Risk } : Fiber)).length c)), (1, (.int .i64 (w64 ((w64 (k2 + 1)) + 1)))), (5, (.int .i64 i)), (24, (.int .i64 (w64 (k2 + 1)))), (25, (.int .i64 (w64 ((w64 (k2 + 1)) + 1)))), (26, (.slice A ((a2.set (i).toNat ({ A := k2, B := e.B, Length := e.Length, Risk := e.Risk } : Fiber)).set (i).toNat ({ A := e2.A, B := w64 (k2 + 1), Length := e2.Length, Risk := e2.Risk } : Fiber)).length c)), (27, (.int .i64 i)), (28, (.int .i64 (w64 ((w64 (k2 + 1)) + 1)))), (29, (.pointer (some ⟨p3, o3 + 0, none⟩))), (30, (.pointer (some ⟨p3, o3 + 2, none⟩)))] := hf.prune [0, 1, 5, 24, 25, 26, 27, 28, 29, 30] rfl
   replace hf : Fr a 41 [(0, (.slice A (((a2.set (i).toNat ({ A := k2, B := e.B, Length := e.Length, Risk := e.Risk } : Fiber)).set (i).toNat ({ A := e2.A, B := w64 (k2 + 1), Length := e2.Length, Risk := e2.Risk } : Fiber)).set (i).toNat ({ A := e3.A, B := e3.B, Length := w64 ((w64 (k2 + 1)) + 1), Risk := e3.Risk } : Fiber)).length c)), (1, (.int .i64 (w64 ((w64 (k2 + 1)) + 1)))), (5, (.int .i64 i)), (24, (.int .i64 (w64 (k2 + 1)))), (25, (.int .i64 (w64 ((w64 (k2 + 1)) + 1)))), (26, (.slice A (((a2.set (i).toNat ({ A := k2, B := e.B, Length := e.Length, Risk := e.Risk } : Fiber)).set (i).toNat ({ A := e2.A, B := w64 (k2 + 1), Length := e2.Length, Risk := e2.Risk } : Fiber)).set (i).toNat ({ A := e3.A, B := e3.B, Length := w64 ((w64 (k2 + 1)) + 1), Risk := e3.Risk } : Fiber)).length c)), (27, (.int .i64 i)), (28, (.int .i64 (w64 ((w64 (k2 + 1)) + 1)))), (29, (.pointer (some ⟨p3, o3 + 0, none⟩))), (30, (.pointer (some ⟨p3, o3 + 2, none⟩)))] := by simpa only [List.length_set, Nat.add_zero] using hf
   refine wl_end (then_n (sq (reg (pr 3 hf rfl rfl fun a hf => ?_))))
   refine wl_end (then_n (sq (reg (pr 3 hf rfl rfl fun a hf => ?_))))
   obtain ⟨e4, he4, hR1⟩ := bind_some hR1
   refine wl0 rfl (op_iaddrR hf H Tryz.underlying32 TF.sz120 0 rfl rfl rfl he4 (by decide) fun p4 o4 cs4 a hf hA4 hr4 hk4 => ?_)
   obtain rfl := Fiber_cells hr4
   refine pr 1 hf rfl rfl fun a hf => ?_
   refine wl0 rfl (op_storeR (e' := ({ A := e4.A, B := e4.B, Length := e4.Length, Risk := w64 ((w64 ((w64 (k2 + 1)) + 1)) + 1) } : Fiber)) (o := o4) (off := 3) hf H TF.sz3 0 rfl rfl rfl rfl rfl (nle rfl) rfl hA4 he4 (fun cs h => by obtain rfl := Fiber_cells h; exact Fiber_mk (x := ({ A := e4.A, B := e4.B, Length := e4.Length, Risk := w64 ((w64 ((w64 (k2 + 1)) + 1)) + 1) } : Fiber))) fun w H => ?_)
   replace hf : Fr a 41 [(0, (.slice A (((a2.set (i).toNat ({ A := k2, B := e.B, Length := e.Length, Risk := e.Risk } : Fiber)).set (i).toNat ({ A := e2.A, B := w64 (k2 + 1), Length := e2.Length, Risk := e2.Risk } : Fiber)).set (i).toNat ({ A := e3.A, B := e3.B, Length := w64 ((w64 (k2 + 1)) + 1), Risk := e3.Risk } : Fiber)).length c)), (1, (.int .i64 (w64 ((w64 ((w64 (k2 + 1)) + 1)) + 1)))), (5, (.int .i64 i)), (24, (.int .i64 (w64 (k2 + 1)))), (25, (.int .i64 (w64 ((w64 (k2 + 1)) + 1)))), (26, (.slice A (((a2.set (i).toNat ({ A := k2, B := e.B, Length := e.Length, Risk := e.Risk } : Fiber)).set (i).toNat ({ A := e2.A, B := w64 (k2 + 1), Length := e2.Length, Risk := e2.Risk } : Fiber)).set (i).toNat ({ A := e3.A, B := e3.B, Length := w64 ((w64 (k2 + 1)) + 1), Risk := e3.Risk } : Fiber)).length c)), (27, (.int .i64 i)), (28, (.int .i64 (w64 ((w64 (k2 + 1)) + 1)))), (29, (.pointer (some ⟨p3, o3 + 0, none⟩))), (30, (.pointer (some ⟨p3, o3 + 2, none⟩))), (31, (.int .i64 (w64 ((w64 (k2 + 1)) + 1)))), (32, (.int .i64 (w64 ((w64 ((w64 (k2 + 1)) + 1)) + 1)))), (33, (.slice A (((a2.set (i).toNat ({ A := k2, B := e.B, Length := e.Length, Risk := e.Risk } : Fiber)).set (i).toNat ({ A := e2.A, B := w64 (k2 + 1), Length := e2.Length, Risk := e2.Risk } : Fiber)).set (i).toNat ({ A := e3.A, B := e3.B, Length := w64 ((w64 (k2 + 1)) + 1), Risk := e3.Risk } : Fiber)).length c)), (34, (.int .i64 i)), (35, (.int .i64 (w64 ((w64 ((w64 (k2 + 1)) + 1)) + 1)))), (36, (.pointer (some ⟨p4, o4 + 0, none⟩))), (37, (.pointer (some ⟨p4, o4 + 3, none⟩)))] := hf.prune [0, 1, 5, 24, 25, 26, 27, 28, 29, 30, 31, 32, 33, 34, 35, 36, 37] rfl
   replace hf : Fr a 41 [(0, (.slice A ((((a2.set (i).toNat ({ A := k2, B := e.B, Length := e.Length, Risk := e.Risk } : Fiber)).set (i).toNat ({ A := e2.A, B := w64 (k2 + 1), Length := e2.Length, Risk := e2.Risk } : Fiber)).set (i).toNat ({ A := e3.A, B := e3.B, Length := w64 ((w64 (k2 + 1)) + 1), Risk := e3.Risk } : Fiber)).set (i).toNat ({ A := e4.A, B := e4.B, Length := e4.Length, Risk := w64 ((w64 ((w64 (k2 + 1)) + 1)) + 1) } : Fiber)).length c)), (1, (.int .i64 (w64 ((w64 ((w64 (k2 + 1)) + 1)) + 1)))), (5, (.int .i64 i)), (24, (.int .i64 (w64 (k2 + 1)))), (25, (.int .i64 (w64 ((w64 (k2 + 1)) + 1)))), (26, (.slice A ((((a2.set (i).toNat ({ A := k2, B := e.B, Length := e.Length, Risk := e.Risk } : Fiber)).set (i).toNat ({ A := e2.A, B := w64 (k2 + 1), Length := e2.Length, Risk := e2.Risk } : Fiber)).set (i).toNat ({ A := e3.A, B := e3.B, Length := w64 ((w64 (k2 + 1)) + 1), Risk := e3.Risk } : Fiber)).set (i).toNat ({ A := e4.A, B := e4.B, Length := e4.Length, Risk := w64 ((w64 ((w64 (k2 + 1)) + 1)) + 1) } : Fiber)).length c)), (27, (.int .i64 i)), (28, (.int .i64 (w64 ((w64 (k2 + 1)) + 1)))), (29, (.pointer (some ⟨p3, o3 + 0, none⟩))), (30, (.pointer (some ⟨p3, o3 + 2, none⟩))), (31, (.int .i64 (w64 ((w64 (k2 + 1)) + 1)))), (32, (.int .i64 (w64 ((w64 ((w64 (k2 + 1)) + 1)) + 1)))), (33, (.slice A ((((a2.set (i).toNat ({ A := k2, B := e.B, Length := e.Length, Risk := e.Risk } : Fiber)).set (i).toNat ({ A := e2.A, B := w64 (k2 + 1), Length := e2.Length, Risk := e2.Risk } : Fiber)).set (i).toNat ({ A := e3.A, B := e3.B, Length := w64 ((w64 (k2 + 1)) + 1), Risk := e3.Risk } : Fiber)).set (i).toNat ({ A := e4.A, B := e4.B, Length := e4.Length, Risk := w64 ((w64 ((w64 (k2 + 1)) + 1)) + 1) } : Fiber)).length c)), (34, (.int .i64 i)), (35, (.int .i64 (w64 ((w64 ((w64 (k2 + 1)) + 1)) + 1)))), (36, (.pointer (some ⟨p4, o4 + 0, none⟩))), (37, (.pointer (some ⟨p4, o4 + 3, none⟩)))] := by simpa only [List.length_set, Nat.add_zero] using hf
   have hf := hf.prune [0, 1, 5] rfl
   refine wl_end (then_n (reg (pr 3 hf rfl rfl fun a hf => ?_)))
   refine wl_end (blk_n (then_n (reg (pr 3 hf rfl rfl fun a hf => ?_))))
   refine wl_end ?_
   have hf := hf.prune [0, 1, 5] rfl
   have hf : Fr a 41 [(0, (.slice A a'.length c)), (1, (.int .i64 (w64 ((w64 ((w64 ((w64 (k2 + 1)) + 1)) + 1)) + 1)))), (5, (.int .i64 (w64 (i + 1))))] := by first | exact hf | (simp only [List.length_set, hlen] at hf; exact hf)
   have H := H.let [] [true] [] [] rfl rfl rfl rfl
   exact then_n ⟨((((a2.set (i).toNat ({ A := k2, B := e.B, Length := e.Length, Risk := e.Risk } : Fiber)).set (i).toNat ({ A := e2.A, B := w64 (k2 + 1), Length := e2.Length, Risk := e2.Risk } : Fiber)).set (i).toNat ({ A := e3.A, B := e3.B, Length := w64 ((w64 (k2 + 1)) + 1), Risk := e3.Risk } : Fiber)).set (i).toNat ({ A := e4.A, B := e4.B, Length := e4.Length, Risk := w64 ((w64 ((w64 (k2 + 1)) + 1)) + 1) } : Fiber), w64 ((w64 ((w64 ((w64 (k2 + 1)) + 1)) + 1)) + 1), w64 (i + 1)), hR1, (by simp only [List.length_set, hlen]), hf, H⟩
  ·refine wp_exit (then_x (then_x (blk_e (?_))))
   have hf := hf.prune [0, 1, 5] rfl
   have hf : Fr a 41 [(0, (.slice A a'.length c)), (1, (.int .i64 k2)), (5, (.int .i64 i))] := by first | exact hf | (simp only [List.length_set, hlen] at hf; exact hf)
   have H := H.let [] [true] [] [] rfl rfl rfl rfl
   exact ⟨(a2, k2, i), (Option.some.inj hR1).symm, (by simp only [List.length_set, hlen]), hf, H⟩
 rintro a w ⟨⟨a3, k3, i2⟩, rfl, hlen, hf, H⟩
 try dsimp only at hlen
 have hf : Fr a 41 [(0, (.slice A a3.length c)), (1, (.int .i64 k3)), (5, (.int .i64 i2))] := by rw [hlen]; exact hf
 dsimp only at hF
 refine then_n (sq (reg (pr 2 hf rfl rfl fun a hf => ?_)))
 refine wl_end (then_n (wp_ret (?_)))
 have H := H.rowOwn 0 rfl rfl
 obtain ⟨F', H⟩ := H.freezeOwn 0 rfl
 rw [hlen] at H
 obtain rfl := Option.some.inj hF
 refine ret_1 (fn := Tryz.f146) (r := .tmp 4) hf rfl (rv_tmp hf rfl) ?_
 exact ⟨_, rfl, H.chg, mk_int, _, H.ownAt 0 rfl, H.back⟩

/- loop.example/g00897/laws.markNetwork -/
set_option maxHeartbeats 1000000 in
theorem laws_markNetwork_ok {fu : Nat} {w0 : World} {S : Nat → Prop} {F : List Nat} {cs : List Value} {v1_ : Value} {a' : Network} {k' : Int} {r : Int × Network} (hO : GoTy.own w0 F cs a') (hn : F.Nodup) (h1 : VR w0 S v1_ k') (hF : laws_markNetwork fu a' k' = some r) :
    Calls Tryz.prog 79 [(bif GoTy.agg (Network) then .agg cs.toArray else cs.headD undef), v1_].toArray w0 fun e w' => ∃ v, e = .returned v ∧ (Chg w0 w' F ∧ VR w' (fun _ => True) v r.1 ∧ ∃ F', GoTy.own w' F' cs r.2 ∧ Back w0 w' F F') := by
 obtain rfl := VR_int h1
 obtain ⟨A1, c1, F1, A2, c2, F2, rfl, hFe, l1, l2⟩ := Network_own hO
 have H := Mem.startG S hO hn
 have H := H.recast (X := [(⟨F, MP.own F [(.slice A1 a'.Nodes.length c1), (.slice A2 a'.Fibers.length c2)] (a' : Network)⟩ : DI)]) (Y := [(⟨F1, MP.own F1 [(.slice A1 a'.Nodes.length c1)] (a'.Nodes : List ByteArray)⟩ : DI), (⟨F2, MP.own F2 [(.slice A2 a'.Fibers.length c2)] (a'.Fibers : List Fiber)⟩ : DI)]) (D := []) (List.Perm.of_eq (by simp [hFe])) fun _ => (ps1 l1 (ps1 l2 ps0))
 have H := H.lend 0 rfl
 have H := H.lend 1 rfl
 refine enter Tryz.func79 rfl rfl (nle rfl) rfl fun a hf => ?_
 rw [laws_markNetwork] at hF
 refine sq (reg (wl0 rfl (op_box hf H rfl rfl (by decide) fun b' a w hf H => ?_)))
 refine pr 1 hf rfl rfl fun a hf => ?_
 refine wl_end (then_n (sq (reg (pr 1 hf rfl rfl fun a hf => ?_))))
 refine wl0 rfl (op_q hf (rq_loadB hf H TF.ls22 0 rfl rfl rfl) rfl (by decide) fun a hf => ?_)
 refine pr 1 hf rfl rfl fun a hf => ?_
 obtain ⟨y, hy, hF⟩ := bind_some hF
 refine wl0 rfl (op_call hf TF.cl145 rfl (by decide) (laws_markStringS_ok (S := fun _ => True) (F := F1) (cs := [(.slice A1 a'.Nodes.length c1)]) (H.ownAt 0 rfl) H.diNd.1 mk_int hy) fun v w a hp hf => ?_)
 obtain ⟨hch, hv, F4, ho, hbk⟩ := hp
 obtain rfl := VR_int hv
 have H := H.wrote rfl hch ho hbk
 have H := H.lend 0 rfl
 have H := H.lend 1 rfl
 refine pr 1 hf rfl rfl fun a hf => ?_
 refine wl_end (then_n (sq (reg (pr 1 hf rfl rfl fun a hf => ?_))))
 refine wl0 rfl (op_q hf (rq_loadB hf H TF.ls32 0 rfl rfl rfl) rfl (by decide) fun a hf => ?_)
 refine pr 1 hf rfl rfl fun a hf => ?_
 have H := H.frontD 1 rfl
 obtain ⟨y2, hy2, hF⟩ := bind_some hF
 refine wl0 rfl (op_call hf TF.cl146 rfl (by decide) (laws_markFiberS_ok (S := fun _ => True) (F := F2) (cs := [(.slice A2 a'.Fibers.length c2)]) (H.ownAt 0 rfl) H.diNd.1 mk_int hy2) fun v2 w a hp2 hf => ?_)
 obtain ⟨hch2, hv2, F5, ho2, hbk2⟩ := hp2
 obtain rfl := VR_int hv2
 have H := H.wrote rfl hch2 ho2 hbk2
 have H := H.lend 0 rfl
 have H := H.lend 1 rfl
 refine pr 1 hf rfl rfl fun a hf => ?_
 refine wl_end (then_n (sq (reg (pr 2 hf rfl rfl fun a hf => ?_))))
 refine wl_end (then_n (wp_ret (?_)))
 have H := H.frontD 1 rfl
 have H := H.recast (X := [(⟨F4, MP.own F4 [(.slice A1 a'.Nodes.length c1)] (y.2 : List ByteArray)⟩ : DI), (⟨F5, MP.own F5 [(.slice A2 a'.Fibers.length c2)] (y2.2 : List Fiber)⟩ : DI)]) (Y := [(⟨(F4 ++ F5), MP.own (F4 ++ F5) [(.slice A1 a'.Nodes.length c1), (.slice A2 a'.Fibers.length c2)] (({ Nodes := y.2, Fibers := y2.2 } : Network) : Network)⟩ : DI)]) (List.Perm.of_eq (by simp)) fun _ => ps1 (Network_ownmk (x := ({ Nodes := y.2, Fibers := y2.2 } : Network)) (H.ownAt 0 rfl) (H.ownAt 1 rfl)) ps0
 obtain rfl := Option.some.inj hF
 refine ret_1 (fn := Tryz.f79) (r := .tmp 4) hf rfl (rv_tmp hf rfl) ?_
 exact ⟨_, rfl, H.chg, mk_int, _, H.ownAt 0 rfl, H.back⟩

/- loop.example/g00897/laws.markIntS -/
set_option maxHeartbeats 1000000 in
theorem laws_markIntS_ok {fu : Nat} {w0 : World} {S : Nat → Prop} {F : List Nat} {cs : List Value} {v1_ : Value} {a' : List Int} {k' : Int} {r : Int × List Int} (hO : GoTy.own w0 F cs a') (hn : F.Nodup) (h1 : VR w0 S v1_ k') (hF : laws_markIntS fu a' k' = some r) :
    Calls Tryz.prog 26 [(bif GoTy.agg (List Int) then .agg cs.toArray else cs.headD undef), v1_].toArray w0 fun e w' => ∃ v, e = .returned v ∧ (Chg w0 w' F ∧ VR w' (fun _ => True) v r.1 ∧ ∃ F', GoTy.own w' F' cs r.2 ∧ Back w0 w' F F') := by
 obtain rfl := VR_int h1
 obtain ⟨A, c, rfl, hO⟩ := own_list hO
 have H := Mem.startG S hO hn
 obtain ⟨Fs, E, H, -⟩ := H.thaw rfl
 have H := H.rowSh 0 rfl
 refine enter Tryz.func26 rfl rfl (nle rfl) rfl fun a hf => ?_
 rw [laws_markIntS] at hF
 refine sq (reg (pr 1 hf rfl rfl fun a hf => ?_))
 refine wl_end (then_n (sq (sq (reg (pr 1 hf rfl rfl fun a hf => ?_)))))
 refine wl_end (then_n ?_)
 obtain ⟨out', hB1, hF⟩ := bind_some hF
 have hf := hf.prune [0, 1, 5] rfl
 have hf : Fr a 19 [(0, (.slice A a'.length c)), (1, (.int .i64 k')), (5, (.int .i64 0))] := by first | exact hf | (simp only [List.length_set] at hf; exact hf)
 have H := H.let [] [true] [] [] rfl rfl rfl rfl
 refine loopC (fun (s : List Int × Int × Int) (a : Act) (w : World) => match s with | (a2, k2, i) => a2.length = a'.length ∧ Fr a 19 [(0, (.slice A a'.length c)), (1, (.int .i64 k2)), (5, (.int .i64 i))] ∧ Mem ⟨w0, F⟩ S [] [⟨.sh true, E, A, c, (a2 : List Int)⟩] [] [] w) (fun k (s : List Int × Int × Int) => laws_markIntS_L1 fu k s.1 s.2.1 s.2.2 = some out') (fun s => out' = s) (a', k', 0) fu hB1 ⟨rfl, hf, H⟩ (fun s h => by cases h) ?_ ?_
 ·rintro fk ⟨a2, k2, i⟩ a w hR1 hI
  replace hR1 : laws_markIntS_L1 fu (fk + 1) a2 k2 i = some out' := hR1
  rw [laws_markIntS_L1] at hR1
  obtain ⟨hlen, hf, H⟩ := hI
  have hf : Fr a 19 [(0, (.slice A a2.length c)), (1, (.int .i64 k2)), (5, (.int .i64 i))] := by rw [hlen]; exact hf
  refine sq (sq (reg (pr 4 hf rfl rfl fun a hf => ?_)))
  refine wl_end (then_n (iteB hR1 (fun hc hR1 => cd_t hf rfl hc ?_) fun hc hR1 => cd_f hf rfl hc ?_))
  ·refine wp_skip (then_n (sq (wp_block (sq (reg (pr 3 hf rfl rfl fun a hf => ?_))))))
   obtain ⟨e, he, hR1⟩ := bind_some hR1
   refine wl0 rfl (op_iaddrR hf H Tryz.underlying44 TF.sz3 0 rfl rfl rfl he (by decide) fun p o cs a hf hA hr hk => ?_)
   obtain rfl := hr
   refine wl0 rfl (op_storeR (e' := k2) (o := o) (off := 0) hf H TF.sz3 0 rfl rfl rfl rfl rfl (nle rfl) rfl hA he (st_full rfl) fun w H => ?_)
   replace hf : Fr a 19 [(0, (.slice A a2.length c)), (1, (.int .i64 k2)), (5, (.int .i64 i)), (6, (.int .i64 i)), (7, (.slice A a2.length c)), (8, (.int .i64 (a2.length : Int))), (9, (.bool (decide (i < (a2.length : Int))))), (12, (.slice A a2.length c)), (13, (.int .i64 i)), (14, (.int .i64 k2)), (15, (.pointer (some ⟨p, o + 0, none⟩)))] := hf.prune [0, 1, 5, 6, 7, 8, 9, 12, 13, 14, 15] rfl
   replace hf : Fr a 19 [(0, (.slice A (a2.set (i).toNat k2).length c)), (1, (.int .i64 k2)), (5, (.int .i64 i)), (6, (.int .i64 i)), (7, (.slice A (a2.set (i).toNat k2).length c)), (8, (.int .i64 (a2.length : Int))), (9, (.bool (decide (i < (a2.length : Int))))), (12, (.slice A (a2.set (i).toNat k2).length c)), (13, (.int .i64 i)), (14, (.int .i64 k2)), (15, (.pointer (some ⟨p, o + 0, none⟩)))] := by simpa only [List.length_set, Nat.add_zero] using hf
   refine wl_end (then_n (reg (pr 3 hf rfl rfl fun a hf => ?_)))
   refine wl_end (blk_n (then_n (reg (pr 3 hf rfl rfl fun a hf => ?_))))
   refine wl_end ?_
   have hf := hf.prune [0, 1, 5] rfl
   have hf : Fr a 19 [(0, (.slice A a'.length c)), (1, (.int .i64 (w64 (k2 + 1)))), (5, (.int .i64 (w64 (i + 1))))] := by first | exact hf | (simp only [List.length_set, hlen] at hf; exact hf)
   have H := H.let [] [true] [] [] rfl rfl rfl rfl
   exact then_n ⟨(a2.set (i).toNat k2, w64 (k2 + 1), w64 (i + 1)), hR1, (by simp only [List.length_set, hlen]), hf, H⟩
  ·refine wp_exit (then_x (then_x (blk_e (?_))))
   have hf := hf.prune [0, 1, 5] rfl
   have hf : Fr a 19 [(0, (.slice A a'.length c)), (1, (.int .i64 k2)), (5, (.int .i64 i))] := by first | exact hf | (simp only [List.length_set, hlen] at hf; exact hf)
   have H := H.let [] [true] [] [] rfl rfl rfl rfl
   exact ⟨(a2, k2, i), (Option.some.inj hR1).symm, (by simp only [List.length_set, hlen]), hf, H⟩
 rintro a w ⟨⟨a3, k3, i2⟩, rfl, hlen, hf, H⟩
 try dsimp only at hlen
 have hf : Fr a 19 [(0, (.slice A a3.length c)), (1, (.int .i64 k3)), (5, (.int .i64 i2))] := by rw [hlen]; exact hf
 dsimp only at hF
 refine then_n (sq (reg (pr 2 hf rfl rfl fun a hf => ?_)))
 refine wl_end (then_n (wp_ret (?_)))
 have H := H.rowOwn 0 rfl rfl
 obtain ⟨F', H⟩ := H.freezeOwn 0 rfl
 rw [hlen] at H
 obtain rfl := Option.some.inj hF
 refine ret_1 (fn := Tryz.f26) (r := .tmp 4) hf rfl (rv_tmp hf rfl) ?_
 exact ⟨_, rfl, H.chg, mk_int, _, H.ownAt 0 rfl, H.back⟩

/- loop.example/g00897/laws.markLightS -/
set_option maxHeartbeats 1000000 in
theorem laws_markLightS_ok {fu : Nat} {w0 : World} {S : Nat → Prop} {F : List Nat} {cs : List Value} {v1_ : Value} {a' : List Light} {k' : Int} {r : Int × List Light} (hO : GoTy.own w0 F cs a') (hn : F.Nodup) (h1 : VR w0 S v1_ k') (hF : laws_markLightS fu a' k' = some r) :
    Calls Tryz.prog 80 [(bif GoTy.agg (List Light) then .agg cs.toArray else cs.headD undef), v1_].toArray w0 fun e w' => ∃ v, e = .returned v ∧ (Chg w0 w' F ∧ VR w' (fun _ => True) v r.1 ∧ ∃ F', GoTy.own w' F' cs r.2 ∧ Back w0 w' F F') := by
 obtain rfl := VR_int h1
 obtain ⟨A, c, rfl, hO⟩ := own_list hO
 have H := Mem.startG S hO hn
 obtain ⟨Fs, E, H, -⟩ := H.thaw rfl
 refine enter Tryz.func80 rfl rfl (nle rfl) rfl fun a hf => ?_
 rw [laws_markLightS] at hF
 refine sq (reg (pr 1 hf rfl rfl fun a hf => ?_))
 refine wl_end (then_n (sq (sq (reg (pr 1 hf rfl rfl fun a hf => ?_)))))
 refine wl_end (then_n ?_)
 obtain ⟨out', hB1, hF⟩ := bind_some hF
 have hf := hf.prune [0, 1, 5] rfl
 have hf : Fr a 52 [(0, (.slice A a'.length c)), (1, (.int .i64 k')), (5, (.int .i64 0))] := by first | exact hf | (simp only [List.length_set] at hf; exact hf)
 have H := H.let [] [true] [] [] rfl rfl rfl rfl
 refine loopC (fun (s : List Light × Int × Int) (a : Act) (w : World) => match s with | (a2, k2, i) => ∃ (Fs2 : List (List Nat)), a2.length = a'.length ∧ Fr a 52 [(0, (.slice A a'.length c)), (1, (.int .i64 k2)), (5, (.int .i64 i))] ∧ Mem ⟨w0, F⟩ S [] [⟨.ow Fs2, E, A, c, (a2 : List Light)⟩] [] [] w) (fun k (s : List Light × Int × Int) => laws_markLightS_L1 fu k s.1 s.2.1 s.2.2 = some out') (fun s => out' = s) (a', k', 0) fu hB1 ⟨Fs, rfl, hf, H⟩ (fun s h => by cases h) ?_ ?_
 ·rintro fk ⟨a2, k2, i⟩ a w hR1 hI
  replace hR1 : laws_markLightS_L1 fu (fk + 1) a2 k2 i = some out' := hR1
  rw [laws_markLightS_L1] at hR1
  obtain ⟨Fs2, hlen, hf, H⟩ := hI
  have hf : Fr a 52 [(0, (.slice A a2.length c)), (1, (.int .i64 k2)), (5, (.int .i64 i))] := by rw [hlen]; exact hf
  refine sq (sq (reg (pr 4 hf rfl rfl fun a hf => ?_)))
  refine wl_end (then_n (iteB hR1 (fun hc hR1 => cd_t hf rfl hc ?_) fun hc hR1 => cd_f hf rfl hc ?_))
  ·refine wp_skip (then_n (sq (wp_block (sq (reg (pr 3 hf rfl rfl fun a hf => ?_))))))
   obtain ⟨e, he, hR1⟩ := bind_some hR1
   refine wl0 rfl (op_iaddrR hf H Tryz.underlying35 TF.sz112 0 rfl rfl rfl he (by decide) fun p o cs a hf hA hr hk => ?_)
   have hrk := hr
   obtain ⟨A2, c2, rfl, hl⟩ := Light_cells hr
   have H := H.push (true, MP.val [(.slice A2 e.Route.Fibers.length c2)] e.Route.Fibers) hl
   refine pr 1 hf rfl rfl fun a hf => ?_
   refine wl0 rfl (op_storeR (e' := ({ Id := k2, Route := e.Route, Block := e.Block } : Light)) (o := o) (off := 0) hf H TF.sz3 0 rfl rfl rfl rfl rfl (nle rfl) rfl hA he (st_own fun F cs h => by obtain ⟨A0, c0, F0, rfl, rfl, l0⟩ := Light_own h; exact Light_ownmk (x := ({ Id := k2, Route := e.Route, Block := e.Block } : Light)) l0) fun w H => ?_)
   replace hf : Fr a 52 [(0, (.slice A a2.length c)), (1, (.int .i64 k2)), (5, (.int .i64 i)), (6, (.int .i64 i)), (7, (.slice A a2.length c)), (8, (.int .i64 (a2.length : Int))), (9, (.bool (decide (i < (a2.length : Int))))), (12, (.slice A a2.length c)), (13, (.int .i64 i)), (14, (.int .i64 k2)), (15, (.pointer (some ⟨p, o + 0, none⟩))), (16, (.pointer (some ⟨p, o + 0, none⟩)))] := hf.prune [0, 1, 5, 6, 7, 8, 9, 12, 13, 14, 15, 16] rfl
   replace hf : Fr a 52 [(0, (.slice A (a2.set (i).toNat ({ Id := k2, Route := e.Route, Block := e.Block } : Light)).length c)), (1, (.int .i64 k2)), (5, (.int .i64 i)), (6, (.int .i64 i)), (7, (.slice A (a2.set (i).toNat ({ Id := k2, Route := e.Route, Block := e.Block } : Light)).length c)), (8, (.int .i64 (a2.length : Int))), (9, (.bool (decide (i < (a2.length : Int))))), (12, (.slice A (a2.set (i).toNat ({ Id := k2, Route := e.Route, Block := e.Block } : Light)).length c)), (13, (.int .i64 i)), (14, (.int .i64 k2)), (15, (.pointer (some ⟨p, o + 0, none⟩))), (16, (.pointer (some ⟨p, o + 0, none⟩)))] := by simpa only [List.length_set, Nat.add_zero] using hf
   refine wl_end (then_n (sq (reg (pr 3 hf rfl rfl fun a hf => ?_))))
   refine wl_end (then_n (sq (reg (pr 3 hf rfl rfl fun a hf => ?_))))
   obtain ⟨e2, he2, hR1⟩ := bind_some hR1
   refine wl0 rfl (op_iaddrR hf H Tryz.underlying35 TF.sz112 0 rfl rfl rfl he2 (by decide) fun p2 o2 cs2 a hf hA2 hr2 hk2 => ?_)
   have hrk2 := hr2
   obtain ⟨A3, c3, rfl, hl2⟩ := Light_cells hr2
   have H := H.push (true, MP.val [(.slice A3 e2.Route.Fibers.length c3)] e2.Route.Fibers) hl2
   refine pr 2 hf rfl rfl fun a hf => ?_
   refine wl0 rfl (op_storeR (e' := ({ Id := e2.Id, Route := ({ Start := w64 (k2 + 1), Fibers := e2.Route.Fibers } : Route), Block := e2.Block } : Light)) (o := o2) (off := 1) hf H TF.sz3 0 rfl rfl rfl rfl rfl (nle rfl) rfl hA2 he2 (st_own fun F cs h => by obtain ⟨A0, c0, F0, rfl, rfl, l0⟩ := Light_own h; exact Light_ownmk (x := ({ Id := e2.Id, Route := ({ Start := w64 (k2 + 1), Fibers := e2.Route.Fibers } : Route), Block := e2.Block } : Light)) l0) fun w H => ?_)
   replace hf : Fr a 52 [(0, (.slice A (a2.set (i).toNat ({ Id := k2, Route := e.Route, Block := e.Block } : Light)).length c)), (1, (.int .i64 (w64 (k2 + 1)))), (5, (.int .i64 i)), (6, (.int .i64 i)), (7, (.slice A (a2.set (i).toNat ({ Id := k2, Route := e.Route, Block := e.Block } : Light)).length c)), (8, (.int .i64 (a2.length : Int))), (9, (.bool (decide (i < (a2.length : Int))))), (12, (.slice A (a2.set (i).toNat ({ Id := k2, Route := e.Route, Block := e.Block } : Light)).length c)), (13, (.int .i64 i)), (14, (.int .i64 k2)), (15, (.pointer (some ⟨p, o + 0, none⟩))), (16, (.pointer (some ⟨p, o + 0, none⟩))), (17, (.int .i64 k2)), (18, (.int .i64 (w64 (k2 + 1)))), (19, (.slice A (a2.set (i).toNat ({ Id := k2, Route := e.Route, Block := e.Block } : Light)).length c)), (20, (.int .i64 i)), (21, (.int .i64 (w64 (k2 + 1)))), (22, (.pointer (some ⟨p2, o2 + 0, none⟩))), (23, (.pointer (some ⟨p2, o2 + 1, none⟩))), (24, (.pointer (some ⟨p2, o2 + 1, none⟩)))] := hf.prune [0, 1, 5, 6, 7, 8, 9, 12, 13, 14, 15, 16, 17, 18, 19, 20, 21, 22, 23, 24] rfl
   replace hf : Fr a 52 [(0, (.slice A ((a2.set (i).toNat ({ Id := k2, Route := e.Route, Block := e.Block } : Light)).set (i).toNat ({ Id := e2.Id, Route := ({ Start := w64 (k2 + 1), Fibers := e2.Route.Fibers } : Route), Block := e2.Block } : Light)).length c)), (1, (.int .i64 (w64 (k2 + 1)))), (5, (.int .i64 i)), (6, (.int .i64 i)), (7, (.slice A ((a2.set (i).toNat ({ Id := k2, Route := e.Route, Block := e.Block } : Light)).set (i).toNat ({ Id := e2.Id, Route := ({ Start := w64 (k2 + 1), Fibers := e2.Route.Fibers } : Route), Block := e2.Block } : Light)).length c)), (8, (.int .i64 (a2.length : Int))), (9, (.bool (decide (i < (a2.length : Int))))), (12, (.slice A ((a2.set (i).toNat ({ Id := k2, Route := e.Route, Block := e.Block } : Light)).set (i).toNat ({ Id := e2.Id, Route := ({ Start := w64 (k2 + 1), Fibers := e2.Route.Fibers } : Route), Block := e2.Block } : Light)).length c)), (13, (.int .i64 i)), (14, (.int .i64 k2)), (15, (.pointer (some ⟨p, o + 0, none⟩))), (16, (.pointer (some ⟨p, o + 0, none⟩))), (17, (.int .i64 k2)), (18, (.int .i64 (w64 (k2 + 1)))), (19, (.slice A ((a2.set (i).toNat ({ Id := k2, Route := e.Route, Block := e.Block } : Light)).set (i).toNat ({ Id := e2.Id, Route := ({ Start := w64 (k2 + 1), Fibers := e2.Route.Fibers } : Route), Block := e2.Block } : Light)).length c)), (20, (.int .i64 i)), (21, (.int .i64 (w64 (k2 + 1)))), (22, (.pointer (some ⟨p2, o2 + 0, none⟩))), (23, (.pointer (some ⟨p2, o2 + 1, none⟩))), (24, (.pointer (some ⟨p2, o2 + 1, none⟩)))] := by simpa only [List.length_set, Nat.add_zero] using hf
   have hf := hf.prune [0, 1, 5] rfl
   refine wl_end (then_n (sq (reg (pr 3 hf rfl rfl fun a hf => ?_))))
   refine wl_end (then_n (sq (reg (pr 2 hf rfl rfl fun a hf => ?_))))
   obtain ⟨e3, he3, hR1⟩ := bind_some hR1
   refine wl0 rfl (op_iaddrR hf H Tryz.underlying35 TF.sz112 0 rfl rfl rfl he3 (by decide) fun p3 o3 cs3 a hf hA3 hr3 hk3 => ?_)
   have hrk3 := hr3
   obtain ⟨A4, c4, rfl, hl3⟩ := Light_cells hr3
   have H := H.push (true, MP.val [(.slice A4 e3.Route.Fibers.length c4)] e3.Route.Fibers) hl3
   refine pr 2 hf rfl rfl fun a hf => ?_
   refine wl0 rfl (op_q hf (rq_load1 hf TF.ls44 rfl (hk3 2 _ rfl)) rfl (by decide) fun a hf => ?_)
   refine pr 1 hf rfl rfl fun a hf => ?_
   obtain ⟨y, hy, hR1⟩ := bind_some hR1
   obtain ⟨F2, hO, hNd, hnx⟩ := H.mutEl rfl he3 hA3 hrk3 hk3 Light_lens_Route_Fibers rfl
   refine wl0 rfl (op_call hf TF.cl26 rfl (by decide) (laws_markIntS_ok (S := fun _ => True) (cs := [(.slice A4 e3.Route.Fibers.length c4)]) hO hNd mk_int hy) fun v w a hp hf => ?_)
   obtain ⟨hch, hv, F3, ho, hbk⟩ := hp
   obtain rfl := VR_int hv
   obtain ⟨Fs3, H⟩ := hnx _ _ _ hch ho hbk
   replace hf : Fr a 52 [(0, (.slice A ((a2.set (i).toNat ({ Id := k2, Route := e.Route, Block := e.Block } : Light)).set (i).toNat ({ Id := e2.Id, Route := ({ Start := w64 (k2 + 1), Fibers := e2.Route.Fibers } : Route), Block := e2.Block } : Light)).length c)), (1, (.int .i64 (w64 ((w64 (k2 + 1)) + 1)))), (5, (.int .i64 i)), (25, (.int .i64 (w64 (k2 + 1)))), (26, (.int .i64 (w64 ((w64 (k2 + 1)) + 1)))), (27, (.slice A ((a2.set (i).toNat ({ Id := k2, Route := e.Route, Block := e.Block } : Light)).set (i).toNat ({ Id := e2.Id, Route := ({ Start := w64 (k2 + 1), Fibers := e2.Route.Fibers } : Route), Block := e2.Block } : Light)).length c)), (28, (.int .i64 i)), (29, (.pointer (some ⟨p3, o3 + 0, none⟩))), (30, (.pointer (some ⟨p3, o3 + 1, none⟩))), (31, (.pointer (some ⟨p3, o3 + 2, none⟩))), (32, (.slice A4 e3.Route.Fibers.length c4)), (33, (.int .i64 (w64 ((w64 (k2 + 1)) + 1)))), (34, (.int .i64 y.1))] := hf.prune [0, 1, 5, 25, 26, 27, 28, 29, 30, 31, 32, 33, 34] rfl
   replace hf : Fr a 52 [(0, (.slice A (((a2.set (i).toNat ({ Id := k2, Route := e.Route, Block := e.Block } : Light)).set (i).toNat ({ Id := e2.Id, Route := ({ Start := w64 (k2 + 1), Fibers := e2.Route.Fibers } : Route), Block := e2.Block } : Light)).set (i).toNat ({ e3 with Route := { e3.Route with Fibers := y.2 } })).length c)), (1, (.int .i64 (w64 ((w64 (k2 + 1)) + 1)))), (5, (.int .i64 i)), (25, (.int .i64 (w64 (k2 + 1)))), (26, (.int .i64 (w64 ((w64 (k2 + 1)) + 1)))), (27, (.slice A (((a2.set (i).toNat ({ Id := k2, Route := e.Route, Block := e.Block } : Light)).set (i).toNat ({ Id := e2.Id, Route := ({ Start := w64 (k2 + 1), Fibers := e2.Route.Fibers } : Route), Block := e2.Block } : Light)).set (i).toNat ({ e3 with Route := { e3.Route with Fibers := y.2 } })).length c)), (28, (.int .i64 i)), (29, (.pointer (some ⟨p3, o3 + 0, none⟩))), (30, (.pointer (some ⟨p3, o3 + 1, none⟩))), (31, (.pointer (some ⟨p3, o3 + 2, none⟩))), (32, (.slice A4 e3.Route.Fibers.length c4)), (33, (.int .i64 (w64 ((w64 (k2 + 1)) + 1)))), (34, (.int .i64 y.1))] := by simpa only [List.length_set, Nat.add_zero] using hf
   refine pr 1 hf rfl rfl fun a hf => ?_
   refine wl_end (then_n (sq (reg (pr 3 hf rfl rfl fun a hf => ?_))))
   obtain ⟨e4, he4, hR1⟩ := bind_some hR1
   refine wl0 rfl (op_iaddrR hf H Tryz.underlying35 TF.sz112 0 rfl rfl rfl he4 (by decide) fun p4 o4 cs4 a hf hA4 hr4 hk4 => ?_)
   have hrk4 := hr4
   obtain ⟨A5, c5, rfl, hl4⟩ := Light_cells hr4
   have H := H.push (true, MP.val [(.slice A5 e4.Route.Fibers.length c5)] e4.Route.Fibers) hl4
   refine pr 2 hf rfl rfl fun a hf => ?_
   refine wl0 rfl (op_storeR (e' := ({ Id := e4.Id, Route := e4.Route, Block := ({ First := y.1, Count := e4.Block.Count } : Block) } : Light)) (o := o4) (off := 3) hf H TF.sz3 0 rfl rfl rfl rfl rfl (nle rfl) rfl hA4 he4 (st_own fun F cs h => by obtain ⟨A0, c0, F0, rfl, rfl, l0⟩ := Light_own h; exact Light_ownmk (x := ({ Id := e4.Id, Route := e4.Route, Block := ({ First := y.1, Count := e4.Block.Count } : Block) } : Light)) l0) fun w H => ?_)
   replace hf : Fr a 52 [(0, (.slice A (((a2.set (i).toNat ({ Id := k2, Route := e.Route, Block := e.Block } : Light)).set (i).toNat ({ Id := e2.Id, Route := ({ Start := w64 (k2 + 1), Fibers := e2.Route.Fibers } : Route), Block := e2.Block } : Light)).set (i).toNat ({ e3 with Route := { e3.Route with Fibers := y.2 } })).length c)), (1, (.int .i64 y.1)), (5, (.int .i64 i)), (25, (.int .i64 (w64 (k2 + 1)))), (26, (.int .i64 (w64 ((w64 (k2 + 1)) + 1)))), (27, (.slice A (((a2.set (i).toNat ({ Id := k2, Route := e.Route, Block := e.Block } : Light)).set (i).toNat ({ Id := e2.Id, Route := ({ Start := w64 (k2 + 1), Fibers := e2.Route.Fibers } : Route), Block := e2.Block } : Light)).set (i).toNat ({ e3 with Route := { e3.Route with Fibers := y.2 } })).length c)), (28, (.int .i64 i)), (29, (.pointer (some ⟨p3, o3 + 0, none⟩))), (30, (.pointer (some ⟨p3, o3 + 1, none⟩))), (31, (.pointer (some ⟨p3, o3 + 2, none⟩))), (32, (.slice A4 e3.Route.Fibers.length c4)), (33, (.int .i64 (w64 ((w64 (k2 + 1)) + 1)))), (34, (.int .i64 y.1)), (35, (.slice A (((a2.set (i).toNat ({ Id := k2, Route := e.Route, Block := e.Block } : Light)).set (i).toNat ({ Id := e2.Id, Route := ({ Start := w64 (k2 + 1), Fibers := e2.Route.Fibers } : Route), Block := e2.Block } : Light)).set (i).toNat ({ e3 with Route := { e3.Route with Fibers := y.2 } })).length c)), (36, (.int .i64 i)), (37, (.int .i64 y.1)), (38, (.pointer (some ⟨p4, o4 + 0, none⟩))), (39, (.pointer (some ⟨p4, o4 + 3, none⟩))), (40, (.pointer (some ⟨p4, o4 + 3, none⟩)))] := hf.prune [0, 1, 5, 25, 26, 27, 28, 29, 30, 31, 32, 33, 34, 35, 36, 37, 38, 39, 40] rfl
   replace hf : Fr a 52 [(0, (.slice A ((((a2.set (i).toNat ({ Id := k2, Route := e.Route, Block := e.Block } : Light)).set (i).toNat ({ Id := e2.Id, Route := ({ Start := w64 (k2 + 1), Fibers := e2.Route.Fibers } : Route), Block := e2.Block } : Light)).set (i).toNat ({ e3 with Route := { e3.Route with Fibers := y.2 } })).set (i).toNat ({ Id := e4.Id, Route := e4.Route, Block := ({ First := y.1, Count := e4.Block.Count } : Block) } : Light)).length c)), (1, (.int .i64 y.1)), (5, (.int .i64 i)), (25, (.int .i64 (w64 (k2 + 1)))), (26, (.int .i64 (w64 ((w64 (k2 + 1)) + 1)))), (27, (.slice A ((((a2.set (i).toNat ({ Id := k2, Route := e.Route, Block := e.Block } : Light)).set (i).toNat ({ Id := e2.Id, Route := ({ Start := w64 (k2 + 1), Fibers := e2.Route.Fibers } : Route), Block := e2.Block } : Light)).set (i).toNat ({ e3 with Route := { e3.Route with Fibers := y.2 } })).set (i).toNat ({ Id := e4.Id, Route := e4.Route, Block := ({ First := y.1, Count := e4.Block.Count } : Block) } : Light)).length c)), (28, (.int .i64 i)), (29, (.pointer (some ⟨p3, o3 + 0, none⟩))), (30, (.pointer (some ⟨p3, o3 + 1, none⟩))), (31, (.pointer (some ⟨p3, o3 + 2, none⟩))), (32, (.slice A4 e3.Route.Fibers.length c4)), (33, (.int .i64 (w64 ((w64 (k2 + 1)) + 1)))), (34, (.int .i64 y.1)), (35, (.slice A ((((a2.set (i).toNat ({ Id := k2, Route := e.Route, Block := e.Block } : Light)).set (i).toNat ({ Id := e2.Id, Route := ({ Start := w64 (k2 + 1), Fibers := e2.Route.Fibers } : Route), Block := e2.Block } : Light)).set (i).toNat ({ e3 with Route := { e3.Route with Fibers := y.2 } })).set (i).toNat ({ Id := e4.Id, Route := e4.Route, Block := ({ First := y.1, Count := e4.Block.Count } : Block) } : Light)).length c)), (36, (.int .i64 i)), (37, (.int .i64 y.1)), (38, (.pointer (some ⟨p4, o4 + 0, none⟩))), (39, (.pointer (some ⟨p4, o4 + 3, none⟩))), (40, (.pointer (some ⟨p4, o4 + 3, none⟩)))] := by simpa only [List.length_set, Nat.add_zero] using hf
   have hf := hf.prune [0, 1, 5] rfl
   refine wl_end (then_n (sq (reg (pr 3 hf rfl rfl fun a hf => ?_))))
   refine wl_end (then_n (sq (reg (pr 3 hf rfl rfl fun a hf => ?_))))
   obtain ⟨e5, he5, hR1⟩ := bind_some hR1
   refine wl0 rfl (op_iaddrR hf H Tryz.underlying35 TF.sz112 0 rfl rfl rfl he5 (by decide) fun p5 o5 cs5 a hf hA5 hr5 hk5 => ?_)
   have hrk5 := hr5
   obtain ⟨A6, c6, rfl, hl5⟩ := Light_cells hr5
   have H := H.push (true, MP.val [(.slice A6 e5.Route.Fibers.length c6)] e5.Route.Fibers) hl5
   refine pr 2 hf rfl rfl fun a hf => ?_
   refine wl0 rfl (op_storeR (e' := ({ Id := e5.Id, Route := e5.Route, Block := ({ First := e5.Block.First, Count := w64 (y.1 + 1) } : Block) } : Light)) (o := o5) (off := 4) hf H TF.sz3 0 rfl rfl rfl rfl rfl (nle rfl) rfl hA5 he5 (st_own fun F cs h => by obtain ⟨A0, c0, F0, rfl, rfl, l0⟩ := Light_own h; exact Light_ownmk (x := ({ Id := e5.Id, Route := e5.Route, Block := ({ First := e5.Block.First, Count := w64 (y.1 + 1) } : Block) } : Light)) l0) fun w H => ?_)
   replace hf : Fr a 52 [(0, (.slice A ((((a2.set (i).toNat ({ Id := k2, Route := e.Route, Block := e.Block } : Light)).set (i).toNat ({ Id := e2.Id, Route := ({ Start := w64 (k2 + 1), Fibers := e2.Route.Fibers } : Route), Block := e2.Block } : Light)).set (i).toNat ({ e3 with Route := { e3.Route with Fibers := y.2 } })).set (i).toNat ({ Id := e4.Id, Route := e4.Route, Block := ({ First := y.1, Count := e4.Block.Count } : Block) } : Light)).length c)), (1, (.int .i64 (w64 (y.1 + 1)))), (5, (.int .i64 i)), (41, (.int .i64 y.1)), (42, (.int .i64 (w64 (y.1 + 1)))), (43, (.slice A ((((a2.set (i).toNat ({ Id := k2, Route := e.Route, Block := e.Block } : Light)).set (i).toNat ({ Id := e2.Id, Route := ({ Start := w64 (k2 + 1), Fibers := e2.Route.Fibers } : Route), Block := e2.Block } : Light)).set (i).toNat ({ e3 with Route := { e3.Route with Fibers := y.2 } })).set (i).toNat ({ Id := e4.Id, Route := e4.Route, Block := ({ First := y.1, Count := e4.Block.Count } : Block) } : Light)).length c)), (44, (.int .i64 i)), (45, (.int .i64 (w64 (y.1 + 1)))), (46, (.pointer (some ⟨p5, o5 + 0, none⟩))), (47, (.pointer (some ⟨p5, o5 + 3, none⟩))), (48, (.pointer (some ⟨p5, o5 + 4, none⟩)))] := hf.prune [0, 1, 5, 41, 42, 43, 44, 45, 46, 47, 48] rfl
   replace hf : Fr a 52 [(0, (.slice A (((((a2.set (i).toNat ({ Id := k2, Route := e.Route, Block := e.Block } : Light)).set (i).toNat ({ Id := e2.Id, Route := ({ Start := w64 (k2 + 1), Fibers := e2.Route.Fibers } : Route), Block := e2.Block } : Light)).set (i).toNat ({ e3 with Route := { e3.Route with Fibers := y.2 } })).set (i).toNat ({ Id := e4.Id, Route := e4.Route, Block := ({ First := y.1, Count := e4.Block.Count } : Block) } : Light)).set (i).toNat ({ Id := e5.Id, Route := e5.Route, Block := ({ First := e5.Block.First, Count := w64 (y.1 + 1) } : Block) } : Light)).length c)), (1, (.int .i64 (w64 (y.1 + 1)))), (5, (.int .i64 i)), (41, (.int .i64 y.1)), (42, (.int .i64 (w64 (y.1 + 1)))), (43, (.slice A (((((a2.set (i).toNat ({ Id := k2, Route := e.Route, Block := e.Block } : Light)).set (i).toNat ({ Id := e2.Id, Route := ({ Start := w64 (k2 + 1), Fibers := e2.Route.Fibers } : Route), Block := e2.Block } : Light)).set (i).toNat ({ e3 with Route := { e3.Route with Fibers := y.2 } })).set (i).toNat ({ Id := e4.Id, Route := e4.Route, Block := ({ First := y.1, Count := e4.Block.Count } : Block) } : Light)).set (i).toNat ({ Id := e5.Id, Route := e5.Route, Block := ({ First := e5.Block.First, Count := w64 (y.1 + 1) } : Block) } : Light)).length c)), (44, (.int .i64 i)), (45, (.int .i64 (w64 (y.1 + 1)))), (46, (.pointer (some ⟨p5, o5 + 0, none⟩))), (47, (.pointer (some ⟨p5, o5 + 3, none⟩))), (48, (.pointer (some ⟨p5, o5 + 4, none⟩)))] := by simpa only [List.length_set, Nat.add_zero] using hf
   refine wl_end (then_n (reg (pr 3 hf rfl rfl fun a hf => ?_)))
   refine wl_end (blk_n (then_n (reg (pr 3 hf rfl rfl fun a hf => ?_))))
   refine wl_end ?_
   have hf := hf.prune [0, 1, 5] rfl
   have hf : Fr a 52 [(0, (.slice A a'.length c)), (1, (.int .i64 (w64 ((w64 (y.1 + 1)) + 1)))), (5, (.int .i64 (w64 (i + 1))))] := by first | exact hf | (simp only [List.length_set, hlen] at hf; exact hf)
   have H := H.let [] [true] [] [] rfl rfl rfl rfl
   exact then_n ⟨(((((a2.set (i).toNat ({ Id := k2, Route := e.Route, Block := e.Block } : Light)).set (i).toNat ({ Id := e2.Id, Route := ({ Start := w64 (k2 + 1), Fibers := e2.Route.Fibers } : Route), Block := e2.Block } : Light)).set (i).toNat ({ e3 with Route := { e3.Route with Fibers := y.2 } })).set (i).toNat ({ Id := e4.Id, Route := e4.Route, Block := ({ First := y.1, Count := e4.Block.Count } : Block) } : Light)).set (i).toNat ({ Id := e5.Id, Route := e5.Route, Block := ({ First := e5.Block.First, Count := w64 (y.1 + 1) } : Block) } : Light), w64 ((w64 (y.1 + 1)) + 1), w64 (i + 1)), hR1, Fs3, (by simp only [List.length_set, hlen]), hf, H⟩
  ·refine wp_exit (then_x (then_x (blk_e (?_))))
   have hf := hf.prune [0, 1, 5] rfl
   have hf : Fr a 52 [(0, (.slice A a'.length c)), (1, (.int .i64 k2)), (5, (.int .i64 i))] := by first | exact hf | (simp only [List.length_set, hlen] at hf; exact hf)
   have H := H.let [] [true] [] [] rfl rfl rfl rfl
   exact ⟨(a2, k2, i), (Option.some.inj hR1).symm, Fs2, (by simp only [List.length_set, hlen]), hf, H⟩
 rintro a w ⟨⟨a3, k3, i2⟩, rfl, Fs4, hlen, hf, H⟩
 try dsimp only at hlen
 have hf : Fr a 52 [(0, (.slice A a3.length c)), (1, (.int .i64 k3)), (5, (.int .i64 i2))] := by rw [hlen]; exact hf
 dsimp only at hF
 refine then_n (sq (reg (pr 2 hf rfl rfl fun a hf => ?_)))
 refine wl_end (then_n (wp_ret (?_)))
 obtain ⟨F', H⟩ := H.freezeOwn 0 rfl
 rw [hlen] at H
 obtain rfl := Option.some.inj hF
 refine ret_1 (fn := Tryz.f80) (r := .tmp 4) hf rfl (rv_tmp hf rfl) ?_
 exact ⟨_, rfl, H.chg, mk_int, _, H.ownAt 0 rfl, H.back⟩

/- loop.example/g00897/laws.markPlan -/
set_option maxHeartbeats 1000000 in
theorem laws_markPlan_ok {fu : Nat} {w0 : World} {S : Nat → Prop} {F : List Nat} {cs : List Value} {v1_ : Value} {a' : Plan} {k' : Int} {r : Int × Plan} (hO : GoTy.own w0 F cs a') (hn : F.Nodup) (h1 : VR w0 S v1_ k') (hF : laws_markPlan fu a' k' = some r) :
    Calls Tryz.prog 25 [(bif GoTy.agg (Plan) then .agg cs.toArray else cs.headD undef), v1_].toArray w0 fun e w' => ∃ v, e = .returned v ∧ (Chg w0 w' F ∧ VR w' (fun _ => True) v r.1 ∧ ∃ F', GoTy.own w' F' cs r.2 ∧ Back w0 w' F F') := by
 obtain rfl := VR_int h1
 obtain ⟨A1, c1, F1, A2, c2, F2, A3, c3, F3, rfl, hFe, l1, l2, l3⟩ := Plan_own hO
 have H := Mem.startG S hO hn
 have H := H.recast (X := [(⟨F, MP.own F [(.slice A1 a'.Network.Nodes.length c1), (.slice A2 a'.Network.Fibers.length c2), (.slice A3 a'.Lights.length c3)] (a' : Plan)⟩ : DI)]) (Y := [(⟨F1, MP.own F1 [(.slice A1 a'.Network.Nodes.length c1)] (a'.Network.Nodes : List ByteArray)⟩ : DI), (⟨F2, MP.own F2 [(.slice A2 a'.Network.Fibers.length c2)] (a'.Network.Fibers : List Fiber)⟩ : DI), (⟨F3, MP.own F3 [(.slice A3 a'.Lights.length c3)] (a'.Lights : List Light)⟩ : DI)]) (D := []) (List.Perm.of_eq (by simp [hFe])) fun _ => (ps1 l1 (ps1 l2 (ps1 l3 ps0)))
 have H := H.lend 0 rfl
 have H := H.lend 1 rfl
 have H := H.lend 2 rfl
 refine enter Tryz.func25 rfl rfl (nle rfl) rfl fun a hf => ?_
 rw [laws_markPlan] at hF
 refine sq (reg (wl0 rfl (op_box hf H rfl rfl (by decide) fun b' a w hf H => ?_)))
 refine pr 1 hf rfl rfl fun a hf => ?_
 refine wl_end (then_n (sq (reg (pr 1 hf rfl rfl fun a hf => ?_))))
 refine wl0 rfl (op_q hf (rq_loadBN hf H TF.la34 0 rfl rfl rfl rfl) rfl (by decide) fun a hf => ?_)
 refine pr 1 hf rfl rfl fun a hf => ?_
 have H := H.frontD 1 rfl
 have H := H.frontD 1 rfl
 have H := H.recast (X := [(⟨F1, MP.own F1 [(.slice A1 a'.Network.Nodes.length c1)] (a'.Network.Nodes : List ByteArray)⟩ : DI), (⟨F2, MP.own F2 [(.slice A2 a'.Network.Fibers.length c2)] (a'.Network.Fibers : List Fiber)⟩ : DI)]) (Y := [(⟨(F1 ++ F2), MP.own (F1 ++ F2) [(.slice A1 a'.Network.Nodes.length c1), (.slice A2 a'.Network.Fibers.length c2)] (a'.Network : Network)⟩ : DI)]) (List.Perm.of_eq (by simp)) fun _ => ps1 (Network_ownmk (x := a'.Network) (H.ownAt 0 rfl) (H.ownAt 1 rfl)) ps0
 obtain ⟨y, hy, hF⟩ := bind_some hF
 refine wl0 rfl (op_call hf TF.cl79 rfl (by decide) (laws_markNetwork_ok (S := fun _ => True) (F := (F1 ++ F2)) (cs := [(.slice A1 a'.Network.Nodes.length c1), (.slice A2 a'.Network.Fibers.length c2)]) (H.ownAt 0 rfl) H.diNd.1 mk_int hy) fun v w a hp hf => ?_)
 obtain ⟨hch, hv, F5, ho, hbk⟩ := hp
 obtain rfl := VR_int hv
 have H := H.wrote rfl hch ho hbk
 obtain ⟨F6, F7, hFe, hl, hl2⟩ := Network_ownc (H.ownAt 0 rfl)
 have H := H.recast (X := [(⟨F5, MP.own F5 [(.slice A1 a'.Network.Nodes.length c1), (.slice A2 a'.Network.Fibers.length c2)] (y.2 : Network)⟩ : DI)]) (Y := [(⟨F6, MP.own F6 [(.slice A1 a'.Network.Nodes.length c1)] (y.2.Nodes : List ByteArray)⟩ : DI), (⟨F7, MP.own F7 [(.slice A2 a'.Network.Fibers.length c2)] (y.2.Fibers : List Fiber)⟩ : DI)]) (List.Perm.of_eq (by simp [hFe])) fun _ => (ps1 hl (ps1 hl2 ps0))
 have H := H.lend 0 rfl
 have H := H.lend 1 rfl
 have H := H.lend 2 rfl
 refine pr 1 hf rfl rfl fun a hf => ?_
 refine wl_end (then_n (sq (reg (pr 1 hf rfl rfl fun a hf => ?_))))
 refine wl0 rfl (op_q hf (rq_loadB hf H TF.ls35 0 rfl rfl rfl) rfl (by decide) fun a hf => ?_)
 refine pr 1 hf rfl rfl fun a hf => ?_
 have H := H.frontD 2 rfl
 obtain ⟨y2, hy2, hF⟩ := bind_some hF
 refine wl0 rfl (op_call hf TF.cl80 rfl (by decide) (laws_markLightS_ok (S := fun _ => True) (F := F3) (cs := [(.slice A3 a'.Lights.length c3)]) (H.ownAt 0 rfl) H.diNd.1 mk_int hy2) fun v2 w a hp2 hf => ?_)
 obtain ⟨hch2, hv2, F8, ho2, hbk2⟩ := hp2
 obtain rfl := VR_int hv2
 have H := H.wrote rfl hch2 ho2 hbk2
 have H := H.lend 0 rfl
 have H := H.lend 1 rfl
 have H := H.lend 2 rfl
 refine pr 1 hf rfl rfl fun a hf => ?_
 refine wl_end (then_n (sq (reg (pr 2 hf rfl rfl fun a hf => ?_))))
 refine wl_end (then_n (wp_ret (?_)))
 have H := H.frontD 2 rfl
 have H := H.frontD 2 rfl
 have H := H.recast (X := [(⟨F6, MP.own F6 [(.slice A1 a'.Network.Nodes.length c1)] (y.2.Nodes : List ByteArray)⟩ : DI), (⟨F7, MP.own F7 [(.slice A2 a'.Network.Fibers.length c2)] (y.2.Fibers : List Fiber)⟩ : DI), (⟨F8, MP.own F8 [(.slice A3 a'.Lights.length c3)] (y2.2 : List Light)⟩ : DI)]) (Y := [(⟨(F6 ++ (F7 ++ F8)), MP.own (F6 ++ (F7 ++ F8)) [(.slice A1 a'.Network.Nodes.length c1), (.slice A2 a'.Network.Fibers.length c2), (.slice A3 a'.Lights.length c3)] (({ Network := y.2, Lights := y2.2 } : Plan) : Plan)⟩ : DI)]) (List.Perm.of_eq (by simp)) fun _ => ps1 (Plan_ownmk (x := ({ Network := y.2, Lights := y2.2 } : Plan)) (H.ownAt 0 rfl) (H.ownAt 1 rfl) (H.ownAt 2 rfl)) ps0
 obtain rfl := Option.some.inj hF
 refine ret_1 (fn := Tryz.f25) (r := .tmp 4) hf rfl (rv_tmp hf rfl) ?_
 exact ⟨_, rfl, H.chg, mk_int, _, H.ownAt 0 rfl, H.back⟩

/- loop.example/g00897/laws.heldIntS -/
set_option maxHeartbeats 1000000 in
theorem laws_heldIntS_ok {fu : Nat} {w0 : World} {S : Nat → Prop} {v0_ : Value} {v1_ : Value} {a' : List Int} {k' : Int} {r : Int} (h0 : VR w0 S v0_ a') (h1 : VR w0 S v1_ k') (hF : laws_heldIntS fu a' k' = some r) :
    Calls Tryz.prog 27 [v0_, v1_].toArray w0 fun e w' => ∃ v, e = .returned v ∧ (Below w0.heap.size w0 w' ∧ VR w' (St ⟨w0, []⟩ S [] [] [] true) v r) := by
 obtain ⟨A, c, rfl, hl⟩ := VR_list h0
 obtain rfl := VR_int h1
 have H := Mem.start ⟨w0, []⟩ S
 have H := H.pushArg (MP.val [(.slice A a'.length c)] a') hl
 refine enter Tryz.func27 rfl rfl (nle rfl) rfl fun a hf => ?_
 rw [laws_heldIntS] at hF
 refine sq (reg (pr 1 hf rfl rfl fun a hf => ?_))
 refine wl_end (then_n (sq (sq (reg (pr 1 hf rfl rfl fun a hf => ?_)))))
 refine wl_end (then_n ?_)
 obtain ⟨out', hB1, hF⟩ := bind_some hF
 have hf := hf.prune [0, 1, 5] rfl
 have H := H.let [] [] [] [0] rfl rfl rfl rfl
 refine loopC (fun (s : Int × Int) (a : Act) (w : World) => match s with | (k2, i) => Fr a 21 [(0, (.slice A a'.length c)), (1, (.int .i64 k2)), (5, (.int .i64 i))] ∧ Mem ⟨w0, []⟩ S [] [] [] [(false, MP.val [(.slice A a'.length c)] (a' : List Int))] w) (fun k (s : Int × Int) => laws_heldIntS_L1 fu a' k s.1 s.2 = some out') (fun s => out' = Out.next s) (k', 0) fu hB1 ⟨hf, H⟩ (fun s h => by cases h) ?_ ?_
 ·rintro fk ⟨k2, i⟩ a w hR1 hI
  replace hR1 : laws_heldIntS_L1 fu a' (fk + 1) k2 i = some out' := hR1
  rw [laws_heldIntS_L1] at hR1
  obtain ⟨hf, H⟩ := hI
  refine sq (sq (reg (pr 4 hf rfl rfl fun a hf => ?_)))
  refine wl_end (then_n (iteB hR1 (fun hc hR1 => cd_t hf rfl hc ?_) fun hc hR1 => cd_f hf rfl hc ?_))
  ·refine wp_skip (then_n (sq (wp_block (sq (sq (reg (pr 2 hf rfl rfl fun a hf => ?_)))))))
   obtain ⟨e, he, hR1⟩ := bind_some hR1
   refine wl0 rfl (op_iaddr hf H Tryz.underlying44 TF.sz3 0 rfl rfl rfl he (by decide) fun p o cs a hf hr H => ?_)
   obtain rfl := hr
   refine wl0 rfl (op_q hf (rq_loadI hf H TF.ls3 0 0 rfl rfl rfl) rfl (by decide) fun a hf => ?_)
   refine pr 2 hf rfl rfl fun a hf => ?_
   refine wl_end (then_n (iteB hR1 (fun hc2 hR1 => cd_t hf rfl hc2 ?_) fun hc2 hR1 => cd_f hf rfl hc2 ?_))
   ·refine sq (reg (pr 1 hf rfl rfl fun a hf => ?_))
    have hf := hf.prune [4] rfl
    refine wl_end (then_n (wp_ret (then_r (blk_r (then_r (then_r (blk_r (then_r (then_r (?_))))))))))
    obtain rfl := Option.some.inj hR1
    replace hF := on_ret hF
    obtain rfl := Option.some.inj hF
    refine ret_1 (fn := Tryz.f27) (r := .tmp 4) hf rfl (rv_tmp hf rfl) ?_
    exact ⟨_, rfl, H.bel, mk_int⟩
   ·refine wp_skip (then_n (reg (pr 3 hf rfl rfl fun a hf => ?_)))
    refine wl_end (blk_n (then_n (reg (pr 3 hf rfl rfl fun a hf => ?_))))
    have hf := hf.prune [0, 1, 5] rfl
    refine wl_end ?_
    have hf := hf.prune [0, 1, 5] rfl
    have H := H.let [] [] [] [1] rfl rfl rfl rfl
    exact then_n ⟨(w64 (k2 + 1), w64 (i + 1)), hR1, hf, H⟩
  ·refine wp_exit (then_x (then_x (blk_e (?_))))
   have hf := hf.prune [0, 1, 5] rfl
   have H := H.let [] [] [] [0] rfl rfl rfl rfl
   exact ⟨(k2, i), (Option.some.inj hR1).symm, hf, H⟩
 rintro a w ⟨⟨k3, i2⟩, rfl, hf, H⟩
 replace hF := on_next hF
 dsimp only at hF
 refine then_n (sq (reg (pr 2 hf rfl rfl fun a hf => ?_)))
 refine wl_end (then_n (wp_ret (?_)))
 obtain rfl := Option.some.inj hF
 refine ret_1 (fn := Tryz.f27) (r := .tmp 4) hf rfl (rv_tmp hf rfl) ?_
 exact ⟨_, rfl, H.bel, mk_int⟩

/- loop.example/g00897/laws.heldStringS -/
set_option maxHeartbeats 1000000 in
theorem laws_heldStringS_ok {fu : Nat} {w0 : World} {S : Nat → Prop} {v0_ : Value} {v1_ : Value} {a' : List ByteArray} {k' : Int} {r : Int} (h0 : VR w0 S v0_ a') (h1 : VR w0 S v1_ k') (hF : laws_heldStringS fu a' k' = some r) :
    Calls Tryz.prog 147 [v0_, v1_].toArray w0 fun e w' => ∃ v, e = .returned v ∧ (Below w0.heap.size w0 w' ∧ VR w' (St ⟨w0, []⟩ S [] [] [] true) v r) := by
 obtain ⟨A, c, rfl, hl⟩ := VR_list h0
 obtain rfl := VR_int h1
 have H := Mem.start ⟨w0, []⟩ S
 have H := H.pushArg (MP.val [(.slice A a'.length c)] a') hl
 refine enter Tryz.func147 rfl rfl (nle rfl) rfl fun a hf => ?_
 rw [laws_heldStringS] at hF
 refine sq (reg (pr 1 hf rfl rfl fun a hf => ?_))
 refine wl_end (then_n (sq (sq (reg (pr 1 hf rfl rfl fun a hf => ?_)))))
 refine wl_end (then_n ?_)
 obtain ⟨out', hB1, hF⟩ := bind_some hF
 have hf := hf.prune [0, 1, 5] rfl
 have H := H.let [] [] [] [0] rfl rfl rfl rfl
 refine loopC (fun (s : Int × Int) (a : Act) (w : World) => match s with | (k2, i) => Fr a 22 [(0, (.slice A a'.length c)), (1, (.int .i64 k2)), (5, (.int .i64 i))] ∧ Mem ⟨w0, []⟩ S [] [] [] [(false, MP.val [(.slice A a'.length c)] (a' : List ByteArray))] w) (fun k (s : Int × Int) => laws_heldStringS_L1 fu a' k s.1 s.2 = some out') (fun s => out' = Out.next s) (k', 0) fu hB1 ⟨hf, H⟩ (fun s h => by cases h) ?_ ?_
 ·rintro fk ⟨k2, i⟩ a w hR1 hI
  replace hR1 : laws_heldStringS_L1 fu a' (fk + 1) k2 i = some out' := hR1
  rw [laws_heldStringS_L1] at hR1
  obtain ⟨hf, H⟩ := hI
  refine sq (sq (reg (pr 4 hf rfl rfl fun a hf => ?_)))
  refine wl_end (then_n (iteB hR1 (fun hc hR1 => cd_t hf rfl hc ?_) fun hc hR1 => cd_f hf rfl hc ?_))
  ·refine wp_skip (then_n (sq (wp_block (sq (sq (drawn [] (bs := [false, false, false, false, false, false, false]) (fuel := 7) (Checked.mixed Tryz.checked) rfl rfl fun w hb => ?_))))))
   have H := H.keep hb
   refine tp 0 rfl rfl hf (by kernel_rfl) (fun _ => trivial) rfl fun a hf => ?_
   refine tp 1 rfl rfl hf (by kernel_rfl) (fun _ => trivial) rfl fun a hf => ?_
   obtain ⟨e, he, hR1⟩ := bind_some hR1
   obtain ⟨p, o, cs, hx, hr, H⟩ := pre_iaddr H Tryz.underlying22 TF.sz9 0 rfl he
   refine tP 2 rfl rfl rfl rfl hf (by kernel_rfl) (fun _ => trivial) (fun w => rq_iaddrE hf rfl rfl rfl hx w) fun a hf => ?_
   obtain rfl := hr
   refine strT (H.let [] [] [] [0] rfl rfl rfl rfl) (fun w H => trivial) fun hS => ?_
   refine tS 3 [] rfl rfl rfl rfl hf (by kernel_rfl) (by kernel_rfl) hS (fun w H => rq_loadI hf H TF.ls9 0 0 rfl rfl rfl) fun a hf => ?_
   refine tp 4 rfl rfl hf (by kernel_rfl) (fun _ => hS) rfl fun a hf => ?_
   obtain ⟨y, hy, hR1⟩ := bind_some hR1
   refine n1 5 (by kernel_rfl) rfl rfl (op_call hf TF.cl199 rfl (by decide) (laws_markText_ok (S := fun _ => True) mk_int hy) fun v w a hp hf => ?_)
   obtain ⟨hb, hp⟩ := hp
   obtain rfl := VR_str hp
   have H := H.keep hb
   have hS := H.let [] [] [] [0] rfl rfl rfl rfl
   refine ⟨fun _ => hS, ?_⟩
   refine tp 6 rfl rfl hf (by kernel_rfl) (fun _ => hS) rfl fun a hf => ?_
   refine dn (by kernel_rfl) ?_
   refine then_n (iteB hR1 (fun hc2 hR1 => cd_t hf rfl hc2 ?_) fun hc2 hR1 => cd_f hf rfl hc2 ?_)
   ·refine sq (reg (pr 1 hf rfl rfl fun a hf => ?_))
    have hf := hf.prune [4] rfl
    refine wl_end (then_n (wp_ret (then_r (blk_r (then_r (then_r (blk_r (then_r (then_r (?_))))))))))
    obtain rfl := Option.some.inj hR1
    replace hF := on_ret hF
    obtain rfl := Option.some.inj hF
    refine ret_1 (fn := Tryz.f147) (r := .tmp 4) hf rfl (rv_tmp hf rfl) ?_
    exact ⟨_, rfl, H.bel, mk_int⟩
   ·refine wp_skip (then_n (reg (pr 3 hf rfl rfl fun a hf => ?_)))
    have hf := hf.prune [0, 1, 5] rfl
    refine wl_end (blk_n (then_n (reg (pr 3 hf rfl rfl fun a hf => ?_))))
    refine wl_end ?_
    have hf := hf.prune [0, 1, 5] rfl
    have H := H.let [] [] [] [1] rfl rfl rfl rfl
    exact then_n ⟨(w64 (k2 + 1), w64 (i + 1)), hR1, hf, H⟩
  ·refine wp_exit (then_x (then_x (blk_e (?_))))
   have hf := hf.prune [0, 1, 5] rfl
   have H := H.let [] [] [] [0] rfl rfl rfl rfl
   exact ⟨(k2, i), (Option.some.inj hR1).symm, hf, H⟩
 rintro a w ⟨⟨k3, i2⟩, rfl, hf, H⟩
 replace hF := on_next hF
 dsimp only at hF
 refine then_n (sq (reg (pr 2 hf rfl rfl fun a hf => ?_)))
 refine wl_end (then_n (wp_ret (?_)))
 obtain rfl := Option.some.inj hF
 refine ret_1 (fn := Tryz.f147) (r := .tmp 4) hf rfl (rv_tmp hf rfl) ?_
 exact ⟨_, rfl, H.bel, mk_int⟩

/- loop.example/g00897/laws.heldFiberS -/
set_option maxHeartbeats 1000000 in
theorem laws_heldFiberS_ok {fu : Nat} {w0 : World} {S : Nat → Prop} {v0_ : Value} {v1_ : Value} {a' : List Fiber} {k' : Int} {r : Int} (h0 : VR w0 S v0_ a') (h1 : VR w0 S v1_ k') (hF : laws_heldFiberS fu a' k' = some r) :
    Calls Tryz.prog 148 [v0_, v1_].toArray w0 fun e w' => ∃ v, e = .returned v ∧ (Below w0.heap.size w0 w' ∧ VR w' (St ⟨w0, []⟩ S [] [] [] true) v r) := by
 obtain ⟨A, c, rfl, hl⟩ := VR_list h0
 obtain rfl := VR_int h1
 have H := Mem.start ⟨w0, []⟩ S
 have H := H.pushArg (MP.val [(.slice A a'.length c)] a') hl
 refine enter Tryz.func148 rfl rfl (nle rfl) rfl fun a hf => ?_
 rw [laws_heldFiberS] at hF
 refine sq (reg (pr 1 hf rfl rfl fun a hf => ?_))
 refine wl_end (then_n (sq (sq (reg (pr 1 hf rfl rfl fun a hf => ?_)))))
 refine wl_end (then_n ?_)
 obtain ⟨out', hB1, hF⟩ := bind_some hF
 have hf := hf.prune [0, 1, 5] rfl
 have H := H.let [] [] [] [0] rfl rfl rfl rfl
 refine loopC (fun (s : Int × Int) (a : Act) (w : World) => match s with | (k2, i) => Fr a 49 [(0, (.slice A a'.length c)), (1, (.int .i64 k2)), (5, (.int .i64 i))] ∧ Mem ⟨w0, []⟩ S [] [] [] [(false, MP.val [(.slice A a'.length c)] (a' : List Fiber))] w) (fun k (s : Int × Int) => laws_heldFiberS_L1 fu a' k s.1 s.2 = some out') (fun s => out' = Out.next s) (k', 0) fu hB1 ⟨hf, H⟩ (fun s h => by cases h) ?_ ?_
 ·rintro fk ⟨k2, i⟩ a w hR1 hI
  replace hR1 : laws_heldFiberS_L1 fu a' (fk + 1) k2 i = some out' := hR1
  rw [laws_heldFiberS_L1] at hR1
  obtain ⟨hf, H⟩ := hI
  refine sq (sq (reg (pr 4 hf rfl rfl fun a hf => ?_)))
  refine wl_end (then_n (iteB hR1 (fun hc hR1 => cd_t hf rfl hc ?_) fun hc hR1 => cd_f hf rfl hc ?_))
  ·refine wp_skip (then_n (sq (wp_block (sq (sq (reg (pr 2 hf rfl rfl fun a hf => ?_)))))))
   obtain ⟨e, he, hR1⟩ := bind_some hR1
   refine wl0 rfl (op_iaddr hf H Tryz.underlying32 TF.sz120 0 rfl rfl rfl he (by decide) fun p o cs a hf hr H => ?_)
   obtain rfl := Fiber_cells hr
   refine pr 1 hf rfl rfl fun a hf => ?_
   refine wl0 rfl (op_q hf (rq_loadI hf H TF.ls3 0 0 rfl rfl rfl) rfl (by decide) fun a hf => ?_)
   refine pr 2 hf rfl rfl fun a hf => ?_
   refine wl_end (then_n (iteB hR1 (fun hc2 hR1 => cd_t hf rfl hc2 ?_) fun hc2 hR1 => cd_f hf rfl hc2 ?_))
   ·refine sq (reg (pr 1 hf rfl rfl fun a hf => ?_))
    have hf := hf.prune [4] rfl
    refine wl_end (then_n (wp_ret (then_r (blk_r (then_r (then_r (blk_r (then_r (then_r (?_))))))))))
    obtain rfl := Option.some.inj hR1
    replace hF := on_ret hF
    obtain rfl := Option.some.inj hF
    refine ret_1 (fn := Tryz.f148) (r := .tmp 4) hf rfl (rv_tmp hf rfl) ?_
    exact ⟨_, rfl, H.bel, mk_int⟩
   ·refine wp_skip (then_n (sq (reg (pr 3 hf rfl rfl fun a hf => ?_))))
    have hf := hf.prune [0, 1, 5] rfl
    refine wl_end (then_n (sq (sq (reg (pr 2 hf rfl rfl fun a hf => ?_)))))
    obtain ⟨e2, he2, hR1⟩ := bind_some hR1
    refine wl0 rfl (op_iaddr hf H Tryz.underlying32 TF.sz120 1 rfl rfl rfl he2 (by decide) fun p2 o2 cs2 a hf hr2 H => ?_)
    obtain rfl := Fiber_cells hr2
    refine pr 1 hf rfl rfl fun a hf => ?_
    refine wl0 rfl (op_q hf (rq_loadI hf H TF.ls3 0 1 rfl rfl rfl) rfl (by decide) fun a hf => ?_)
    refine pr 2 hf rfl rfl fun a hf => ?_
    refine wl_end (then_n (iteB hR1 (fun hc3 hR1 => cd_t hf rfl hc3 ?_) fun hc3 hR1 => cd_f hf rfl hc3 ?_))
    ·refine sq (reg (pr 1 hf rfl rfl fun a hf => ?_))
     refine wl_end (then_n (wp_ret (then_r (blk_r (then_r (then_r (blk_r (then_r (then_r (?_))))))))))
     obtain rfl := Option.some.inj hR1
     replace hF := on_ret hF
     obtain rfl := Option.some.inj hF
     refine ret_1 (fn := Tryz.f148) (r := .tmp 4) hf rfl (rv_tmp hf rfl) ?_
     exact ⟨_, rfl, H.bel, mk_int⟩
    ·refine wp_skip (then_n (sq (reg (pr 3 hf rfl rfl fun a hf => ?_))))
     refine wl_end (then_n (sq (sq (reg (pr 2 hf rfl rfl fun a hf => ?_)))))
     obtain ⟨e3, he3, hR1⟩ := bind_some hR1
     refine wl0 rfl (op_iaddr hf H Tryz.underlying32 TF.sz120 2 rfl rfl rfl he3 (by decide) fun p3 o3 cs3 a hf hr3 H => ?_)
     obtain rfl := Fiber_cells hr3
     refine pr 1 hf rfl rfl fun a hf => ?_
     refine wl0 rfl (op_q hf (rq_loadI hf H TF.ls3 0 2 rfl rfl rfl) rfl (by decide) fun a hf => ?_)
     refine pr 2 hf rfl rfl fun a hf => ?_
     have hf := hf.prune [0, 1, 5, 36] rfl
     refine wl_end (then_n (iteB hR1 (fun hc4 hR1 => cd_t hf rfl hc4 ?_) fun hc4 hR1 => cd_f hf rfl hc4 ?_))
     ·refine sq (reg (pr 1 hf rfl rfl fun a hf => ?_))
      refine wl_end (then_n (wp_ret (then_r (blk_r (then_r (then_r (blk_r (then_r (then_r (?_))))))))))
      obtain rfl := Option.some.inj hR1
      replace hF := on_ret hF
      obtain rfl := Option.some.inj hF
      refine ret_1 (fn := Tryz.f148) (r := .tmp 4) hf rfl (rv_tmp hf rfl) ?_
      exact ⟨_, rfl, H.bel, mk_int⟩
     ·refine wp_skip (then_n (sq (reg (pr 3 hf rfl rfl fun a hf => ?_))))
      refine wl_end (then_n (sq (sq (reg (pr 2 hf rfl rfl fun a hf => ?_)))))
      obtain ⟨e4, he4, hR1⟩ := bind_some hR1
      refine wl0 rfl (op_iaddr hf H Tryz.underlying32 TF.sz120 3 rfl rfl rfl he4 (by decide) fun p4 o4 cs4 a hf hr4 H => ?_)
      obtain rfl := Fiber_cells hr4
      refine pr 1 hf rfl rfl fun a hf => ?_
      refine wl0 rfl (op_q hf (rq_loadI hf H TF.ls3 0 3 rfl rfl rfl) rfl (by decide) fun a hf => ?_)
      refine pr 2 hf rfl rfl fun a hf => ?_
      refine wl_end (then_n (iteB hR1 (fun hc5 hR1 => cd_t hf rfl hc5 ?_) fun hc5 hR1 => cd_f hf rfl hc5 ?_))
      ·refine sq (reg (pr 1 hf rfl rfl fun a hf => ?_))
       have hf := hf.prune [4] rfl
       refine wl_end (then_n (wp_ret (then_r (blk_r (then_r (then_r (blk_r (then_r (then_r (?_))))))))))
       obtain rfl := Option.some.inj hR1
       replace hF := on_ret hF
       obtain rfl := Option.some.inj hF
       refine ret_1 (fn := Tryz.f148) (r := .tmp 4) hf rfl (rv_tmp hf rfl) ?_
       exact ⟨_, rfl, H.bel, mk_int⟩
      ·refine wp_skip (then_n (reg (pr 3 hf rfl rfl fun a hf => ?_)))
       refine wl_end (blk_n (then_n (reg (pr 3 hf rfl rfl fun a hf => ?_))))
       have hf := hf.prune [0, 1, 5] rfl
       refine wl_end ?_
       have hf := hf.prune [0, 1, 5] rfl
       have H := H.let [] [] [] [4] rfl rfl rfl rfl
       exact then_n ⟨(w64 ((w64 ((w64 ((w64 (k2 + 1)) + 1)) + 1)) + 1), w64 (i + 1)), hR1, hf, H⟩
  ·refine wp_exit (then_x (then_x (blk_e (?_))))
   have hf := hf.prune [0, 1, 5] rfl
   have H := H.let [] [] [] [0] rfl rfl rfl rfl
   exact ⟨(k2, i), (Option.some.inj hR1).symm, hf, H⟩
 rintro a w ⟨⟨k3, i2⟩, rfl, hf, H⟩
 replace hF := on_next hF
 dsimp only at hF
 refine then_n (sq (reg (pr 2 hf rfl rfl fun a hf => ?_)))
 refine wl_end (then_n (wp_ret (?_)))
 obtain rfl := Option.some.inj hF
 refine ret_1 (fn := Tryz.f148) (r := .tmp 4) hf rfl (rv_tmp hf rfl) ?_
 exact ⟨_, rfl, H.bel, mk_int⟩

/- loop.example/g00897/laws.heldNetwork -/
set_option maxHeartbeats 1000000 in
theorem laws_heldNetwork_ok {fu : Nat} {w0 : World} {S : Nat → Prop} {v0_ : Value} {v1_ : Value} {a' : Network} {k' : Int} {r : Int} (h0 : VR w0 S v0_ a') (h1 : VR w0 S v1_ k') (hF : laws_heldNetwork fu a' k' = some r) :
    Calls Tryz.prog 81 [v0_, v1_].toArray w0 fun e w' => ∃ v, e = .returned v ∧ (Below w0.heap.size w0 w' ∧ VR w' (St ⟨w0, []⟩ S [] [] [] true) v r) := by
 obtain ⟨A, c, A2, c2, rfl, hl, hl2⟩ := Network_open h0
 obtain rfl := VR_int h1
 have H := Mem.start ⟨w0, []⟩ S
 have H := H.pushArg (MP.val [(.slice A a'.Nodes.length c)] a'.Nodes) hl
 have H := H.pushArg (MP.val [(.slice A2 a'.Fibers.length c2)] a'.Fibers) hl2
 refine enter Tryz.func81 rfl rfl (nle rfl) rfl fun a hf => ?_
 rw [laws_heldNetwork] at hF
 refine sq (reg (wl0 rfl (op_box hf H rfl rfl (by decide) fun b' a w hf H => ?_)))
 refine pr 1 hf rfl rfl fun a hf => ?_
 refine wl_end (then_n (sq (reg (pr 1 hf rfl rfl fun a hf => ?_))))
 refine wl0 rfl (op_q hf (rq_loadB hf H TF.ls22 0 rfl rfl rfl) rfl (by decide) fun a hf => ?_)
 refine pr 1 hf rfl rfl fun a hf => ?_
 obtain ⟨y, hy, hF⟩ := bind_some hF
 refine wl0 rfl (op_call hf TF.cl147 rfl (by decide) (laws_heldStringS_ok (S := fun _ => True) (mk_list (rep_true (α := List ByteArray) (H.get 1 rfl))) mk_int hy) fun v w a hp hf => ?_)
 obtain ⟨hb, hp⟩ := hp
 obtain rfl := VR_int hp
 have H := H.keep hb
 refine pr 1 hf rfl rfl fun a hf => ?_
 refine wl_end (then_n (sq (sq (reg (pr 2 hf rfl rfl fun a hf => ?_)))))
 refine wl_end (then_n (iteB hF (fun hc hF => cd_t hf rfl hc ?_) fun hc hF => cd_f hf rfl hc ?_))
 ·refine sq (reg (pr 1 hf rfl rfl fun a hf => ?_))
  refine wl_end (then_n (wp_ret (then_r (?_))))
  obtain rfl := Option.some.inj hF
  refine ret_1 (fn := Tryz.f81) (r := .tmp 4) hf rfl (rv_tmp hf rfl) ?_
  exact ⟨_, rfl, H.bel, mk_int⟩
 ·refine wp_skip (then_n (sq (reg (pr 1 hf rfl rfl fun a hf => ?_))))
  refine wl0 rfl (op_q hf (rq_loadB hf H TF.ls32 0 rfl rfl rfl) rfl (by decide) fun a hf => ?_)
  refine pr 1 hf rfl rfl fun a hf => ?_
  obtain ⟨y2, hy2, hF⟩ := bind_some hF
  refine wl0 rfl (op_call hf TF.cl148 rfl (by decide) (laws_heldFiberS_ok (S := fun _ => True) (mk_list (rep_true (α := List Fiber) (H.get 0 rfl))) mk_int hy2) fun v2 w a hp2 hf => ?_)
  obtain ⟨hb2, hp2⟩ := hp2
  obtain rfl := VR_int hp2
  have H := H.keep hb2
  refine pr 1 hf rfl rfl fun a hf => ?_
  have hf := hf.prune [1] rfl
  refine wl_end (then_n (sq (sq (reg (pr 2 hf rfl rfl fun a hf => ?_)))))
  refine wl_end (then_n (iteB hF (fun hc2 hF => cd_t hf rfl hc2 ?_) fun hc2 hF => cd_f hf rfl hc2 ?_))
  ·refine sq (reg (pr 1 hf rfl rfl fun a hf => ?_))
   refine wl_end (then_n (wp_ret (then_r (?_))))
   obtain rfl := Option.some.inj hF
   refine ret_1 (fn := Tryz.f81) (r := .tmp 4) hf rfl (rv_tmp hf rfl) ?_
   exact ⟨_, rfl, H.bel, mk_int⟩
  ·refine wp_skip (then_n (sq (reg (pr 2 hf rfl rfl fun a hf => ?_))))
   refine wl_end (then_n (wp_ret (?_)))
   obtain rfl := Option.some.inj hF
   refine ret_1 (fn := Tryz.f81) (r := .tmp 4) hf rfl (rv_tmp hf rfl) ?_
   exact ⟨_, rfl, H.bel, mk_int⟩

/- loop.example/g00897/laws.heldLightS -/
set_option maxHeartbeats 1000000 in
theorem laws_heldLightS_ok {fu : Nat} {w0 : World} {S : Nat → Prop} {v0_ : Value} {v1_ : Value} {a' : List Light} {k' : Int} {r : Int} (h0 : VR w0 S v0_ a') (h1 : VR w0 S v1_ k') (hF : laws_heldLightS fu a' k' = some r) :
    Calls Tryz.prog 82 [v0_, v1_].toArray w0 fun e w' => ∃ v, e = .returned v ∧ (Below w0.heap.size w0 w' ∧ VR w' (St ⟨w0, []⟩ S [] [] [] true) v r) := by
 obtain ⟨A, c, rfl, hl⟩ := VR_list h0
 obtain rfl := VR_int h1
 have H := Mem.start ⟨w0, []⟩ S
 have H := H.pushArg (MP.val [(.slice A a'.length c)] a') hl
 refine enter Tryz.func82 rfl rfl (nle rfl) rfl fun a hf => ?_
 rw [laws_heldLightS] at hF
 refine sq (reg (pr 1 hf rfl rfl fun a hf => ?_))
 refine wl_end (then_n (sq (sq (reg (pr 1 hf rfl rfl fun a hf => ?_)))))
 refine wl_end (then_n ?_)
 obtain ⟨out', hB1, hF⟩ := bind_some hF
 have hf := hf.prune [0, 1, 5] rfl
 have H := H.let [] [] [] [0] rfl rfl rfl rfl
 refine loopC (fun (s : Int × Int) (a : Act) (w : World) => match s with | (k2, i) => Fr a 62 [(0, (.slice A a'.length c)), (1, (.int .i64 k2)), (5, (.int .i64 i))] ∧ Mem ⟨w0, []⟩ S [] [] [] [(false, MP.val [(.slice A a'.length c)] (a' : List Light))] w) (fun k (s : Int × Int) => laws_heldLightS_L1 fu a' k s.1 s.2 = some out') (fun s => out' = Out.next s) (k', 0) fu hB1 ⟨hf, H⟩ (fun s h => by cases h) ?_ ?_
 ·rintro fk ⟨k2, i⟩ a w hR1 hI
  replace hR1 : laws_heldLightS_L1 fu a' (fk + 1) k2 i = some out' := hR1
  rw [laws_heldLightS_L1] at hR1
  obtain ⟨hf, H⟩ := hI
  refine sq (sq (reg (pr 4 hf rfl rfl fun a hf => ?_)))
  refine wl_end (then_n (iteB hR1 (fun hc hR1 => cd_t hf rfl hc ?_) fun hc hR1 => cd_f hf rfl hc ?_))
  ·refine wp_skip (then_n (sq (wp_block (sq (sq (reg (pr 2 hf rfl rfl fun a hf => ?_)))))))
   obtain ⟨e, he, hR1⟩ := bind_some hR1
   refine wl0 rfl (op_iaddr hf H Tryz.underlying35 TF.sz112 0 rfl rfl rfl he (by decide) fun p o cs a hf hr H => ?_)
   obtain ⟨A2, c2, rfl, hl2⟩ := Light_cells hr
   have H := H.push (false, MP.val [(.slice A2 e.Route.Fibers.length c2)] e.Route.Fibers) hl2
   refine pr 1 hf rfl rfl fun a hf => ?_
   refine wl0 rfl (op_q hf (rq_loadI hf H TF.ls3 1 0 rfl rfl rfl) rfl (by decide) fun a hf => ?_)
   refine pr 2 hf rfl rfl fun a hf => ?_
   refine wl_end (then_n (iteB hR1 (fun hc2 hR1 => cd_t hf rfl hc2 ?_) fun hc2 hR1 => cd_f hf rfl hc2 ?_))
   ·refine sq (reg (pr 1 hf rfl rfl fun a hf => ?_))
    have hf := hf.prune [4] rfl
    refine wl_end (then_n (wp_ret (then_r (blk_r (then_r (then_r (blk_r (then_r (then_r (?_))))))))))
    obtain rfl := Option.some.inj hR1
    replace hF := on_ret hF
    obtain rfl := Option.some.inj hF
    refine ret_1 (fn := Tryz.f82) (r := .tmp 4) hf rfl (rv_tmp hf rfl) ?_
    exact ⟨_, rfl, H.bel, mk_int⟩
   ·refine wp_skip (then_n (sq (reg (pr 3 hf rfl rfl fun a hf => ?_))))
    have hf := hf.prune [0, 1, 5] rfl
    refine wl_end (then_n (sq (sq (reg (pr 2 hf rfl rfl fun a hf => ?_)))))
    obtain ⟨e2, he2, hR1⟩ := bind_some hR1
    refine wl0 rfl (op_iaddr hf H Tryz.underlying35 TF.sz112 2 rfl rfl rfl he2 (by decide) fun p2 o2 cs2 a hf hr2 H => ?_)
    obtain ⟨A3, c3, rfl, hl3⟩ := Light_cells hr2
    have H := H.push (false, MP.val [(.slice A3 e2.Route.Fibers.length c3)] e2.Route.Fibers) hl3
    refine pr 2 hf rfl rfl fun a hf => ?_
    refine wl0 rfl (op_q hf (rq_loadI hf H TF.ls3 1 1 rfl rfl rfl) rfl (by decide) fun a hf => ?_)
    refine pr 2 hf rfl rfl fun a hf => ?_
    refine wl_end (then_n (iteB hR1 (fun hc3 hR1 => cd_t hf rfl hc3 ?_) fun hc3 hR1 => cd_f hf rfl hc3 ?_))
    ·refine sq (reg (pr 1 hf rfl rfl fun a hf => ?_))
     refine wl_end (then_n (wp_ret (then_r (blk_r (then_r (then_r (blk_r (then_r (then_r (?_))))))))))
     obtain rfl := Option.some.inj hR1
     replace hF := on_ret hF
     obtain rfl := Option.some.inj hF
     refine ret_1 (fn := Tryz.f82) (r := .tmp 4) hf rfl (rv_tmp hf rfl) ?_
     exact ⟨_, rfl, H.bel, mk_int⟩
    ·refine wp_skip (then_n (sq (reg (pr 3 hf rfl rfl fun a hf => ?_))))
     refine wl_end (then_n (sq (reg (pr 2 hf rfl rfl fun a hf => ?_))))
     obtain ⟨e3, he3, hR1⟩ := bind_some hR1
     refine wl0 rfl (op_iaddr hf H Tryz.underlying35 TF.sz112 4 rfl rfl rfl he3 (by decide) fun p3 o3 cs3 a hf hr3 H => ?_)
     obtain ⟨A4, c4, rfl, hl4⟩ := Light_cells hr3
     have H := H.push (false, MP.val [(.slice A4 e3.Route.Fibers.length c4)] e3.Route.Fibers) hl4
     refine pr 2 hf rfl rfl fun a hf => ?_
     refine wl0 rfl (op_q hf (rq_loadI hf H TF.ls44 1 2 rfl rfl rfl) rfl (by decide) fun a hf => ?_)
     refine pr 1 hf rfl rfl fun a hf => ?_
     obtain ⟨y, hy, hR1⟩ := bind_some hR1
     refine wl0 rfl (op_call hf TF.cl27 rfl (by decide) (laws_heldIntS_ok (S := fun _ => True) (mk_list (rep_true (α := List Int) (H.get 0 rfl))) mk_int hy) fun v w a hp hf => ?_)
     obtain ⟨hb, hp⟩ := hp
     obtain rfl := VR_int hp
     have H := H.keep hb
     refine pr 1 hf rfl rfl fun a hf => ?_
     have hf := hf.prune [0, 1, 5] rfl
     refine wl_end (then_n (sq (sq (reg (pr 2 hf rfl rfl fun a hf => ?_)))))
     refine wl_end (then_n (iteB hR1 (fun hc4 hR1 => cd_t hf rfl hc4 ?_) fun hc4 hR1 => cd_f hf rfl hc4 ?_))
     ·refine sq (reg (pr 1 hf rfl rfl fun a hf => ?_))
      refine wl_end (then_n (wp_ret (then_r (blk_r (then_r (then_r (blk_r (then_r (then_r (?_))))))))))
      obtain rfl := Option.some.inj hR1
      replace hF := on_ret hF
      obtain rfl := Option.some.inj hF
      refine ret_1 (fn := Tryz.f82) (r := .tmp 4) hf rfl (rv_tmp hf rfl) ?_
      exact ⟨_, rfl, H.bel, mk_int⟩
     ·refine wp_skip (then_n (sq (sq (reg (pr 2 hf rfl rfl fun a hf => ?_)))))
      obtain ⟨e4, he4, hR1⟩ := bind_some hR1
      refine wl0 rfl (op_iaddr hf H Tryz.underlying35 TF.sz112 6 rfl rfl rfl he4 (by decide) fun p4 o4 cs4 a hf hr4 H => ?_)
      obtain ⟨A5, c5, rfl, hl5⟩ := Light_cells hr4
      have H := H.push (false, MP.val [(.slice A5 e4.Route.Fibers.length c5)] e4.Route.Fibers) hl5
      refine pr 2 hf rfl rfl fun a hf => ?_
      refine wl0 rfl (op_q hf (rq_loadI hf H TF.ls3 1 3 rfl rfl rfl) rfl (by decide) fun a hf => ?_)
      refine pr 2 hf rfl rfl fun a hf => ?_
      refine wl_end (then_n (iteB hR1 (fun hc5 hR1 => cd_t hf rfl hc5 ?_) fun hc5 hR1 => cd_f hf rfl hc5 ?_))
      ·refine sq (reg (pr 1 hf rfl rfl fun a hf => ?_))
       have hf := hf.prune [4] rfl
       refine wl_end (then_n (wp_ret (then_r (blk_r (then_r (then_r (blk_r (then_r (then_r (?_))))))))))
       obtain rfl := Option.some.inj hR1
       replace hF := on_ret hF
       obtain rfl := Option.some.inj hF
       refine ret_1 (fn := Tryz.f82) (r := .tmp 4) hf rfl (rv_tmp hf rfl) ?_
       exact ⟨_, rfl, H.bel, mk_int⟩
      ·refine wp_skip (then_n (sq (reg (pr 3 hf rfl rfl fun a hf => ?_))))
       refine wl_end (then_n (sq (sq (reg (pr 2 hf rfl rfl fun a hf => ?_)))))
       obtain ⟨e5, he5, hR1⟩ := bind_some hR1
       refine wl0 rfl (op_iaddr hf H Tryz.underlying35 TF.sz112 8 rfl rfl rfl he5 (by decide) fun p5 o5 cs5 a hf hr5 H => ?_)
       obtain ⟨A6, c6, rfl, hl6⟩ := Light_cells hr5
       have H := H.push (false, MP.val [(.slice A6 e5.Route.Fibers.length c6)] e5.Route.Fibers) hl6
       refine pr 2 hf rfl rfl fun a hf => ?_
       refine wl0 rfl (op_q hf (rq_loadI hf H TF.ls3 1 4 rfl rfl rfl) rfl (by decide) fun a hf => ?_)
       refine pr 2 hf rfl rfl fun a hf => ?_
       have hf := hf.prune [0, 1, 5, 58] rfl
       refine wl_end (then_n (iteB hR1 (fun hc6 hR1 => cd_t hf rfl hc6 ?_) fun hc6 hR1 => cd_f hf rfl hc6 ?_))
       ·refine sq (reg (pr 1 hf rfl rfl fun a hf => ?_))
        refine wl_end (then_n (wp_ret (then_r (blk_r (then_r (then_r (blk_r (then_r (then_r (?_))))))))))
        obtain rfl := Option.some.inj hR1
        replace hF := on_ret hF
        obtain rfl := Option.some.inj hF
        refine ret_1 (fn := Tryz.f82) (r := .tmp 4) hf rfl (rv_tmp hf rfl) ?_
        exact ⟨_, rfl, H.bel, mk_int⟩
       ·refine wp_skip (then_n (reg (pr 3 hf rfl rfl fun a hf => ?_)))
        refine wl_end (blk_n (then_n (reg (pr 3 hf rfl rfl fun a hf => ?_))))
        refine wl_end ?_
        have hf := hf.prune [0, 1, 5] rfl
        have H := H.let [] [] [] [10] rfl rfl rfl rfl
        exact then_n ⟨(w64 ((w64 (y + 1)) + 1), w64 (i + 1)), hR1, hf, H⟩
  ·refine wp_exit (then_x (then_x (blk_e (?_))))
   have hf := hf.prune [0, 1, 5] rfl
   have H := H.let [] [] [] [0] rfl rfl rfl rfl
   exact ⟨(k2, i), (Option.some.inj hR1).symm, hf, H⟩
 rintro a w ⟨⟨k3, i2⟩, rfl, hf, H⟩
 replace hF := on_next hF
 dsimp only at hF
 refine then_n (sq (reg (pr 2 hf rfl rfl fun a hf => ?_)))
 refine wl_end (then_n (wp_ret (?_)))
 obtain rfl := Option.some.inj hF
 refine ret_1 (fn := Tryz.f82) (r := .tmp 4) hf rfl (rv_tmp hf rfl) ?_
 exact ⟨_, rfl, H.bel, mk_int⟩

/- loop.example/g00897/laws.heldPlan -/
set_option maxHeartbeats 1000000 in
theorem laws_heldPlan_ok {fu : Nat} {w0 : World} {S : Nat → Prop} {v0_ : Value} {v1_ : Value} {a' : Plan} {k' : Int} {r : Int} (h0 : VR w0 S v0_ a') (h1 : VR w0 S v1_ k') (hF : laws_heldPlan fu a' k' = some r) :
    Calls Tryz.prog 30 [v0_, v1_].toArray w0 fun e w' => ∃ v, e = .returned v ∧ (Below w0.heap.size w0 w' ∧ VR w' (St ⟨w0, []⟩ S [] [] [] true) v r) := by
 obtain ⟨A, c, A2, c2, A3, c3, rfl, hl, hl2, hl3⟩ := Plan_open h0
 obtain rfl := VR_int h1
 have H := Mem.start ⟨w0, []⟩ S
 have H := H.pushArg (MP.val [(.slice A a'.Network.Nodes.length c)] a'.Network.Nodes) hl
 have H := H.pushArg (MP.val [(.slice A2 a'.Network.Fibers.length c2)] a'.Network.Fibers) hl2
 have H := H.pushArg (MP.val [(.slice A3 a'.Lights.length c3)] a'.Lights) hl3
 refine enter Tryz.func30 rfl rfl (nle rfl) rfl fun a hf => ?_
 rw [laws_heldPlan] at hF
 refine sq (reg (wl0 rfl (op_box hf H rfl rfl (by decide) fun b' a w hf H => ?_)))
 refine pr 1 hf rfl rfl fun a hf => ?_
 refine wl_end (then_n (sq (reg (pr 1 hf rfl rfl fun a hf => ?_))))
 refine wl0 rfl (op_q hf (rq_loadBN hf H TF.la34 0 rfl rfl rfl rfl) rfl (by decide) fun a hf => ?_)
 refine pr 1 hf rfl rfl fun a hf => ?_
 obtain ⟨y, hy, hF⟩ := bind_some hF
 refine wl0 rfl (op_call hf TF.cl81 rfl (by decide) (laws_heldNetwork_ok (S := fun _ => True) (Network_mkv (x := a'.Network) (rep_true (α := List ByteArray) (H.get 2 rfl)) (rep_true (α := List Fiber) (H.get 1 rfl))) mk_int hy) fun v w a hp hf => ?_)
 obtain ⟨hb, hp⟩ := hp
 obtain rfl := VR_int hp
 have H := H.keep hb
 refine pr 1 hf rfl rfl fun a hf => ?_
 refine wl_end (then_n (sq (sq (reg (pr 2 hf rfl rfl fun a hf => ?_)))))
 refine wl_end (then_n (iteB hF (fun hc hF => cd_t hf rfl hc ?_) fun hc hF => cd_f hf rfl hc ?_))
 ·refine sq (reg (pr 1 hf rfl rfl fun a hf => ?_))
  refine wl_end (then_n (wp_ret (then_r (?_))))
  obtain rfl := Option.some.inj hF
  refine ret_1 (fn := Tryz.f30) (r := .tmp 4) hf rfl (rv_tmp hf rfl) ?_
  exact ⟨_, rfl, H.bel, mk_int⟩
 ·refine wp_skip (then_n (sq (reg (pr 1 hf rfl rfl fun a hf => ?_))))
  refine wl0 rfl (op_q hf (rq_loadB hf H TF.ls35 0 rfl rfl rfl) rfl (by decide) fun a hf => ?_)
  refine pr 1 hf rfl rfl fun a hf => ?_
  obtain ⟨y2, hy2, hF⟩ := bind_some hF
  refine wl0 rfl (op_call hf TF.cl82 rfl (by decide) (laws_heldLightS_ok (S := fun _ => True) (mk_list (rep_true (α := List Light) (H.get 0 rfl))) mk_int hy2) fun v2 w a hp2 hf => ?_)
  obtain ⟨hb2, hp2⟩ := hp2
  obtain rfl := VR_int hp2
  have H := H.keep hb2
  refine pr 1 hf rfl rfl fun a hf => ?_
  have hf := hf.prune [1] rfl
  refine wl_end (then_n (sq (sq (reg (pr 2 hf rfl rfl fun a hf => ?_)))))
  refine wl_end (then_n (iteB hF (fun hc2 hF => cd_t hf rfl hc2 ?_) fun hc2 hF => cd_f hf rfl hc2 ?_))
  ·refine sq (reg (pr 1 hf rfl rfl fun a hf => ?_))
   refine wl_end (then_n (wp_ret (then_r (?_))))
   obtain rfl := Option.some.inj hF
   refine ret_1 (fn := Tryz.f30) (r := .tmp 4) hf rfl (rv_tmp hf rfl) ?_
   exact ⟨_, rfl, H.bel, mk_int⟩
  ·refine wp_skip (then_n (sq (reg (pr 2 hf rfl rfl fun a hf => ?_))))
   refine wl_end (then_n (wp_ret (?_)))
   obtain rfl := Option.some.inj hF
   refine ret_1 (fn := Tryz.f30) (r := .tmp 4) hf rfl (rv_tmp hf rfl) ?_
   exact ⟨_, rfl, H.bel, mk_int⟩

/- loop.example/g00897/laws.szAction -/
set_option maxHeartbeats 1000000 in
theorem laws_szAction_ok {fu : Nat} {w0 : World} {S : Nat → Prop} {v0_ : Value} {v1_ : Value} {a' : Action} {left : Int} {r : Int} (h0 : VR w0 S v0_ a') (h1 : VR w0 S v1_ left) (hF : laws_szAction fu a' left = some r) :
    Calls Tryz.prog 107 [v0_, v1_].toArray w0 fun e w' => ∃ v, e = .returned v ∧ (Below w0.heap.size w0 w' ∧ VR w' (St ⟨w0, []⟩ S [] [] [] true) v r) := by
 obtain ⟨A, c, rfl, hl⟩ := Action_open h0
 obtain rfl := VR_int h1
 have H := Mem.start ⟨w0, []⟩ S
 have H := H.pushArg (MP.val [(.slice A a'.Light.Route.Fibers.length c)] a'.Light.Route.Fibers) hl
 refine enter Tryz.func107 rfl rfl (nle rfl) rfl fun a hf => ?_
 rw [laws_szAction] at hF
 refine sq (reg (wl0 rfl (op_box hf H rfl rfl (by decide) fun b' a w hf H => ?_)))
 refine pr 1 hf rfl rfl fun a hf => ?_
 refine wl_end (then_n (sq (reg (pr 1 hf rfl rfl fun a hf => ?_))))
 refine wl0 rfl (op_q hf (rq_loadBN hf H TF.la145 0 rfl rfl rfl rfl) rfl (by decide) fun a hf => ?_)
 refine pr 1 hf rfl rfl fun a hf => ?_
 obtain ⟨y, hy, hF⟩ := bind_some hF
 refine wl0 rfl (op_call hf TF.cl119 rfl (by decide) (laws_szLight_ok (S := fun _ => True) (Light_mkv (x := a'.Light) (rep_true (α := List Int) (H.get 0 rfl))) mk_int hy) fun v w a hp hf => ?_)
 obtain ⟨hb, hp⟩ := hp
 obtain rfl := VR_int hp
 have H := H.keep hb
 refine pr 1 hf rfl rfl fun a hf => ?_
 refine wl_end (then_n (sq (sq (reg (pr 2 hf rfl rfl fun a hf => ?_)))))
 refine wl_end (then_n (iteB hF (fun hc hF => cd_t hf rfl hc ?_) fun hc hF => cd_f hf rfl hc ?_))
 ·refine sq (reg (pr 1 hf rfl rfl fun a hf => ?_))
  refine wl_end (then_n (wp_ret (then_r (?_))))
  obtain rfl := Option.some.inj hF
  refine ret_1 (fn := Tryz.f107) (r := .tmp 4) hf rfl (rv_tmp hf rfl) ?_
  exact ⟨_, rfl, H.bel, mk_int⟩
 ·refine wp_skip (then_n (sq (reg (pr 2 hf rfl rfl fun a hf => ?_))))
  refine wl_end (then_n (wp_ret (?_)))
  obtain rfl := Option.some.inj hF
  refine ret_1 (fn := Tryz.f107) (r := .tmp 4) hf rfl (rv_tmp hf rfl) ?_
  exact ⟨_, rfl, H.bel, mk_int⟩

/- loop.example/g00897/laws.szActionS -/
set_option maxHeartbeats 1000000 in
theorem laws_szActionS_ok {fu : Nat} {w0 : World} {S : Nat → Prop} {v0_ : Value} {v1_ : Value} {a' : List Action} {left : Int} {r : Int} (h0 : VR w0 S v0_ a') (h1 : VR w0 S v1_ left) (hF : laws_szActionS fu a' left = some r) :
    Calls Tryz.prog 47 [v0_, v1_].toArray w0 fun e w' => ∃ v, e = .returned v ∧ (Below w0.heap.size w0 w' ∧ VR w' (St ⟨w0, []⟩ S [] [] [] true) v r) := by
 obtain ⟨A, c, rfl, hl⟩ := VR_list h0
 obtain rfl := VR_int h1
 have H := Mem.start ⟨w0, []⟩ S
 have H := H.pushArg (MP.val [(.slice A a'.length c)] a') hl
 refine enter Tryz.func47 rfl rfl (nle rfl) rfl fun a hf => ?_
 rw [laws_szActionS] at hF
 refine sq (reg (pr 1 hf rfl rfl fun a hf => ?_))
 refine wl_end (then_n (sq (reg (pr 5 hf rfl rfl fun a hf => ?_))))
 refine wl_end (then_n (sq (sq (reg (pr 2 hf rfl rfl fun a hf => ?_)))))
 refine wl_end (then_n (iteB hF (fun hc hF => cd_t hf rfl hc ?_) fun hc hF => cd_f hf rfl hc ?_))
 ·refine sq (reg (pr 1 hf rfl rfl fun a hf => ?_))
  refine wl_end (then_n (wp_ret (then_r (?_))))
  obtain rfl := Option.some.inj hF
  refine ret_1 (fn := Tryz.f47) (r := .tmp 4) hf rfl (rv_tmp hf rfl) ?_
  exact ⟨_, rfl, H.bel, mk_int⟩
 ·refine wp_skip (then_n (sq (sq (reg (pr 1 hf rfl rfl fun a hf => ?_)))))
  refine wl_end (then_n ?_)
  obtain ⟨out', hB1, hF⟩ := bind_some hF
  have hf := hf.prune [0, 1, 5] rfl
  have H := H.let [] [] [] [0] rfl rfl rfl rfl
  refine loopC (fun (s : Int × Int) (a : Act) (w : World) => match s with | (left2, i) => Fr a 27 [(0, (.slice A a'.length c)), (1, (.int .i64 left2)), (5, (.int .i64 i))] ∧ Mem ⟨w0, []⟩ S [] [] [] [(false, MP.val [(.slice A a'.length c)] (a' : List Action))] w) (fun k (s : Int × Int) => laws_szActionS_L1 fu a' k s.1 s.2 = some out') (fun s => out' = Out.next s) (w64 (left - (a'.length : Int)), 0) fu hB1 ⟨hf, H⟩ (fun s h => by cases h) ?_ ?_
  ·rintro fk ⟨left2, i⟩ a w hR1 hI
   replace hR1 : laws_szActionS_L1 fu a' (fk + 1) left2 i = some out' := hR1
   rw [laws_szActionS_L1] at hR1
   obtain ⟨hf, H⟩ := hI
   refine sq (sq (reg (pr 4 hf rfl rfl fun a hf => ?_)))
   refine wl_end (then_n (iteB hR1 (fun hc2 hR1 => cd_t hf rfl hc2 ?_) fun hc2 hR1 => cd_f hf rfl hc2 ?_))
   ·refine wp_skip (then_n (sq (wp_block (sq (reg (pr 2 hf rfl rfl fun a hf => ?_))))))
    obtain ⟨e, he, hR1⟩ := bind_some hR1
    refine wl0 rfl (op_iaddr hf H Tryz.underlying71 TF.sz147 0 rfl rfl rfl he (by decide) fun p o cs a hf hr H => ?_)
    obtain ⟨A2, c2, rfl, hl2⟩ := Action_cells hr
    have H := H.push (false, MP.val [(.slice A2 e.Light.Route.Fibers.length c2)] e.Light.Route.Fibers) hl2
    refine wl0 rfl (op_q hf (rq_loadIN hf H TF.la147 1 0 rfl rfl rfl rfl) rfl (by decide) fun a hf => ?_)
    refine pr 1 hf rfl rfl fun a hf => ?_
    obtain ⟨y, hy, hR1⟩ := bind_some hR1
    refine wl0 rfl (op_call hf TF.cl107 rfl (by decide) (laws_szAction_ok (S := fun _ => True) (Action_mkv (x := e) (rep_true (α := List Int) (H.get 0 rfl))) mk_int hy) fun v w a hp hf => ?_)
    obtain ⟨hb, hp⟩ := hp
    obtain rfl := VR_int hp
    have H := H.keep hb
    refine pr 1 hf rfl rfl fun a hf => ?_
    refine wl_end (then_n (sq (reg (pr 2 hf rfl rfl fun a hf => ?_))))
    refine wl_end (then_n (iteB hR1 (fun hc3 hR1 => cd_t hf rfl hc3 ?_) fun hc3 hR1 => cd_f hf rfl hc3 ?_))
    ·refine sq (reg (pr 1 hf rfl rfl fun a hf => ?_))
     have hf := hf.prune [4] rfl
     refine wl_end (then_n (wp_ret (blk_r (then_r (then_r (blk_r (then_r (then_r (?_)))))))))
     obtain rfl := Option.some.inj hR1
     replace hF := on_ret hF
     obtain rfl := Option.some.inj hF
     refine ret_1 (fn := Tryz.f47) (r := .tmp 4) hf rfl (rv_tmp hf rfl) ?_
     exact ⟨_, rfl, H.bel, mk_int⟩
    ·refine wp_skip (blk_n (then_n (reg (pr 3 hf rfl rfl fun a hf => ?_))))
     have hf := hf.prune [0, 1, 5] rfl
     refine wl_end ?_
     have hf := hf.prune [0, 1, 5] rfl
     have H := H.let [] [] [] [2] rfl rfl rfl rfl
     exact then_n ⟨(y, w64 (i + 1)), hR1, hf, H⟩
   ·refine wp_exit (then_x (then_x (blk_e (?_))))
    have hf := hf.prune [0, 1, 5] rfl
    have H := H.let [] [] [] [0] rfl rfl rfl rfl
    exact ⟨(left2, i), (Option.some.inj hR1).symm, hf, H⟩
  rintro a w ⟨⟨left3, i2⟩, rfl, hf, H⟩
  replace hF := on_next hF
  dsimp only at hF
  refine then_n (sq (reg (pr 2 hf rfl rfl fun a hf => ?_)))
  refine wl_end (then_n (wp_ret (?_)))
  obtain rfl := Option.some.inj hF
  refine ret_1 (fn := Tryz.f47) (r := .tmp 4) hf rfl (rv_tmp hf rfl) ?_
  exact ⟨_, rfl, H.bel, mk_int⟩

/- loop.example/g00897/laws.toAction -/
set_option maxHeartbeats 1000000 in
theorem laws_toAction_ok {fu : Nat} {w0 : World} {S : Nat → Prop} {v0_ : Value} {a' : Action} {r : Action} (h0 : VR w0 S v0_ a') (hF : laws_toAction fu a' = some r) :
    Calls Tryz.prog 109 [v0_].toArray w0 fun e w' => ∃ v, e = .returned v ∧ (Below w0.heap.size w0 w' ∧ ∃ F0, VO w' F0 v r ∧ New w0 w' F0) := by
 obtain ⟨A, c, rfl, hl⟩ := Action_open h0
 have H := Mem.start ⟨w0, []⟩ S
 have H := H.pushArg (MP.val [(.slice A a'.Light.Route.Fibers.length c)] a'.Light.Route.Fibers) hl
 refine enter Tryz.func109 rfl rfl (nle rfl) rfl fun a hf => ?_
 rw [laws_toAction] at hF
 refine sq (reg (wl0 rfl (op_box hf H rfl rfl (by decide) fun b' a w hf H => ?_)))
 refine wl0 rfl (op_alloc hf H TF.zv136 rfl (by decide) fun b2 a w hf H => ?_)
 refine wl_end (then_n (sq (reg (wl0 rfl (op_alloc hf H TF.zv136 rfl (by decide) fun b3 a w hf H => ?_)))))
 refine wl_end (then_n (sq (reg (pr 1 hf rfl rfl fun a hf => ?_))))
 refine wl0 rfl (op_q hf (rq_loadB hf H TF.ls3 2 rfl rfl rfl) rfl (by decide) fun a hf => ?_)
 refine pr 1 hf rfl rfl fun a hf => ?_
 refine wl0 rfl (op_storeB hf H 0 TF.sz3 rfl rfl rfl rfl rfl rfl (nle rfl) fun w H => ?_)
 refine wl_end (then_n (sq (reg (pr 1 hf rfl rfl fun a hf => ?_))))
 refine wl0 rfl (op_q hf (rq_loadBN hf H TF.la145 2 rfl rfl rfl rfl) rfl (by decide) fun a hf => ?_)
 obtain ⟨y, hy, hF⟩ := bind_some hF
 refine wl0 rfl (op_call hf TF.cl127 rfl (by decide) (laws_toLight_ok (S := fun _ => True) (Light_mkv (x := a'.Light) (rep_true (α := List Int) (H.get 0 rfl))) hy) fun v w a hp hf => ?_)
 obtain ⟨hb, F, hp2, hN⟩ := hp
 obtain ⟨A2, c2, F2, rfl, rfl, hl2⟩ := Light_vo hp2
 have H := H.addOwn hb (X := [(⟨F2, MP.own F2 [(.slice A2 y.Route.Fibers.length c2)] (y.Route.Fibers : List Int)⟩ : DI)]) (by simpa using hN.1) (ps1 hl2 ps0) (by simpa using hN.2)
 have H := H.lend 0 rfl
 refine pr 1 hf rfl rfl fun a hf => ?_
 refine wl0 rfl (op_storeB hf H 0 TF.sz112 rfl rfl rfl rfl rfl rfl (nle rfl) fun w H => ?_)
 refine wl_end (then_n (sq (reg (wl0 rfl (op_q hf (rq_loadBN hf H TF.la136 0 rfl rfl rfl rfl) rfl (by decide) fun a hf => ?_)))))
 refine wl0 rfl (op_storeB hf H 1 TF.sz136 rfl rfl rfl rfl rfl rfl (nle rfl) fun w H => ?_)
 refine wl_end (then_n (wp_ret (?_)))
 obtain rfl := Option.some.inj hF
 refine ret_1 (fn := Tryz.f109) (r := .cell 2 136) hf rfl (rv_cellN hf H 1 TF.la136 rfl rfl rfl) ?_
 have hN := H.ends (X := [(⟨F2, MP.own F2 [(.slice A2 y.Route.Fibers.length c2)] (y.Route.Fibers : List Int)⟩ : DI)])
 simp only [List.flatMap_cons, List.flatMap_nil, List.append_nil, List.append_assoc] at hN
 exact ⟨_, rfl, H.bel, F2, ⟨_, Action_ownmk (x := ({ Kind := a'.Kind, Light := y } : Action)) (H.ownAt 0 rfl), rfl⟩, by first | exact hN | simpa using hN⟩

/- loop.example/g00897/laws.toActionS -/
set_option maxHeartbeats 1000000 in
theorem laws_toActionS_ok {fu : Nat} {w0 : World} {S : Nat → Prop} {v0_ : Value} {a' : List Action} {r : List Action} (h0 : VR w0 S v0_ a') (hF : laws_toActionS fu a' = some r) :
    Calls Tryz.prog 49 [v0_].toArray w0 fun e w' => ∃ v, e = .returned v ∧ (Below w0.heap.size w0 w' ∧ ∃ F0, VO w' F0 v r ∧ New w0 w' F0) := by
 obtain ⟨A, c, rfl, hl⟩ := VR_list h0
 have H := Mem.start ⟨w0, []⟩ S
 have H := H.pushArg (MP.val [(.slice A a'.length c)] a') hl
 refine enter Tryz.func49 rfl rfl (nle rfl) rfl fun a hf => ?_
 rw [laws_toActionS] at hF
 refine sq (reg (pr 1 hf rfl rfl fun a hf => ?_))
 refine wl_end (then_n (sq (reg (pr 2 hf rfl rfl fun a hf => ?_))))
 obtain ⟨l, hl, hF⟩ := bind_some hF
 refine wl0 rfl (op_makeO (z0 := (({ Kind := 0, Light := ({ Id := 0, Route := ({ Start := 0, Fibers := [] } : Route), Block := ({ First := 0, Count := 0 } : Block) } : Light) } : Action) : Action)) hf H Tryz.underlying65 TF.ai136 rfl (by decide) rfl rfl (fun w => Action_ownmk (x := ({ Kind := 0, Light := ({ Id := 0, Route := ({ Start := 0, Fibers := [] } : Route), Block := ({ First := 0, Count := 0 } : Block) } : Light) } : Action)) lown_nil) hl (by decide) fun A2 c2 Fs a w hf H => ?_)
 refine pr 1 hf rfl rfl fun a hf => ?_
 refine wl_end (then_n (sq (sq (reg (pr 1 hf rfl rfl fun a hf => ?_)))))
 refine wl_end (then_n ?_)
 obtain ⟨out2, hB1, hF⟩ := bind_some hF
 have hf := hf.prune [0, 3, 4] rfl
 have H := H.let [] [true] [] [0] rfl rfl rfl rfl
 refine loopC (fun (s : List Action × Int) (a : Act) (w : World) => match s with | (out', i) => ∃ (A3 : Option Addr) (c3 : Nat) (E : Go.TypeId) (Fs2 : List (List Nat)), Fr a 23 [(0, (.slice A a'.length c)), (3, (.slice A3 out'.length c3)), (4, (.int .i64 i))] ∧ Mem ⟨w0, []⟩ S [] [⟨.ow Fs2, E, A3, c3, (out' : List Action)⟩] [] [(false, MP.val [(.slice A a'.length c)] (a' : List Action))] w) (fun k (s : List Action × Int) => laws_toActionS_L1 fu a' k s.1 s.2 = some out2) (fun s => out2 = s) (l, 0) fu hB1 ⟨A2, c2, 136, Fs, hf, H⟩ (fun s h => by cases h) ?_ ?_
 ·rintro fk ⟨out', i⟩ a w hR1 hI
  replace hR1 : laws_toActionS_L1 fu a' (fk + 1) out' i = some out2 := hR1
  rw [laws_toActionS_L1] at hR1
  obtain ⟨A3, c3, E, Fs2, hf, H⟩ := hI
  refine sq (sq (reg (pr 4 hf rfl rfl fun a hf => ?_)))
  refine wl_end (then_n (iteB hR1 (fun hc hR1 => cd_t hf rfl hc ?_) fun hc hR1 => cd_f hf rfl hc ?_))
  ·refine wp_skip (then_n (sq (wp_block (reg (pr 4 hf rfl rfl fun a hf => ?_)))))
   obtain ⟨e, he, hR1⟩ := bind_some hR1
   refine wl0 rfl (op_iaddr hf H Tryz.underlying71 TF.sz147 0 rfl rfl rfl he (by decide) fun p o cs a hf hr H => ?_)
   obtain ⟨A4, c4, rfl, hl2⟩ := Action_cells hr
   have H := H.push (false, MP.val [(.slice A4 e.Light.Route.Fibers.length c4)] e.Light.Route.Fibers) hl2
   refine wl0 rfl (op_q hf (rq_loadIN hf H TF.la147 1 0 rfl rfl rfl rfl) rfl (by decide) fun a hf => ?_)
   obtain ⟨y, hy, hR1⟩ := bind_some hR1
   refine wl0 rfl (op_call hf TF.cl109 rfl (by decide) (laws_toAction_ok (S := fun _ => True) (Action_mkv (x := e) (rep_true (α := List Int) (H.get 0 rfl))) hy) fun v w a hp hf => ?_)
   obtain ⟨hb, F, hp2, hN⟩ := hp
   obtain ⟨A5, c5, F2, rfl, rfl, hl3⟩ := Action_vo hp2
   have H := H.addOwn hb (X := [(⟨F2, MP.own F2 [(.slice A5 y.Light.Route.Fibers.length c5)] (y.Light.Route.Fibers : List Int)⟩ : DI)]) (by simpa using hN.1) (ps1 hl3 ps0) (by simpa using hN.2)
   have H := H.lend 0 rfl
   obtain ⟨e2, he2, hR1⟩ := bind_some hR1
   refine wl0 rfl (op_iaddrR hf H Tryz.underlying65 TF.sz136 0 rfl rfl rfl he2 (by decide) fun p2 o2 cs2 a hf hA hr2 hk => ?_)
   have hrk := hr2
   obtain ⟨A6, c6, rfl, hl4⟩ := Action_cells hr2
   have H := H.push (true, MP.val [(.slice A6 e2.Light.Route.Fibers.length c6)] e2.Light.Route.Fibers) hl4
   have H := H.recast (X := [(⟨F2, MP.own F2 [(.slice A5 y.Light.Route.Fibers.length c5)] (y.Light.Route.Fibers : List Int)⟩ : DI)]) (Y := [(⟨F2, MP.own F2 [(.int .i64 y.Kind), (.int .i64 y.Light.Id), (.int .i64 y.Light.Route.Start), (.slice A5 y.Light.Route.Fibers.length c5), (.int .i64 y.Light.Block.First), (.int .i64 y.Light.Block.Count)] (y : Action)⟩ : DI)]) (List.Perm.of_eq (by simp)) fun _ => ps1 (Action_ownmk (x := y) (H.ownAt 0 rfl)) ps0
   refine wl0 rfl (op_storeO hf H TF.sz136 rfl rfl rfl rfl rfl rfl hA he2 fun w H => ?_)
   replace hf : Fr a 23 [(0, (.slice A a'.length c)), (3, (.slice A3 out'.length c3)), (4, (.int .i64 i)), (8, (.int .i64 i)), (9, (.slice A a'.length c)), (10, (.int .i64 (a'.length : Int))), (11, (.bool (decide (i < (a'.length : Int))))), (14, (.slice A3 out'.length c3)), (15, (.int .i64 i)), (16, (.slice A a'.length c)), (17, (.int .i64 i)), (18, (.pointer (some ⟨p, o + 0, none⟩))), (19, (.agg #[(.int .i64 e.Kind), (.int .i64 e.Light.Id), (.int .i64 e.Light.Route.Start), (.slice A4 e.Light.Route.Fibers.length c4), (.int .i64 e.Light.Block.First), (.int .i64 e.Light.Block.Count)])), (20, (.agg #[(.int .i64 y.Kind), (.int .i64 y.Light.Id), (.int .i64 y.Light.Route.Start), (.slice A5 y.Light.Route.Fibers.length c5), (.int .i64 y.Light.Block.First), (.int .i64 y.Light.Block.Count)])), (21, (.pointer (some ⟨p2, o2 + 0, none⟩)))] := hf.prune [0, 3, 4, 8, 9, 10, 11, 14, 15, 16, 17, 18, 19, 20, 21] rfl
   replace hf : Fr a 23 [(0, (.slice A a'.length c)), (3, (.slice A3 (out'.set (i).toNat y).length c3)), (4, (.int .i64 i)), (8, (.int .i64 i)), (9, (.slice A a'.length c)), (10, (.int .i64 (a'.length : Int))), (11, (.bool (decide (i < (a'.length : Int))))), (14, (.slice A3 (out'.set (i).toNat y).length c3)), (15, (.int .i64 i)), (16, (.slice A a'.length c)), (17, (.int .i64 i)), (18, (.pointer (some ⟨p, o + 0, none⟩))), (19, (.agg #[(.int .i64 e.Kind), (.int .i64 e.Light.Id), (.int .i64 e.Light.Route.Start), (.slice A4 e.Light.Route.Fibers.length c4), (.int .i64 e.Light.Block.First), (.int .i64 e.Light.Block.Count)])), (20, (.agg #[(.int .i64 y.Kind), (.int .i64 y.Light.Id), (.int .i64 y.Light.Route.Start), (.slice A5 y.Light.Route.Fibers.length c5), (.int .i64 y.Light.Block.First), (.int .i64 y.Light.Block.Count)])), (21, (.pointer (some ⟨p2, o2 + 0, none⟩)))] := by simpa only [List.length_set, Nat.add_zero] using hf
   refine wl_end (blk_n (then_n (reg (pr 3 hf rfl rfl fun a hf => ?_))))
   have hf := hf.prune [0, 3, 4] rfl
   refine wl_end ?_
   have hf := hf.prune [0, 3, 4] rfl
   have H := H.let [] [true] [] [4] rfl rfl rfl rfl
   exact then_n ⟨(out'.set (i).toNat y, w64 (i + 1)), hR1, A3, c3, E, Fs2.set (i).toNat F2, hf, H⟩
  ·refine wp_exit (then_x (then_x (blk_e (?_))))
   have hf := hf.prune [0, 3, 4] rfl
   have H := H.let [] [true] [] [0] rfl rfl rfl rfl
   exact ⟨(out', i), (Option.some.inj hR1).symm, A3, c3, E, Fs2, hf, H⟩
 rintro a w ⟨⟨out3, i2⟩, rfl, A7, c7, E2, Fs3, hf, H⟩
 dsimp only at hF
 refine then_n (sq (reg (pr 2 hf rfl rfl fun a hf => ?_)))
 refine wl_end (then_n (wp_ret (?_)))
 obtain ⟨F3, H⟩ := H.freezeOwn 0 rfl
 have H := H.lend 0 rfl
 obtain rfl := Option.some.inj hF
 refine ret_1 (fn := Tryz.f49) (r := .tmp 2) hf rfl (rv_tmp hf rfl) ?_
 have hN := H.ends (X := [(⟨F3, MP.own F3 [(.slice A7 out3.length c7)] (out3 : List Action)⟩ : DI)])
 simp only [List.flatMap_cons, List.flatMap_nil, List.append_nil, List.append_assoc] at hN
 exact ⟨_, rfl, H.bel, F3, (mko_list (H.ownAt 0 rfl)), by first | exact hN | simpa using hN⟩

/- loop.example/g00897/spec.l20Copies -/
set_option maxHeartbeats 1000000 in
theorem spec_l20Copies_ok {fu : Nat} {w0 : World} {S : Nat → Prop} {v0_ : Value} {list : List Action} {r : List Action} (h0 : VR w0 S v0_ list) (hF : spec_l20Copies fu list = some r) :
    Calls Tryz.prog 108 [v0_].toArray w0 fun e w' => ∃ v, e = .returned v ∧ (Below w0.heap.size w0 w' ∧ ∃ F0, VO w' F0 v r ∧ New w0 w' F0) := by
 obtain ⟨A, c, rfl, hl⟩ := VR_list h0
 have H := Mem.start ⟨w0, []⟩ S
 have H := H.pushArg (MP.val [(.slice A list.length c)] list) hl
 refine enter Tryz.func108 rfl rfl (nle rfl) rfl fun a hf => ?_
 rw [spec_l20Copies] at hF
 refine sq (reg (pr 1 hf rfl rfl fun a hf => ?_))
 refine wl_end (then_n (sq (reg (wl0 rfl (op_bslice hf H (.ow []) rfl 136 ([] : List Action) [] rfl (fun w => by kernel_rfl) rfl (by decide) rfl rfl (fun i x h => by simp at h) (by decide) fun A2 a w hf H => ?_)))))
 refine pr 1 hf rfl rfl fun a hf => ?_
 refine wl_end (then_n (sq (sq (reg (pr 1 hf rfl rfl fun a hf => ?_)))))
 refine wl_end (then_n ?_)
 obtain ⟨out2, hB1, hF⟩ := bind_some hF
 have hf := hf.prune [0, 3, 4] rfl
 have H := H.let [] [true] [] [0] rfl rfl rfl rfl
 refine loopC (fun (s : List Action × Int) (a : Act) (w : World) => match s with | (out', i) => ∃ (A3 : Option Addr) (c2 : Nat) (E : Go.TypeId) (Fs : List (List Nat)), Fr a 28 [(0, (.slice A list.length c)), (3, (.slice A3 out'.length c2)), (4, (.int .i64 i))] ∧ Mem ⟨w0, []⟩ S [] [⟨.ow Fs, E, A3, c2, (out' : List Action)⟩] [] [(false, MP.val [(.slice A list.length c)] (list : List Action))] w) (fun k (s : List Action × Int) => spec_l20Copies_L1 fu list k s.1 s.2 = some out2) (fun s => out2 = s) (([] : List Action), 0) fu hB1 ⟨A2, 0, 136, [], hf, H⟩ (fun s h => by cases h) ?_ ?_
 ·rintro fk ⟨out', i⟩ a w hR1 hI
  replace hR1 : spec_l20Copies_L1 fu list (fk + 1) out' i = some out2 := hR1
  rw [spec_l20Copies_L1] at hR1
  obtain ⟨A3, c2, E, Fs, hf, H⟩ := hI
  refine sq (sq (reg (pr 4 hf rfl rfl fun a hf => ?_)))
  refine wl_end (then_n (iteB hR1 (fun hc hR1 => cd_t hf rfl hc ?_) fun hc hR1 => cd_f hf rfl hc ?_))
  ·refine wp_skip (then_n (sq (wp_block (drawn [] (bs := [false, false, false, false, false, false, false, false, false, false, false, false, false, false, false, false]) (fuel := 16) (Checked.mixed Tryz.checked) rfl rfl fun w hb => ?_))))
   have H := H.keep hb
   refine tp 0 rfl rfl hf (by kernel_rfl) (fun _ => trivial) rfl fun a hf => ?_
   refine tp 1 rfl rfl hf (by kernel_rfl) (fun _ => trivial) rfl fun a hf => ?_
   refine tp 2 rfl rfl hf (by kernel_rfl) (fun _ => trivial) rfl fun a hf => ?_
   obtain ⟨e, he, hR1⟩ := bind_some hR1
   obtain ⟨p, o, cs, hx, hr, H⟩ := pre_iaddr H Tryz.underlying65 TF.sz136 0 rfl he
   refine tP 3 rfl rfl rfl rfl hf (by kernel_rfl) (fun _ => trivial) (fun w => rq_iaddrE hf rfl rfl rfl hx w) fun a hf => ?_
   obtain ⟨A4, c3, rfl, hl2⟩ := Action_cells hr
   have H := H.push (false, MP.val [(.slice A4 e.Light.Route.Fibers.length c3)] e.Light.Route.Fibers) hl2
   refine tp 4 rfl rfl hf (by kernel_rfl) (fun _ => trivial) rfl fun a hf => ?_
   refine strT (H.let [] [false] [] [1] rfl rfl rfl rfl) (fun w H => trivial) fun hS => ?_
   refine tS 5 [] rfl rfl rfl rfl hf (by kernel_rfl) (by kernel_rfl) hS (fun w H => rq_loadI hf H TF.ls3 0 0 rfl rfl rfl) fun a hf => ?_
   refine tp 6 rfl rfl hf (by kernel_rfl) (fun _ => hS) rfl fun a hf => ?_
   refine tp 7 rfl rfl hf (by kernel_rfl) (fun _ => hS) rfl fun a hf => ?_
   obtain ⟨e2, he2, hR1⟩ := bind_some hR1
   obtain ⟨p2, o2, cs2, hx2, hr2, H⟩ := pre_iaddr H Tryz.underlying65 TF.sz136 2 rfl he2
   refine tP 8 rfl rfl rfl rfl hf (by kernel_rfl) (fun _ => hS) (fun w => rq_iaddrE hf rfl rfl rfl hx2 w) fun a hf => ?_
   obtain ⟨A5, c4, rfl, hl3⟩ := Action_cells hr2
   have H := H.push (false, MP.val [(.slice A5 e2.Light.Route.Fibers.length c4)] e2.Light.Route.Fibers) hl3
   refine tp 9 rfl rfl hf (by kernel_rfl) (fun _ => hS) rfl fun a hf => ?_
   refine strT (H.let [] [false] [] [1, 3] rfl rfl rfl rfl) (fun w H => H.let [] [] [] [1] rfl rfl rfl rfl) fun hS => ?_
   refine tS 10 [] rfl rfl rfl rfl hf (by kernel_rfl) (by kernel_rfl) hS (fun w H => rq_loadIN hf H TF.la112 0 1 rfl rfl rfl rfl) fun a hf => ?_
   obtain ⟨y, hy, hR1⟩ := bind_some hR1
   refine n1 11 (by kernel_rfl) rfl rfl (op_call hf TF.cl150 rfl (by decide) (spec_l9Copy_ok (S := fun _ => True) (Light_mkv (x := e2.Light) (rep_true (α := List Int) (H.get 0 rfl))) hy) fun v w a hp hf => ?_)
   obtain ⟨hb, F, hp2, hN⟩ := hp
   obtain ⟨A6, c5, F2, rfl, rfl, hl4⟩ := Light_vo hp2
   have H := H.addOwn hb (X := [(⟨F2, MP.own F2 [(.slice A6 y.Route.Fibers.length c5)] (y.Route.Fibers : List Int)⟩ : DI)]) (by simpa using hN.1) (ps1 hl4 ps0) (by simpa using hN.2)
   have H := H.lend 0 rfl
   have hS := H.let [] [false] [false] [2, 4] rfl rfl rfl rfl
   refine ⟨fun _ => hS, ?_⟩
   refine tP 12 rfl rfl rfl rfl hf (by kernel_rfl) (fun _ => hS) (fun w => rq_build hf (cs := [(.int .i64 e.Kind), (.int .i64 y.Id), (.int .i64 y.Route.Start), (.slice A6 y.Route.Fibers.length c5), (.int .i64 y.Block.First), (.int .i64 y.Block.Count)]) rfl (fun w => by kernel_rfl)) fun a hf => ?_
   have H := H.recast (X := [(⟨F2, MP.own F2 [(.slice A6 y.Route.Fibers.length c5)] (y.Route.Fibers : List Int)⟩ : DI)]) (Y := [(⟨F2, MP.own F2 [(.int .i64 e.Kind), (.int .i64 y.Id), (.int .i64 y.Route.Start), (.slice A6 y.Route.Fibers.length c5), (.int .i64 y.Block.First), (.int .i64 y.Block.Count)] (({ Kind := e.Kind, Light := y } : Action) : Action)⟩ : DI)]) (List.Perm.of_eq (by simp)) fun _ => ps1 (Action_ownmk (x := ({ Kind := e.Kind, Light := y } : Action)) (H.ownAt 0 rfl)) ps0
   refine n1 13 (by kernel_rfl) rfl rfl (op_bsliceO hf 136 H rfl (fun w => by kernel_rfl) (by decide) fun A7 a w hf H => ?_)
   have hS := H.let [] [false, false] [] [2, 4] rfl rfl rfl rfl
   refine ⟨fun _ => hS, ?_⟩
   obtain ⟨l, hl, hR1⟩ := bind_some hR1
   have H := H.frontR 1 rfl
   refine n1 14 (by kernel_rfl) rfl rfl (op_appO hf H Tryz.underlying65 TF.ai136 rfl (by decide) rfl rfl hl (by decide) fun E2 A8 c6 a w hf H => ?_)
   have hS := H.let [] [false] [] [2, 4] rfl rfl rfl rfl
   refine ⟨fun _ => hS, ?_⟩
   refine tp 15 rfl rfl hf (by kernel_rfl) (fun _ => hS) rfl fun a hf => ?_
   refine dn (by kernel_rfl) ?_
   have hf := hf.prune [0, 3, 4] rfl
   refine blk_n (then_n (reg (pr 3 hf rfl rfl fun a hf => ?_)))
   refine wl_end ?_
   have hf := hf.prune [0, 3, 4] rfl
   have H := H.let [] [true] [] [5] rfl rfl rfl rfl
   exact then_n ⟨(l, w64 (i + 1)), hR1, A8, c6, E2, Fs ++ [F2], hf, H⟩
  ·refine wp_exit (then_x (then_x (blk_e (?_))))
   have hf := hf.prune [0, 3, 4] rfl
   have H := H.let [] [true] [] [0] rfl rfl rfl rfl
   exact ⟨(out', i), (Option.some.inj hR1).symm, A3, c2, E, Fs, hf, H⟩
 rintro a w ⟨⟨out3, i2⟩, rfl, A9, c7, E3, Fs2, hf, H⟩
 dsimp only at hF
 refine then_n (sq (reg (pr 2 hf rfl rfl fun a hf => ?_)))
 refine wl_end (then_n (wp_ret (?_)))
 obtain ⟨F3, H⟩ := H.freezeOwn 0 rfl
 have H := H.lend 0 rfl
 obtain rfl := Option.some.inj hF
 refine ret_1 (fn := Tryz.f108) (r := .tmp 2) hf rfl (rv_tmp hf rfl) ?_
 have hN := H.ends (X := [(⟨F3, MP.own F3 [(.slice A9 out3.length c7)] (out3 : List Action)⟩ : DI)])
 simp only [List.flatMap_cons, List.flatMap_nil, List.append_nil, List.append_assoc] at hN
 exact ⟨_, rfl, H.bel, F3, (mko_list (H.ownAt 0 rfl)), by first | exact hN | simpa using hN⟩

/- loop.example/g00897/spec.StartChange -/
set_option maxHeartbeats 1000000 in
theorem spec_StartChange_ok {fu : Nat} {w0 : World} {S : Nat → Prop} {v0_ : Value} {v1_ : Value} {p : Plan} {list : List Action} {r : Change × Bool} (h0 : VR w0 S v0_ p) (h1 : VR w0 S v1_ list) (hF : spec_StartChange fu p list = some r) :
    Calls Tryz.prog 48 [v0_, v1_].toArray w0 fun e w' => ∃ v, e = .returned v ∧ (Below w0.heap.size w0 w' ∧ ∃ F0, ∃ u0 u1, v = .tuple #[u0, u1] ∧ VO w' F0 u0 r.1 ∧ VR w' (St ⟨w0, []⟩ S [] [] [] true) u1 r.2 ∧ New w0 w' F0) := by
 obtain ⟨A, c, A2, c2, A3, c3, rfl, hl, hl2, hl3⟩ := Plan_open h0
 obtain ⟨A4, c4, rfl, hl4⟩ := VR_list h1
 have H := Mem.start ⟨w0, []⟩ S
 have H := H.pushArg (MP.val [(.slice A p.Network.Nodes.length c)] p.Network.Nodes) hl
 have H := H.pushArg (MP.val [(.slice A2 p.Network.Fibers.length c2)] p.Network.Fibers) hl2
 have H := H.pushArg (MP.val [(.slice A3 p.Lights.length c3)] p.Lights) hl3
 have H := H.pushArg (MP.val [(.slice A4 list.length c4)] list) hl4
 refine enter Tryz.func48 rfl rfl (nle rfl) rfl fun a hf => ?_
 rw [spec_StartChange] at hF
 refine sq (reg (wl0 rfl (op_box hf H rfl rfl (by decide) fun b' a w hf H => ?_)))
 refine wl0 rfl (op_alloc hf H TF.zv74 rfl (by decide) fun b2 a w hf H => ?_)
 refine pr 1 hf rfl rfl fun a hf => ?_
 refine wl_end (then_n (sq (sq ?_)))
 obtain ⟨c5, hGc5, hF⟩ := bind_some hF
 have fh := hf.prune [1, 2, 4] rfl
 have Hm := H.let [true, true] [] [] [0, 1, 2, 3] rfl rfl rfl rfl
 refine midF 13 (.bool c5) fh Hm ?_ fun a w hf H => ?_
 ·refine reg (wl0 rfl (op_q hf (rq_loadBN hf H TF.la37 1 rfl rfl rfl rfl) rfl (by decide) fun a hf => ?_))
  obtain ⟨y, hy, hGc5⟩ := bind_some hGc5
  refine wl0 rfl (op_call hf TF.cl62 rfl (by decide) (spec_l9Good_ok (S := fun _ => True) (Plan_mkv (x := p) (rep_true (α := List ByteArray) (H.get 3 rfl)) (rep_true (α := List Fiber) (H.get 2 rfl)) (rep_true (α := List Light) (H.get 1 rfl))) hy) fun v w a hp hf => ?_)
  obtain ⟨hb, hp⟩ := hp
  obtain rfl := VR_bool hp
  have H := H.keep hb
  refine pr 2 hf rfl rfl fun a hf => ?_
  refine iteB hGc5 (fun hc hGc5 => ?_) fun hc hGc5 => ?_
  ·have hf := hf.lit 9 rfl hc
   refine pr 4 hf rfl rfl fun a hf => ?_
   obtain rfl := Option.some.inj hGc5
   have hf := hf.prune [13, 1, 2, 4] rfl
   have H := H.let [true, true] [] [] [0, 1, 2, 3] rfl rfl rfl rfl
   exact wl_end ⟨hf, H⟩
  ·have hf := hf.lit 9 rfl hc
   refine pr 4 hf rfl rfl fun a hf => ?_
   obtain rfl := Option.some.inj hGc5
   have hf := hf.prune [13, 1, 2, 4] rfl
   have H := H.let [true, true] [] [] [0, 1, 2, 3] rfl rfl rfl rfl
   exact wl_end ⟨hf, H⟩
 refine then_n (iteB hF (fun hc2 hF => cd_t hf rfl hc2 ?_) fun hc2 hF => cd_f hf rfl hc2 ?_)
 ·refine sq (reg (wl0 rfl (op_q hf (rq_build hf (cs := [(.slice none 0 0), (.slice none 0 0), (.slice none 0 0), (.slice none 0 0), (.slice none 0 0), (.bool false)]) rfl (fun w => by kernel_rfl)) rfl (by decide) fun a hf => ?_)))
  refine wl0 rfl (op_storeB hf H 0 TF.sz74 rfl rfl rfl rfl rfl rfl (nle rfl) fun w H => ?_)
  refine pr 1 hf rfl rfl fun a hf => ?_
  refine wl_end (then_n (wp_ret (then_r (?_))))
  have H := H.ownNil (ByteArray)
  have H := H.lend 0 rfl
  have H := H.ownNil (Fiber)
  have H := H.lend 0 rfl
  have H := H.ownNil (Light)
  have H := H.lend 0 rfl
  have H := H.ownNil (Action)
  have H := H.lend 0 rfl
  have H := H.ownNil (Action)
  have H := H.lend 0 rfl
  have H := H.frontD 1 rfl
  have H := H.frontD 2 rfl
  have H := H.frontD 3 rfl
  have H := H.frontD 4 rfl
  obtain rfl := Option.some.inj hF
  refine ret_2 (fn := Tryz.f48) (r := .cell 4 74) (s := .tmp 5) hf rfl (rv_cellN hf H 0 TF.la74 rfl rfl rfl) (rv_tmp hf rfl) ?_
  have hN := H.ends (X := [(⟨[], MP.own [] [(.slice none 0 0)] ([] : List ByteArray)⟩ : DI), (⟨[], MP.own [] [(.slice none 0 0)] ([] : List Fiber)⟩ : DI), (⟨[], MP.own [] [(.slice none 0 0)] ([] : List Light)⟩ : DI), (⟨[], MP.own [] [(.slice none 0 0)] ([] : List Action)⟩ : DI), (⟨[], MP.own [] [(.slice none 0 0)] ([] : List Action)⟩ : DI)])
  simp only [List.flatMap_cons, List.flatMap_nil, List.append_nil, List.append_assoc] at hN
  exact ⟨_, rfl, H.bel, ([] ++ ([] ++ ([] ++ ([] ++ [])))), _, _, rfl, ⟨_, Change_ownmk (x := ({ Plan := ({ Network := ({ Nodes := [], Fibers := [] } : Network), Lights := [] } : Plan), Actions := [], Undo := [], Back := false } : Change)) (H.ownAt 0 rfl) (H.ownAt 1 rfl) (H.ownAt 2 rfl) (H.ownAt 3 rfl) (H.ownAt 4 rfl), rfl⟩, mk_bool, by first | exact hN | simpa using hN⟩
 ·refine wp_skip (then_n (sq (reg (wl0 rfl (op_q hf (rq_loadBN hf H TF.la37 1 rfl rfl rfl rfl) rfl (by decide) fun a hf => ?_)))))
  obtain ⟨y2, hy2, hF⟩ := bind_some hF
  refine wl0 rfl (op_call hf TF.cl84 rfl (by decide) (spec_l9Own_ok (S := fun _ => True) (Plan_mkv (x := p) (rep_true (α := List ByteArray) (H.get 3 rfl)) (rep_true (α := List Fiber) (H.get 2 rfl)) (rep_true (α := List Light) (H.get 1 rfl))) hy2) fun v2 w a hp2 hf => ?_)
  obtain ⟨hb2, F, hp3, hN⟩ := hp2
  obtain ⟨A5, c6, F2, A6, c7, F3, A7, c8, F4, rfl, rfl, hl5, hl6, hl7⟩ := Plan_vo hp3
  have H := H.addOwn hb2 (X := [(⟨F2, MP.own F2 [(.slice A5 y2.Network.Nodes.length c6)] (y2.Network.Nodes : List ByteArray)⟩ : DI), (⟨F3, MP.own F3 [(.slice A6 y2.Network.Fibers.length c7)] (y2.Network.Fibers : List Fiber)⟩ : DI), (⟨F4, MP.own F4 [(.slice A7 y2.Lights.length c8)] (y2.Lights : List Light)⟩ : DI)]) (by simpa using hN.1) (ps1 hl5 (ps1 hl6 (ps1 hl7 ps0))) (by simpa using hN.2)
  have H := H.lend 0 rfl
  have H := H.lend 1 rfl
  have H := H.lend 2 rfl
  refine pr 1 hf rfl rfl fun a hf => ?_
  obtain ⟨y3, hy3, hF⟩ := bind_some hF
  refine wl0 rfl (op_call hf TF.cl108 rfl (by decide) (spec_l20Copies_ok (S := fun _ => True) (mk_list (rep_true (α := List Action) (H.get 3 rfl))) hy3) fun v3 w a hp4 hf => ?_)
  obtain ⟨hb3, F5, hp5, hN2⟩ := hp4
  obtain ⟨A8, c9, rfl, hl8⟩ := VO_list hp5
  have H := H.addOwn hb3 (X := [(⟨F5, MP.own F5 [(.slice A8 y3.length c9)] (y3 : List Action)⟩ : DI)]) (by simpa using hN2.1) (ps1 hl8 ps0) (by simpa using hN2.2)
  have H := H.lend 0 rfl
  refine wl0 rfl (op_q hf (rq_build hf (cs := [(.slice A5 y2.Network.Nodes.length c6), (.slice A6 y2.Network.Fibers.length c7), (.slice A7 y2.Lights.length c8), (.slice A8 y3.length c9), (.slice none 0 0), (.bool false)]) rfl (fun w => by kernel_rfl)) rfl (by decide) fun a hf => ?_)
  refine wl0 rfl (op_storeB hf H 0 TF.sz74 rfl rfl rfl rfl rfl rfl (nle rfl) fun w H => ?_)
  refine pr 1 hf rfl rfl fun a hf => ?_
  refine wl_end (then_n (wp_ret (?_)))
  have H := H.ownNil (Action)
  have H := H.lend 0 rfl
  have H := H.frontD 1 rfl
  have H := H.frontD 4 rfl
  have H := H.frontD 4 rfl
  have H := H.frontD 4 rfl
  obtain rfl := Option.some.inj hF
  refine ret_2 (fn := Tryz.f48) (r := .cell 4 74) (s := .tmp 5) hf rfl (rv_cellN hf H 0 TF.la74 rfl rfl rfl) (rv_tmp hf rfl) ?_
  have hN := H.ends (X := [(⟨F2, MP.own F2 [(.slice A5 y2.Network.Nodes.length c6)] (y2.Network.Nodes : List ByteArray)⟩ : DI), (⟨F3, MP.own F3 [(.slice A6 y2.Network.Fibers.length c7)] (y2.Network.Fibers : List Fiber)⟩ : DI), (⟨F4, MP.own F4 [(.slice A7 y2.Lights.length c8)] (y2.Lights : List Light)⟩ : DI), (⟨F5, MP.own F5 [(.slice A8 y3.length c9)] (y3 : List Action)⟩ : DI), (⟨[], MP.own [] [(.slice none 0 0)] ([] : List Action)⟩ : DI)])
  simp only [List.flatMap_cons, List.flatMap_nil, List.append_nil, List.append_assoc] at hN
  exact ⟨_, rfl, H.bel, (F2 ++ (F3 ++ (F4 ++ (F5 ++ [])))), _, _, rfl, ⟨_, Change_ownmk (x := ({ Plan := y2, Actions := y3, Undo := [], Back := false } : Change)) (H.ownAt 0 rfl) (H.ownAt 1 rfl) (H.ownAt 2 rfl) (H.ownAt 3 rfl) (H.ownAt 4 rfl), rfl⟩, mk_bool, by first | exact hN | simpa using hN⟩

/- loop.example/g00897/impl.copyLight -/
set_option maxHeartbeats 1000000 in
theorem impl_copyLight_ok {fu : Nat} {w0 : World} {S : Nat → Prop} {v0_ : Value} {x1 : Light} {r : Light} (h0 : VR w0 S v0_ x1) (hF : impl_copyLight fu x1 = some r) :
    Calls Tryz.prog 170 [v0_].toArray w0 fun e w' => ∃ v, e = .returned v ∧ (Below w0.heap.size w0 w' ∧ ∃ F0, VO w' F0 v r ∧ New w0 w' F0) := by
 obtain ⟨A, c, rfl, hl⟩ := Light_open h0
 have H := Mem.start ⟨w0, []⟩ S
 have H := H.pushArg (MP.val [(.slice A x1.Route.Fibers.length c)] x1.Route.Fibers) hl
 refine enter Tryz.func170 rfl rfl (nle rfl) rfl fun a hf => ?_
 rw [impl_copyLight] at hF
 refine sq (reg (wl0 rfl (op_box hf H rfl rfl (by decide) fun b' a w hf H => ?_)))
 refine wl0 rfl (op_alloc hf H TF.zv112 rfl (by decide) fun b2 a w hf H => ?_)
 refine wl_end (then_n (sq (drawn [8] (bs := [false, false, false, false, false, false, false, false, false]) (fuel := 9) (Checked.mixed Tryz.checked) rfl rfl fun w hb => ?_)))
 have H := H.keep hb
 refine tp 0 rfl rfl hf (by kernel_rfl) (fun _ => trivial) rfl fun a hf => ?_
 refine strT (H.let [false, true] [] [] [] rfl rfl rfl rfl) (fun w H => trivial) fun hS => ?_
 refine tS 1 [1, 7, 8] rfl rfl rfl rfl hf (by kernel_rfl) (by kernel_rfl) hS (fun w H => rq_loadB hf H TF.ls3 0 rfl rfl rfl) fun a hf => ?_
 refine tp 2 rfl rfl hf (by kernel_rfl) (fun _ => hS) rfl fun a hf => ?_
 refine tS 3 [3, 4, 7, 8] rfl rfl rfl rfl hf (by kernel_rfl) (by kernel_rfl) hS (fun w H => rq_loadBN hf H TF.la108 0 rfl rfl rfl rfl) fun a hf => ?_
 refine tp 5 rfl rfl hf (by kernel_rfl) (fun _ => hS) rfl fun a hf => ?_
 refine tS 6 [6, 7, 8] rfl rfl rfl rfl hf (by kernel_rfl) (by kernel_rfl) hS (fun w H => rq_loadBN hf H TF.la110 0 rfl rfl rfl rfl) fun a hf => ?_
 obtain ⟨y, hy, hF⟩ := bind_some hF
 refine n1 4 (by kernel_rfl) rfl rfl (op_call hf TF.cl152 rfl (by decide) (impl_copyRoute_ok (S := fun _ => True) (Route_mkv (x := x1.Route) (rep_true (α := List Int) (H.get 0 rfl))) hy) fun v w a hp hf => ?_)
 obtain ⟨hb, F, hp2, hN⟩ := hp
 obtain ⟨A2, c2, F2, rfl, rfl, hl2⟩ := Route_vo hp2
 have H := H.addOwn hb (X := [(⟨F2, MP.own F2 [(.slice A2 y.Fibers.length c2)] (y.Fibers : List Int)⟩ : DI)]) (by simpa using hN.1) (ps1 hl2 ps0) (by simpa using hN.2)
 have H := H.lend 0 rfl
 have hS := H.let [false, true] [] [false] [] rfl rfl rfl rfl
 refine ⟨fun _ => hS, ?_⟩
 refine tP 7 rfl rfl rfl rfl hf (by kernel_rfl) (fun _ => hS) (fun w => rq_build hf (cs := [(.int .i64 x1.Id), (.int .i64 y.Start), (.slice A2 y.Fibers.length c2), (.int .i64 x1.Block.First), (.int .i64 x1.Block.Count)]) rfl (fun w => by kernel_rfl)) fun a hf => ?_
 refine n1 8 (by kernel_rfl) rfl rfl (op_storeB hf H 0 TF.sz112 rfl rfl rfl rfl rfl rfl (nle rfl) fun w H => ?_)
 refine ⟨fun h => absurd h (by decide), ?_⟩
 refine dn (by kernel_rfl) ?_
 refine then_n (wp_ret (?_))
 obtain rfl := Option.some.inj hF
 refine ret_1 (fn := Tryz.f170) (r := .cell 2 112) hf rfl (rv_cellN hf H 0 TF.la112 rfl rfl rfl) ?_
 have hN := H.ends (X := [(⟨F2, MP.own F2 [(.slice A2 y.Fibers.length c2)] (y.Fibers : List Int)⟩ : DI)])
 simp only [List.flatMap_cons, List.flatMap_nil, List.append_nil, List.append_assoc] at hN
 exact ⟨_, rfl, H.bel, F2, ⟨_, Light_ownmk (x := ({ Id := x1.Id, Route := y, Block := x1.Block } : Light)) (H.ownAt 0 rfl), rfl⟩, by first | exact hN | simpa using hN⟩

/- loop.example/g00897/impl.copyActions -/
set_option maxHeartbeats 1000000 in
theorem impl_copyActions_ok {fu : Nat} {w0 : World} {S : Nat → Prop} {v0_ : Value} {l : List Action} {r : List Action} (h0 : VR w0 S v0_ l) (hF : impl_copyActions fu l = some r) :
    Calls Tryz.prog 104 [v0_].toArray w0 fun e w' => ∃ v, e = .returned v ∧ (Below w0.heap.size w0 w' ∧ ∃ F0, VO w' F0 v r ∧ New w0 w' F0) := by
 obtain ⟨A, c, rfl, hl⟩ := VR_list h0
 have H := Mem.start ⟨w0, []⟩ S
 have H := H.pushArg (MP.val [(.slice A l.length c)] l) hl
 refine enter Tryz.func104 rfl rfl (nle rfl) rfl fun a hf => ?_
 rw [impl_copyActions] at hF
 refine sq (reg (pr 1 hf rfl rfl fun a hf => ?_))
 refine wl_end (then_n (sq (reg (wl0 rfl (op_bslice hf H (.ow []) rfl 136 ([] : List Action) [] rfl (fun w => by kernel_rfl) rfl (by decide) rfl rfl (fun i x h => by simp at h) (by decide) fun A2 a w hf H => ?_)))))
 refine pr 1 hf rfl rfl fun a hf => ?_
 refine wl_end (then_n (sq (sq (reg (pr 3 hf rfl rfl fun a hf => ?_)))))
 refine wl_end (then_n ?_)
 obtain ⟨out2, hB1, hF⟩ := bind_some hF
 have hf := hf.prune [3, 7, 8, 9] rfl
 have H := H.let [] [true] [] [0] rfl rfl rfl rfl
 refine loopC (fun (s : List Action × Int) (a : Act) (w : World) => match s with | (out', i) => ∃ (A3 : Option Addr) (c2 : Nat) (E : Go.TypeId) (Fs : List (List Nat)), Fr a 24 [(3, (.slice A3 out'.length c2)), (7, (.slice A l.length c)), (8, (.int .i64 (l.length : Int))), (9, (.int .i64 i))] ∧ Mem ⟨w0, []⟩ S [] [⟨.ow Fs, E, A3, c2, (out' : List Action)⟩] [] [(false, MP.val [(.slice A l.length c)] (l : List Action))] w) (fun k (s : List Action × Int) => impl_copyActions_L1 fu l k s.1 s.2 = some out2) (fun s => out2 = s) (([] : List Action), 0) fu hB1 ⟨A2, 0, 136, [], hf, H⟩ (fun s h => by cases h) ?_ ?_
 ·rintro fk ⟨out', i⟩ a w hR1 hI
  replace hR1 : impl_copyActions_L1 fu l (fk + 1) out' i = some out2 := hR1
  rw [impl_copyActions_L1] at hR1
  obtain ⟨A3, c2, E, Fs, hf, H⟩ := hI
  refine sq (reg (pr 1 hf rfl rfl fun a hf => ?_))
  refine wl_end (then_n (sq (iteB hR1 (fun hc hR1 => cd_t hf rfl hc ?_) fun hc hR1 => cd_f hf rfl hc ?_)))
  ·refine wp_skip (then_n (sq (wp_block (sq (reg ?_)))))
   obtain ⟨e, he, hR1⟩ := bind_some hR1
   refine wl0 rfl (op_iaddr hf H Tryz.underlying65 TF.sz136 0 rfl rfl rfl he (by decide) fun p o cs a hf hr H => ?_)
   obtain ⟨A4, c3, rfl, hl2⟩ := Action_cells hr
   have H := H.push (false, MP.val [(.slice A4 e.Light.Route.Fibers.length c3)] e.Light.Route.Fibers) hl2
   refine wl0 rfl (op_q hf (rq_loadIN hf H TF.la136 1 0 rfl rfl rfl rfl) rfl (by decide) fun a hf => ?_)
   refine wl0 rfl (op_alloc hf H TF.zv136 rfl (by decide) fun b' a w hf H => ?_)
   refine wl0 rfl (op_storeB hf H 0 TF.sz136 rfl rfl rfl rfl rfl rfl (nle rfl) fun w H => ?_)
   refine wl_end (then_n (drawn [] (bs := [false, false, false, false, false, false, false, false, false, false]) (fuel := 10) (Checked.mixed Tryz.checked) rfl rfl fun w hb => ?_))
   have H := H.keep hb
   refine tp 0 rfl rfl hf (by kernel_rfl) (fun _ => trivial) rfl fun a hf => ?_
   refine tp 1 rfl rfl hf (by kernel_rfl) (fun _ => trivial) rfl fun a hf => ?_
   refine strT (H.let [true] [false] [] [] rfl rfl rfl rfl) (fun w H => trivial) fun hS => ?_
   refine tS 2 [] rfl rfl rfl rfl hf (by kernel_rfl) (by kernel_rfl) hS (fun w H => rq_loadB hf H TF.ls3 0 rfl rfl rfl) fun a hf => ?_
   refine tp 3 rfl rfl hf (by kernel_rfl) (fun _ => hS) rfl fun a hf => ?_
   refine tS 4 [] rfl rfl rfl rfl hf (by kernel_rfl) (by kernel_rfl) hS (fun w H => rq_loadBN hf H TF.la112 0 rfl rfl rfl rfl) fun a hf => ?_
   obtain ⟨y, hy, hR1⟩ := bind_some hR1
   refine n1 5 (by kernel_rfl) rfl rfl (op_call hf TF.cl170 rfl (by decide) (impl_copyLight_ok (S := fun _ => True) (Light_mkv (x := e.Light) (rep_true (α := List Int) (H.get 0 rfl))) hy) fun v w a hp hf => ?_)
   obtain ⟨hb, F, hp2, hN⟩ := hp
   obtain ⟨A5, c4, F2, rfl, rfl, hl3⟩ := Light_vo hp2
   have H := H.addOwn hb (X := [(⟨F2, MP.own F2 [(.slice A5 y.Route.Fibers.length c4)] (y.Route.Fibers : List Int)⟩ : DI)]) (by simpa using hN.1) (ps1 hl3 ps0) (by simpa using hN.2)
   have H := H.lend 0 rfl
   have hS := H.let [true] [false] [false] [] rfl rfl rfl rfl
   refine ⟨fun _ => hS, ?_⟩
   refine tP 6 rfl rfl rfl rfl hf (by kernel_rfl) (fun _ => hS) (fun w => rq_build hf (cs := [(.int .i64 e.Kind), (.int .i64 y.Id), (.int .i64 y.Route.Start), (.slice A5 y.Route.Fibers.length c4), (.int .i64 y.Block.First), (.int .i64 y.Block.Count)]) rfl (fun w => by kernel_rfl)) fun a hf => ?_
   have H := H.recast (X := [(⟨F2, MP.own F2 [(.slice A5 y.Route.Fibers.length c4)] (y.Route.Fibers : List Int)⟩ : DI)]) (Y := [(⟨F2, MP.own F2 [(.int .i64 e.Kind), (.int .i64 y.Id), (.int .i64 y.Route.Start), (.slice A5 y.Route.Fibers.length c4), (.int .i64 y.Block.First), (.int .i64 y.Block.Count)] (({ Kind := e.Kind, Light := y } : Action) : Action)⟩ : DI)]) (List.Perm.of_eq (by simp)) fun _ => ps1 (Action_ownmk (x := ({ Kind := e.Kind, Light := y } : Action)) (H.ownAt 0 rfl)) ps0
   refine n1 7 (by kernel_rfl) rfl rfl (op_bsliceO hf 136 H rfl (fun w => by kernel_rfl) (by decide) fun A6 a w hf H => ?_)
   have hS := H.let [true] [false, false] [] [] rfl rfl rfl rfl
   refine ⟨fun _ => hS, ?_⟩
   obtain ⟨l2, hl2, hR1⟩ := bind_some hR1
   have H := H.frontR 1 rfl
   refine n1 8 (by kernel_rfl) rfl rfl (op_appO hf H Tryz.underlying65 TF.ai136 rfl (by decide) rfl rfl hl2 (by decide) fun E2 A7 c5 a w hf H => ?_)
   have hS := H.let [true] [false] [] [] rfl rfl rfl rfl
   refine ⟨fun _ => hS, ?_⟩
   refine tp 9 rfl rfl hf (by kernel_rfl) (fun _ => hS) rfl fun a hf => ?_
   refine dn (by kernel_rfl) ?_
   have hf := hf.prune [3, 7, 8, 9] rfl
   refine blk_n (then_n (reg (pr 2 hf rfl rfl fun a hf => ?_)))
   refine wl_end ?_
   have hf := hf.prune [3, 7, 8, 9] rfl
   have H := H.let [false] [true] [] [3] rfl rfl rfl rfl
   exact then_n ⟨(l2, w64 (i + 1)), hR1, A7, c5, E2, Fs ++ [F2], hf, H⟩
  ·refine wp_exit (then_x (then_x (blk_e (?_))))
   have hf := hf.prune [3, 7, 8, 9] rfl
   have H := H.let [] [true] [] [0] rfl rfl rfl rfl
   exact ⟨(out', i), (Option.some.inj hR1).symm, A3, c2, E, Fs, hf, H⟩
 rintro a w ⟨⟨out3, i2⟩, rfl, A8, c6, E3, Fs2, hf, H⟩
 dsimp only at hF
 refine then_n (sq (reg (pr 2 hf rfl rfl fun a hf => ?_)))
 refine wl_end (then_n (wp_ret (?_)))
 obtain ⟨F3, H⟩ := H.freezeOwn 0 rfl
 have H := H.lend 0 rfl
 obtain rfl := Option.some.inj hF
 refine ret_1 (fn := Tryz.f104) (r := .tmp 2) hf rfl (rv_tmp hf rfl) ?_
 have hN := H.ends (X := [(⟨F3, MP.own F3 [(.slice A8 out3.length c6)] (out3 : List Action)⟩ : DI)])
 simp only [List.flatMap_cons, List.flatMap_nil, List.append_nil, List.append_assoc] at hN
 exact ⟨_, rfl, H.bel, F3, (mko_list (H.ownAt 0 rfl)), by first | exact hN | simpa using hN⟩

/- loop.example/g00897/impl.copyChange -/
set_option maxHeartbeats 1000000 in
theorem impl_copyChange_ok {fu : Nat} {w0 : World} {S : Nat → Prop} {v0_ : Value} {c : Change} {r : Change} (h0 : VR w0 S v0_ c) (hF : impl_copyChange fu c = some r) :
    Calls Tryz.prog 110 [v0_].toArray w0 fun e w' => ∃ v, e = .returned v ∧ (Below w0.heap.size w0 w' ∧ ∃ F0, VO w' F0 v r ∧ New w0 w' F0) := by
 obtain ⟨A, c2, A2, c3, A3, c4, A4, c5, A5, c6, rfl, hl, hl2, hl3, hl4, hl5⟩ := Change_open h0
 have H := Mem.start ⟨w0, []⟩ S
 have H := H.pushArg (MP.val [(.slice A c.Plan.Network.Nodes.length c2)] c.Plan.Network.Nodes) hl
 have H := H.pushArg (MP.val [(.slice A2 c.Plan.Network.Fibers.length c3)] c.Plan.Network.Fibers) hl2
 have H := H.pushArg (MP.val [(.slice A3 c.Plan.Lights.length c4)] c.Plan.Lights) hl3
 have H := H.pushArg (MP.val [(.slice A4 c.Actions.length c5)] c.Actions) hl4
 have H := H.pushArg (MP.val [(.slice A5 c.Undo.length c6)] c.Undo) hl5
 refine enter Tryz.func110 rfl rfl (nle rfl) rfl fun a hf => ?_
 rw [impl_copyChange] at hF
 refine sq (reg (wl0 rfl (op_box hf H rfl rfl (by decide) fun b' a w hf H => ?_)))
 refine wl0 rfl (op_alloc hf H TF.zv74 rfl (by decide) fun b2 a w hf H => ?_)
 refine wl_end (then_n (sq (drawn [12] (bs := [false, false, false, false, false, false, false, false, false, false, false, false, false]) (fuel := 13) (Checked.mixed Tryz.checked) rfl rfl fun w hb => ?_)))
 have H := H.keep hb
 refine tp 0 rfl rfl hf (by kernel_rfl) (fun _ => trivial) rfl fun a hf => ?_
 refine strT (H.let [false, true] [] [] [] rfl rfl rfl rfl) (fun w H => trivial) fun hS => ?_
 refine tS 1 [1, 2, 5, 8, 11, 12] rfl rfl rfl rfl hf (by kernel_rfl) (by kernel_rfl) hS (fun w H => rq_loadBN hf H TF.la37 0 rfl rfl rfl rfl) fun a hf => ?_
 refine tp 3 rfl rfl hf (by kernel_rfl) (fun _ => hS) rfl fun a hf => ?_
 refine tS 4 [4, 5, 8, 11, 12] rfl rfl rfl rfl hf (by kernel_rfl) (by kernel_rfl) hS (fun w H => rq_loadB hf H TF.ls65 0 rfl rfl rfl) fun a hf => ?_
 refine tp 6 rfl rfl hf (by kernel_rfl) (fun _ => hS) rfl fun a hf => ?_
 refine tS 7 [7, 8, 11, 12] rfl rfl rfl rfl hf (by kernel_rfl) (by kernel_rfl) hS (fun w H => rq_loadB hf H TF.ls65 0 rfl rfl rfl) fun a hf => ?_
 refine tp 9 rfl rfl hf (by kernel_rfl) (fun _ => hS) rfl fun a hf => ?_
 refine tS 10 [10, 11, 12] rfl rfl rfl rfl hf (by kernel_rfl) (by kernel_rfl) hS (fun w H => rq_loadB hf H TF.ls4 0 rfl rfl rfl) fun a hf => ?_
 obtain ⟨y, hy, hF⟩ := bind_some hF
 refine n1 2 (by kernel_rfl) rfl rfl (op_call hf TF.cl86 rfl (by decide) (impl_copyPlan_ok (S := fun _ => True) (Plan_mkv (x := c.Plan) (rep_true (α := List ByteArray) (H.get 4 rfl)) (rep_true (α := List Fiber) (H.get 3 rfl)) (rep_true (α := List Light) (H.get 2 rfl))) hy) fun v w a hp hf => ?_)
 obtain ⟨hb, F, hp2, hN⟩ := hp
 obtain ⟨A6, c7, F2, A7, c8, F3, A8, c9, F4, rfl, rfl, hl6, hl7, hl8⟩ := Plan_vo hp2
 have H := H.addOwn hb (X := [(⟨F2, MP.own F2 [(.slice A6 y.Network.Nodes.length c7)] (y.Network.Nodes : List ByteArray)⟩ : DI), (⟨F3, MP.own F3 [(.slice A7 y.Network.Fibers.length c8)] (y.Network.Fibers : List Fiber)⟩ : DI), (⟨F4, MP.own F4 [(.slice A8 y.Lights.length c9)] (y.Lights : List Light)⟩ : DI)]) (by simpa using hN.1) (ps1 hl6 (ps1 hl7 (ps1 hl8 ps0))) (by simpa using hN.2)
 have H := H.lend 0 rfl
 have H := H.lend 1 rfl
 have H := H.lend 2 rfl
 have hS := H.let [false, true] [] [false, false, false] [] rfl rfl rfl rfl
 refine ⟨fun _ => hS, ?_⟩
 obtain ⟨y2, hy2, hF⟩ := bind_some hF
 refine n1 5 (by kernel_rfl) rfl rfl (op_call hf TF.cl104 rfl (by decide) (impl_copyActions_ok (S := fun _ => True) (mk_list (rep_true (α := List Action) (H.get 4 rfl))) hy2) fun v2 w a hp3 hf => ?_)
 obtain ⟨hb2, F5, hp4, hN2⟩ := hp3
 obtain ⟨A9, c10, rfl, hl9⟩ := VO_list hp4
 have H := H.addOwn hb2 (X := [(⟨F5, MP.own F5 [(.slice A9 y2.length c10)] (y2 : List Action)⟩ : DI)]) (by simpa using hN2.1) (ps1 hl9 ps0) (by simpa using hN2.2)
 have H := H.lend 0 rfl
 have hS := H.let [false, true] [] [false, false, false, false] [] rfl rfl rfl rfl
 refine ⟨fun _ => hS, ?_⟩
 obtain ⟨y3, hy3, hF⟩ := bind_some hF
 refine n1 8 (by kernel_rfl) rfl rfl (op_call hf TF.cl104 rfl (by decide) (impl_copyActions_ok (S := fun _ => True) (mk_list (rep_true (α := List Action) (H.get 4 rfl))) hy3) fun v3 w a hp5 hf => ?_)
 obtain ⟨hb3, F7, hp6, hN3⟩ := hp5
 obtain ⟨A10, c11, rfl, hl10⟩ := VO_list hp6
 have H := H.addOwn hb3 (X := [(⟨F7, MP.own F7 [(.slice A10 y3.length c11)] (y3 : List Action)⟩ : DI)]) (by simpa using hN3.1) (ps1 hl10 ps0) (by simpa using hN3.2)
 have H := H.lend 0 rfl
 have hS := H.let [false, true] [] [false, false, false, false, false] [] rfl rfl rfl rfl
 refine ⟨fun _ => hS, ?_⟩
 refine tP 11 rfl rfl rfl rfl hf (by kernel_rfl) (fun _ => hS) (fun w => rq_build hf (cs := [(.slice A6 y.Network.Nodes.length c7), (.slice A7 y.Network.Fibers.length c8), (.slice A8 y.Lights.length c9), (.slice A9 y2.length c10), (.slice A10 y3.length c11), (.bool c.Back)]) rfl (fun w => by kernel_rfl)) fun a hf => ?_
 refine n1 12 (by kernel_rfl) rfl rfl (op_storeB hf H 0 TF.sz74 rfl rfl rfl rfl rfl rfl (nle rfl) fun w H => ?_)
 refine ⟨fun h => absurd h (by decide), ?_⟩
 refine dn (by kernel_rfl) ?_
 have hf := hf.prune [2] rfl
 refine then_n (wp_ret (?_))
 have H := H.frontD 1 rfl
 have H := H.frontD 4 rfl
 have H := H.frontD 4 rfl
 have H := H.frontD 4 rfl
 obtain rfl := Option.some.inj hF
 refine ret_1 (fn := Tryz.f110) (r := .cell 2 74) hf rfl (rv_cellN hf H 0 TF.la74 rfl rfl rfl) ?_
 have hN := H.ends (X := [(⟨F2, MP.own F2 [(.slice A6 y.Network.Nodes.length c7)] (y.Network.Nodes : List ByteArray)⟩ : DI), (⟨F3, MP.own F3 [(.slice A7 y.Network.Fibers.length c8)] (y.Network.Fibers : List Fiber)⟩ : DI), (⟨F4, MP.own F4 [(.slice A8 y.Lights.length c9)] (y.Lights : List Light)⟩ : DI), (⟨F5, MP.own F5 [(.slice A9 y2.length c10)] (y2 : List Action)⟩ : DI), (⟨F7, MP.own F7 [(.slice A10 y3.length c11)] (y3 : List Action)⟩ : DI)])
 simp only [List.flatMap_cons, List.flatMap_nil, List.append_nil, List.append_assoc] at hN
 exact ⟨_, rfl, H.bel, (F2 ++ (F3 ++ (F4 ++ (F5 ++ F7)))), ⟨_, Change_ownmk (x := ({ Plan := y, Actions := y2, Undo := y3, Back := c.Back } : Change)) (H.ownAt 0 rfl) (H.ownAt 1 rfl) (H.ownAt 2 rfl) (H.ownAt 3 rfl) (H.ownAt 4 rfl), rfl⟩, by first | exact hN | simpa using hN⟩

/- loop.example/g00897/impl.StartChange -/
set_option maxHeartbeats 1000000 in
theorem impl_StartChange_ok {fu : Nat} {w0 : World} {S : Nat → Prop} {v0_ : Value} {v1_ : Value} {p : Plan} {list : List Action} {r : Change × Bool} (h0 : VR w0 S v0_ p) (h1 : VR w0 S v1_ list) (hF : impl_StartChange fu p list = some r) :
    Calls Tryz.prog 50 [v0_, v1_].toArray w0 fun e w' => ∃ v, e = .returned v ∧ (Below w0.heap.size w0 w' ∧ ∃ F0, ∃ u0 u1, v = .tuple #[u0, u1] ∧ VO w' F0 u0 r.1 ∧ VR w' (St ⟨w0, []⟩ S [] [] [] true) u1 r.2 ∧ New w0 w' F0) := by
 obtain ⟨A, c, A2, c2, A3, c3, rfl, hl, hl2, hl3⟩ := Plan_open h0
 obtain ⟨A4, c4, rfl, hl4⟩ := VR_list h1
 have H := Mem.start ⟨w0, []⟩ S
 have H := H.pushArg (MP.val [(.slice A p.Network.Nodes.length c)] p.Network.Nodes) hl
 have H := H.pushArg (MP.val [(.slice A2 p.Network.Fibers.length c2)] p.Network.Fibers) hl2
 have H := H.pushArg (MP.val [(.slice A3 p.Lights.length c3)] p.Lights) hl3
 have H := H.pushArg (MP.val [(.slice A4 list.length c4)] list) hl4
 refine enter Tryz.func50 rfl rfl (nle rfl) rfl fun a hf => ?_
 rw [impl_StartChange] at hF
 refine sq (reg (wl0 rfl (op_box hf H rfl rfl (by decide) fun b' a w hf H => ?_)))
 refine wl0 rfl (op_alloc hf H TF.zv74 rfl (by decide) fun b2 a w hf H => ?_)
 refine pr 1 hf rfl rfl fun a hf => ?_
 refine wl_end (then_n (sq (sq ?_)))
 obtain ⟨c5, hGc5, hF⟩ := bind_some hF
 have fh := hf.prune [1, 2, 4] rfl
 have Hm := H.let [true, true] [] [] [0, 1, 2, 3] rfl rfl rfl rfl
 refine midF 13 (.bool c5) fh Hm ?_ fun a w hf H => ?_
 ·refine reg (wl0 rfl (op_q hf (rq_loadBN hf H TF.la37 1 rfl rfl rfl rfl) rfl (by decide) fun a hf => ?_))
  obtain ⟨y, hy, hGc5⟩ := bind_some hGc5
  refine wl0 rfl (op_call hf TF.cl72 rfl (by decide) (impl_IsValidPlan_ok (S := fun _ => True) (Plan_mkv (x := p) (rep_true (α := List ByteArray) (H.get 3 rfl)) (rep_true (α := List Fiber) (H.get 2 rfl)) (rep_true (α := List Light) (H.get 1 rfl))) hy) fun v w a hp hf => ?_)
  obtain ⟨hb, hp⟩ := hp
  obtain rfl := VR_bool hp
  have H := H.keep hb
  refine pr 2 hf rfl rfl fun a hf => ?_
  refine iteB hGc5 (fun hc hGc5 => ?_) fun hc hGc5 => ?_
  ·have hf := hf.lit 9 rfl hc
   refine pr 4 hf rfl rfl fun a hf => ?_
   obtain rfl := Option.some.inj hGc5
   have hf := hf.prune [13, 1, 2, 4] rfl
   have H := H.let [true, true] [] [] [0, 1, 2, 3] rfl rfl rfl rfl
   exact wl_end ⟨hf, H⟩
  ·have hf := hf.lit 9 rfl hc
   refine pr 4 hf rfl rfl fun a hf => ?_
   obtain rfl := Option.some.inj hGc5
   have hf := hf.prune [13, 1, 2, 4] rfl
   have H := H.let [true, true] [] [] [0, 1, 2, 3] rfl rfl rfl rfl
   exact wl_end ⟨hf, H⟩
 refine then_n (iteB hF (fun hc2 hF => cd_t hf rfl hc2 ?_) fun hc2 hF => cd_f hf rfl hc2 ?_)
 ·refine sq (reg (wl0 rfl (op_q hf (rq_build hf (cs := [(.slice none 0 0), (.slice none 0 0), (.slice none 0 0), (.slice none 0 0), (.slice none 0 0), (.bool false)]) rfl (fun w => by kernel_rfl)) rfl (by decide) fun a hf => ?_)))
  refine wl0 rfl (op_storeB hf H 0 TF.sz74 rfl rfl rfl rfl rfl rfl (nle rfl) fun w H => ?_)
  refine pr 1 hf rfl rfl fun a hf => ?_
  refine wl_end (then_n (wp_ret (then_r (?_))))
  have H := H.ownNil (ByteArray)
  have H := H.lend 0 rfl
  have H := H.ownNil (Fiber)
  have H := H.lend 0 rfl
  have H := H.ownNil (Light)
  have H := H.lend 0 rfl
  have H := H.ownNil (Action)
  have H := H.lend 0 rfl
  have H := H.ownNil (Action)
  have H := H.lend 0 rfl
  have H := H.frontD 1 rfl
  have H := H.frontD 2 rfl
  have H := H.frontD 3 rfl
  have H := H.frontD 4 rfl
  obtain rfl := Option.some.inj hF
  refine ret_2 (fn := Tryz.f50) (r := .cell 4 74) (s := .tmp 5) hf rfl (rv_cellN hf H 0 TF.la74 rfl rfl rfl) (rv_tmp hf rfl) ?_
  have hN := H.ends (X := [(⟨[], MP.own [] [(.slice none 0 0)] ([] : List ByteArray)⟩ : DI), (⟨[], MP.own [] [(.slice none 0 0)] ([] : List Fiber)⟩ : DI), (⟨[], MP.own [] [(.slice none 0 0)] ([] : List Light)⟩ : DI), (⟨[], MP.own [] [(.slice none 0 0)] ([] : List Action)⟩ : DI), (⟨[], MP.own [] [(.slice none 0 0)] ([] : List Action)⟩ : DI)])
  simp only [List.flatMap_cons, List.flatMap_nil, List.append_nil, List.append_assoc] at hN
  exact ⟨_, rfl, H.bel, ([] ++ ([] ++ ([] ++ ([] ++ [])))), _, _, rfl, ⟨_, Change_ownmk (x := ({ Plan := ({ Network := ({ Nodes := [], Fibers := [] } : Network), Lights := [] } : Plan), Actions := [], Undo := [], Back := false } : Change)) (H.ownAt 0 rfl) (H.ownAt 1 rfl) (H.ownAt 2 rfl) (H.ownAt 3 rfl) (H.ownAt 4 rfl), rfl⟩, mk_bool, by first | exact hN | simpa using hN⟩
 ·refine wp_skip (then_n (sq (reg (wl0 rfl (op_q hf (rq_loadBN hf H TF.la37 1 rfl rfl rfl rfl) rfl (by decide) fun a hf => ?_)))))
  refine pr 1 hf rfl rfl fun a hf => ?_
  refine wl0 rfl (op_q hf (rq_build hf (cs := [(.slice A p.Network.Nodes.length c), (.slice A2 p.Network.Fibers.length c2), (.slice A3 p.Lights.length c3), (.slice A4 list.length c4), (.slice none 0 0), (.bool false)]) rfl (fun w => by kernel_rfl)) rfl (by decide) fun a hf => ?_)
  have H := H.pushNil (Action) true
  obtain ⟨y2, hy2, hF⟩ := bind_some hF
  refine wl0 rfl (op_call hf TF.cl110 rfl (by decide) (impl_copyChange_ok (S := fun _ => True) (Change_mkv (x := ({ Plan := p, Actions := list, Undo := [], Back := false } : Change)) (rep_true (α := List ByteArray) (H.get 4 rfl)) (rep_true (α := List Fiber) (H.get 3 rfl)) (rep_true (α := List Light) (H.get 2 rfl)) (rep_true (α := List Action) (H.get 1 rfl)) (rep_true (α := List Action) (H.get 0 rfl))) hy2) fun v2 w a hp2 hf => ?_)
  obtain ⟨hb2, F, hp3, hN⟩ := hp2
  obtain ⟨A5, c6, F2, A6, c7, F3, A7, c8, F4, A8, c9, F5, A9, c10, F6, rfl, rfl, hl5, hl6, hl7, hl8, hl9⟩ := Change_vo hp3
  have H := H.addOwn hb2 (X := [(⟨F2, MP.own F2 [(.slice A5 y2.Plan.Network.Nodes.length c6)] (y2.Plan.Network.Nodes : List ByteArray)⟩ : DI), (⟨F3, MP.own F3 [(.slice A6 y2.Plan.Network.Fibers.length c7)] (y2.Plan.Network.Fibers : List Fiber)⟩ : DI), (⟨F4, MP.own F4 [(.slice A7 y2.Plan.Lights.length c8)] (y2.Plan.Lights : List Light)⟩ : DI), (⟨F5, MP.own F5 [(.slice A8 y2.Actions.length c9)] (y2.Actions : List Action)⟩ : DI), (⟨F6, MP.own F6 [(.slice A9 y2.Undo.length c10)] (y2.Undo : List Action)⟩ : DI)]) (by simpa using hN.1) (ps1 hl5 (ps1 hl6 (ps1 hl7 (ps1 hl8 (ps1 hl9 ps0))))) (by simpa using hN.2)
  have H := H.lend 0 rfl
  have H := H.lend 1 rfl
  have H := H.lend 2 rfl
  have H := H.lend 3 rfl
  have H := H.lend 4 rfl
  refine wl0 rfl (op_storeB hf H 0 TF.sz74 rfl rfl rfl rfl rfl rfl (nle rfl) fun w H => ?_)
  refine pr 1 hf rfl rfl fun a hf => ?_
  refine wl_end (then_n (wp_ret (?_)))
  have H := H.frontD 4 rfl
  have H := H.frontD 4 rfl
  have H := H.frontD 4 rfl
  have H := H.frontD 4 rfl
  have H := H.frontD 4 rfl
  obtain rfl := Option.some.inj hF
  refine ret_2 (fn := Tryz.f50) (r := .cell 4 74) (s := .tmp 5) hf rfl (rv_cellN hf H 0 TF.la74 rfl rfl rfl) (rv_tmp hf rfl) ?_
  have hN := H.ends (X := [(⟨F2, MP.own F2 [(.slice A5 y2.Plan.Network.Nodes.length c6)] (y2.Plan.Network.Nodes : List ByteArray)⟩ : DI), (⟨F3, MP.own F3 [(.slice A6 y2.Plan.Network.Fibers.length c7)] (y2.Plan.Network.Fibers : List Fiber)⟩ : DI), (⟨F4, MP.own F4 [(.slice A7 y2.Plan.Lights.length c8)] (y2.Plan.Lights : List Light)⟩ : DI), (⟨F5, MP.own F5 [(.slice A8 y2.Actions.length c9)] (y2.Actions : List Action)⟩ : DI), (⟨F6, MP.own F6 [(.slice A9 y2.Undo.length c10)] (y2.Undo : List Action)⟩ : DI)])
  simp only [List.flatMap_cons, List.flatMap_nil, List.append_nil, List.append_assoc] at hN
  exact ⟨_, rfl, H.bel, (F2 ++ (F3 ++ (F4 ++ (F5 ++ F6)))), _, _, rfl, ⟨_, Change_ownmk (x := y2) (H.ownAt 0 rfl) (H.ownAt 1 rfl) (H.ownAt 2 rfl) (H.ownAt 3 rfl) (H.ownAt 4 rfl), rfl⟩, mk_bool, by first | exact hN | simpa using hN⟩
end AT
