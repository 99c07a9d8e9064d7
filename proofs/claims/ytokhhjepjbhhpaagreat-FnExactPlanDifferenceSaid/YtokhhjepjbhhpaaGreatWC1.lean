/- The Go functions do what is told of them, by program (gen.py). -/
import Derived.Test.YtokhhjepjbhhpaaGreatWC0
set_option linter.unusedVariables false
set_option linter.unusedSimpArgs false
set_option maxRecDepth 100000
namespace AT
open Go Go.RowKit Go.Proofs

/- cmp.Compare[int] -/
set_option maxHeartbeats 1000000 in
theorem cmp_Compare_int_ok {fu : Nat} {w0 : World} {S : Nat → Prop} {v0_ : Value} {v1_ : Value} {x1 : Int} {y : Int} {r : Int} (h0 : VR w0 S v0_ x1) (h1 : VR w0 S v1_ y) (hF : cmp_Compare_int fu x1 y = some r) :
    Calls Tryz.prog 224 [v0_, v1_].toArray w0 fun e w' => ∃ v, e = .returned v ∧ (Below w0.heap.size w0 w' ∧ VR w' (St ⟨w0, []⟩ S [] [] [] true) v r) := by
 obtain rfl := VR_int h0
 obtain rfl := VR_int h1
 have H := Mem.start ⟨w0, []⟩ S
 refine enter Tryz.func224 rfl rfl (nle rfl) rfl fun a hf => ?_
 rw [cmp_Compare_int] at hF
 refine sq (reg (pr 1 hf rfl rfl fun a hf => ?_))
 refine wl_end (then_n (sq (reg (pr 1 hf rfl rfl fun a hf => ?_))))
 obtain ⟨y2, hy2, hF⟩ := bind_some hF
 refine wl0 rfl (op_call hf TF.cl236 rfl (by decide) (cmp_isNaN_int_ok (S := fun _ => True) mk_int hy2) fun v w a hp hf => ?_)
 obtain ⟨hb, hp⟩ := hp
 obtain rfl := VR_bool hp
 have H := H.keep hb
 refine pr 1 hf rfl rfl fun a hf => ?_
 refine wl_end (then_n (sq (reg (pr 1 hf rfl rfl fun a hf => ?_))))
 obtain ⟨y3, hy3, hF⟩ := bind_some hF
 refine wl0 rfl (op_call hf TF.cl236 rfl (by decide) (cmp_isNaN_int_ok (S := fun _ => True) mk_int hy3) fun v2 w a hp2 hf => ?_)
 obtain ⟨hb2, hp2⟩ := hp2
 obtain rfl := VR_bool hp2
 have H := H.keep hb2
 refine pr 1 hf rfl rfl fun a hf => ?_
 refine wl_end (then_n (sq (sq (reg (pr 1 hf rfl rfl fun a hf => ?_)))))
 refine wl_end (then_n (iteB hF (fun hc hF => cd_t hf rfl hc ?_) fun hc hF => cd_f hf rfl hc ?_))
 ·refine sq (sq (reg (pr 1 hf rfl rfl fun a hf => ?_)))
  refine wl_end (then_n (iteB hF (fun hc2 hF => cd_t hf rfl hc2 ?_) fun hc2 hF => cd_f hf rfl hc2 ?_))
  ·refine sq (reg (pr 1 hf rfl rfl fun a hf => ?_))
   refine wl_end (then_n (wp_ret (then_r (then_r (?_)))))
   obtain rfl := Option.some.inj hF
   refine ret_1 (fn := Tryz.f224) (r := .tmp 4) hf rfl (rv_tmp hf rfl) ?_
   exact ⟨_, rfl, H.bel, mk_int⟩
  ·refine wp_skip (then_n (sq (reg (pr 1 hf rfl rfl fun a hf => ?_))))
   refine wl_end (then_n (wp_ret (then_r (?_))))
   obtain rfl := Option.some.inj hF
   refine ret_1 (fn := Tryz.f224) (r := .tmp 4) hf rfl (rv_tmp hf rfl) ?_
   exact ⟨_, rfl, H.bel, mk_int⟩
 ·refine wp_skip (then_n (sq (sq (reg (pr 1 hf rfl rfl fun a hf => ?_)))))
  refine wl_end (then_n (iteB hF (fun hc3 hF => cd_t hf rfl hc3 ?_) fun hc3 hF => cd_f hf rfl hc3 ?_))
  ·refine sq (reg (pr 1 hf rfl rfl fun a hf => ?_))
   refine wl_end (then_n (wp_ret (then_r (?_))))
   obtain rfl := Option.some.inj hF
   refine ret_1 (fn := Tryz.f224) (r := .tmp 4) hf rfl (rv_tmp hf rfl) ?_
   exact ⟨_, rfl, H.bel, mk_int⟩
  ·refine wp_skip (then_n (sq (sq (reg (pr 3 hf rfl rfl fun a hf => ?_)))))
   refine wl_end (then_n (iteB hF (fun hc4 hF => cd_t hf rfl hc4 ?_) fun hc4 hF => cd_f hf rfl hc4 ?_))
   ·refine sq (reg (pr 1 hf rfl rfl fun a hf => ?_))
    have hf := hf.prune [4] rfl
    refine wl_end (then_n (wp_ret (then_r (?_))))
    obtain rfl := Option.some.inj hF
    refine ret_1 (fn := Tryz.f224) (r := .tmp 4) hf rfl (rv_tmp hf rfl) ?_
    exact ⟨_, rfl, H.bel, mk_int⟩
   ·refine wp_skip (then_n (sq (sq (reg (pr 3 hf rfl rfl fun a hf => ?_)))))
    have hf := hf.prune [19] rfl
    refine wl_end (then_n (iteB hF (fun hc5 hF => cd_t hf rfl hc5 ?_) fun hc5 hF => cd_f hf rfl hc5 ?_))
    ·refine sq (reg (pr 1 hf rfl rfl fun a hf => ?_))
     refine wl_end (then_n (wp_ret (then_r (?_))))
     obtain rfl := Option.some.inj hF
     refine ret_1 (fn := Tryz.f224) (r := .tmp 4) hf rfl (rv_tmp hf rfl) ?_
     exact ⟨_, rfl, H.bel, mk_int⟩
    ·refine wp_skip (then_n (sq (reg (pr 1 hf rfl rfl fun a hf => ?_))))
     refine wl_end (then_n (wp_ret (?_)))
     obtain rfl := Option.some.inj hF
     refine ret_1 (fn := Tryz.f224) (r := .tmp 4) hf rfl (rv_tmp hf rfl) ?_
     exact ⟨_, rfl, H.bel, mk_int⟩

/- cmp.Or[int] -/
set_option maxHeartbeats 1000000 in
theorem cmp_Or_int_ok {fu : Nat} {w0 : World} {S : Nat → Prop} {v0_ : Value} {vals : List Int} {r : Int} (h0 : VR w0 S v0_ vals) (hF : cmp_Or_int fu vals = some r) :
    Calls Tryz.prog 223 [v0_].toArray w0 fun e w' => ∃ v, e = .returned v ∧ (Below w0.heap.size w0 w' ∧ VR w' (St ⟨w0, []⟩ S [] [] [] true) v r) := by
 obtain ⟨A, c, rfl, hl⟩ := VR_list h0
 have H := Mem.start ⟨w0, []⟩ S
 have H := H.pushArg (MP.val [(.slice A vals.length c)] vals) hl
 refine enter Tryz.func223 rfl rfl (nle rfl) rfl fun a hf => ?_
 rw [cmp_Or_int] at hF
 refine sq (reg (pr 1 hf rfl rfl fun a hf => ?_))
 refine wl_end (then_n (sq (reg (pr 1 hf rfl rfl fun a hf => ?_))))
 refine wl_end (then_n (sq (sq (reg (pr 3 hf rfl rfl fun a hf => ?_)))))
 refine wl_end (then_n ?_)
 obtain ⟨out', hB1, hF⟩ := bind_some hF
 have hf := hf.prune [3, 6, 7, 8] rfl
 have H := H.let [] [] [] [0] rfl rfl rfl rfl
 refine loopC (fun (s : Int) (a : Act) (w : World) => match s with | i => Fr a 18 [(3, (.int .i64 0)), (6, (.slice A vals.length c)), (7, (.int .i64 (vals.length : Int))), (8, (.int .i64 i))] ∧ Mem ⟨w0, []⟩ S [] [] [] [(false, MP.val [(.slice A vals.length c)] (vals : List Int))] w) (fun k (s : Int) => cmp_Or_int_L1 fu vals k s = some out') (fun s => out' = Out.next s) 0 fu hB1 ⟨hf, H⟩ (fun s h => by cases h) ?_ ?_
 ·rintro fk i a w hR1 hI
  replace hR1 : cmp_Or_int_L1 fu vals (fk + 1) i = some out' := hR1
  rw [cmp_Or_int_L1] at hR1
  obtain ⟨hf, H⟩ := hI
  refine sq (reg (pr 1 hf rfl rfl fun a hf => ?_))
  refine wl_end (then_n (sq (iteB hR1 (fun hc hR1 => cd_t hf rfl hc ?_) fun hc hR1 => cd_f hf rfl hc ?_)))
  ·refine wp_skip (then_n (sq (wp_block (sq (reg ?_)))))
   obtain ⟨e, he, hR1⟩ := bind_some hR1
   refine wl0 rfl (op_iaddr hf H Tryz.underlying44 TF.sz3 0 rfl rfl rfl he (by decide) fun p o cs a hf hr H => ?_)
   obtain rfl := hr
   refine wl0 rfl (op_q hf (rq_loadI hf H TF.ls3 0 0 rfl rfl rfl) rfl (by decide) fun a hf => ?_)
   refine pr 1 hf rfl rfl fun a hf => ?_
   refine wl_end (then_n (sq (reg (pr 3 hf rfl rfl fun a hf => ?_))))
   refine wl_end (then_n (iteB hR1 (fun hc2 hR1 => cd_t hf rfl hc2 ?_) fun hc2 hR1 => cd_f hf rfl hc2 ?_))
   ·refine sq (reg (pr 2 hf rfl rfl fun a hf => ?_))
    refine wl_end (then_n (wp_ret (blk_r (then_r (then_r (blk_r (then_r (then_r (?_)))))))))
    obtain rfl := Option.some.inj hR1
    replace hF := on_ret hF
    obtain rfl := Option.some.inj hF
    refine ret_1 (fn := Tryz.f223) (r := .tmp 2) hf rfl (rv_tmp hf rfl) ?_
    exact ⟨_, rfl, H.bel, mk_int⟩
   ·refine wp_skip (blk_n (then_n (reg (pr 2 hf rfl rfl fun a hf => ?_))))
    refine wl_end ?_
    have hf := hf.prune [3, 6, 7, 8] rfl
    have H := H.let [] [] [] [1] rfl rfl rfl rfl
    exact then_n ⟨w64 (i + 1), hR1, hf, H⟩
  ·refine wp_exit (then_x (then_x (blk_e (?_))))
   have hf := hf.prune [3, 6, 7, 8] rfl
   have H := H.let [] [] [] [0] rfl rfl rfl rfl
   exact ⟨i, (Option.some.inj hR1).symm, hf, H⟩
 rintro a w ⟨i2, rfl, hf, H⟩
 replace hF := on_next hF
 refine then_n (sq (reg (pr 2 hf rfl rfl fun a hf => ?_)))
 refine wl_end (then_n (wp_ret (?_)))
 obtain rfl := Option.some.inj hF
 refine ret_1 (fn := Tryz.f223) (r := .tmp 2) hf rfl (rv_tmp hf rfl) ?_
 exact ⟨_, rfl, H.bel, mk_int⟩

/- loop.example/g00897/impl.compareFibers -/
set_option maxHeartbeats 1000000 in
theorem impl_compareFibers_ok {fu : Nat} {w0 : World} {S : Nat → Prop} {v0_ : Value} {v1_ : Value} {a' : Fiber} {b' : Fiber} {r : Int} (h0 : VR w0 S v0_ a') (h1 : VR w0 S v1_ b') (hF : impl_compareFibers fu a' b' = some r) :
    Calls Tryz.prog 194 [v0_, v1_].toArray w0 fun e w' => ∃ v, e = .returned v ∧ (Below w0.heap.size w0 w' ∧ VR w' (St ⟨w0, []⟩ S [] [] [] true) v r) := by
 obtain rfl := Fiber_open h0
 obtain rfl := Fiber_open h1
 have H := Mem.start ⟨w0, []⟩ S
 refine enter Tryz.func194 rfl rfl (nle rfl) rfl fun a hf => ?_
 rw [impl_compareFibers] at hF
 refine sq (reg (wl0 rfl (op_box hf H rfl rfl (by decide) fun b2 a w hf H => ?_)))
 refine wl0 rfl (op_box hf H rfl rfl (by decide) fun b3 a w hf H => ?_)
 refine pr 1 hf rfl rfl fun a hf => ?_
 refine wl_end (then_n (sq (drawn [] (bs := [false, false, false, false, false, false, false, false, false, false, false, false, false, false, false, false, false, false, false, false, false, false, false]) (fuel := 23) (Checked.mixed Tryz.checked) rfl rfl fun w hb => ?_)))
 have H := H.keep hb
 refine tp 0 rfl rfl hf (by kernel_rfl) (fun _ => trivial) rfl fun a hf => ?_
 refine strT (H.let [false, true] [] [] [] rfl rfl rfl rfl) (fun w H => trivial) fun hS => ?_
 refine tS 1 [] rfl rfl rfl rfl hf (by kernel_rfl) (by kernel_rfl) hS (fun w H => rq_loadB hf H TF.ls3 0 rfl rfl rfl) fun a hf => ?_
 refine tp 2 rfl rfl hf (by kernel_rfl) (fun _ => hS) rfl fun a hf => ?_
 refine strT H (fun w H => H.let [false, true] [] [] [] rfl rfl rfl rfl) fun hS => ?_
 refine tS 3 [] rfl rfl rfl rfl hf (by kernel_rfl) (by kernel_rfl) hS (fun w H => rq_loadB hf H TF.ls3 0 rfl rfl rfl) fun a hf => ?_
 refine tp 5 rfl rfl hf (by kernel_rfl) (fun _ => hS) rfl fun a hf => ?_
 refine tS 6 [] rfl rfl rfl rfl hf (by kernel_rfl) (by kernel_rfl) hS (fun w H => rq_loadB hf H TF.ls3 1 rfl rfl rfl) fun a hf => ?_
 refine tp 7 rfl rfl hf (by kernel_rfl) (fun _ => hS) rfl fun a hf => ?_
 refine tS 8 [] rfl rfl rfl rfl hf (by kernel_rfl) (by kernel_rfl) hS (fun w H => rq_loadB hf H TF.ls3 0 rfl rfl rfl) fun a hf => ?_
 refine tp 10 rfl rfl hf (by kernel_rfl) (fun _ => hS) rfl fun a hf => ?_
 refine tS 11 [] rfl rfl rfl rfl hf (by kernel_rfl) (by kernel_rfl) hS (fun w H => rq_loadB hf H TF.ls3 1 rfl rfl rfl) fun a hf => ?_
 refine tp 12 rfl rfl hf (by kernel_rfl) (fun _ => hS) rfl fun a hf => ?_
 refine tS 13 [] rfl rfl rfl rfl hf (by kernel_rfl) (by kernel_rfl) hS (fun w H => rq_loadB hf H TF.ls3 0 rfl rfl rfl) fun a hf => ?_
 refine tp 15 rfl rfl hf (by kernel_rfl) (fun _ => hS) rfl fun a hf => ?_
 refine tS 16 [] rfl rfl rfl rfl hf (by kernel_rfl) (by kernel_rfl) hS (fun w H => rq_loadB hf H TF.ls3 1 rfl rfl rfl) fun a hf => ?_
 refine tp 17 rfl rfl hf (by kernel_rfl) (fun _ => hS) rfl fun a hf => ?_
 refine tS 18 [] rfl rfl rfl rfl hf (by kernel_rfl) (by kernel_rfl) hS (fun w H => rq_loadB hf H TF.ls3 0 rfl rfl rfl) fun a hf => ?_
 obtain ⟨y, hy, hF⟩ := bind_some hF
 refine n1 4 (by kernel_rfl) rfl rfl (op_call hf TF.cl224 rfl (by decide) (cmp_Compare_int_ok (S := fun _ => True) mk_int mk_int hy) fun v w a hp hf => ?_)
 obtain ⟨hb, hp⟩ := hp
 obtain rfl := VR_int hp
 have H := H.keep hb
 have hS := H
 refine ⟨fun _ => hS, ?_⟩
 obtain ⟨y2, hy2, hF⟩ := bind_some hF
 refine n1 9 (by kernel_rfl) rfl rfl (op_call hf TF.cl224 rfl (by decide) (cmp_Compare_int_ok (S := fun _ => True) mk_int mk_int hy2) fun v2 w a hp2 hf => ?_)
 obtain ⟨hb2, hp2⟩ := hp2
 obtain rfl := VR_int hp2
 have H := H.keep hb2
 have hS := H
 refine ⟨fun _ => hS, ?_⟩
 obtain ⟨y3, hy3, hF⟩ := bind_some hF
 refine n1 14 (by kernel_rfl) rfl rfl (op_call hf TF.cl224 rfl (by decide) (cmp_Compare_int_ok (S := fun _ => True) mk_int mk_int hy3) fun v3 w a hp3 hf => ?_)
 obtain ⟨hb3, hp3⟩ := hp3
 obtain rfl := VR_int hp3
 have H := H.keep hb3
 have hS := H
 refine ⟨fun _ => hS, ?_⟩
 obtain ⟨y4, hy4, hF⟩ := bind_some hF
 refine n1 19 (by kernel_rfl) rfl rfl (op_call hf TF.cl224 rfl (by decide) (cmp_Compare_int_ok (S := fun _ => True) mk_int mk_int hy4) fun v4 w a hp4 hf => ?_)
 obtain ⟨hb4, hp4⟩ := hp4
 obtain rfl := VR_int hp4
 have H := H.keep hb4
 have hS := H
 refine ⟨fun _ => hS, ?_⟩
 refine n1 20 (by kernel_rfl) rfl rfl (op_bslice hf H (.sh true) rfl 3 ([y, y2, y3, y4] : List Int) [(.int .i64 y), (.int .i64 y2), (.int .i64 y3), (.int .i64 y4)] rfl (fun w => by kernel_rfl) rfl (by decide) rfl trivial (elI [y, y2, y3, y4]) (by decide) fun A a w hf H => ?_)
 have hS := H.let [true, true] [false] [] [] rfl rfl rfl rfl
 refine ⟨fun _ => hS, ?_⟩
 obtain ⟨y5, hy5, hF⟩ := bind_some hF
 refine n1 21 (by kernel_rfl) rfl rfl (op_call hf TF.cl223 rfl (by decide) (cmp_Or_int_ok (S := fun _ => True) (mk_list (H.rowTrue 0 rfl)) hy5) fun v5 w a hp5 hf => ?_)
 obtain ⟨hb5, hp5⟩ := hp5
 obtain rfl := VR_int hp5
 have H := H.keep hb5
 have hS := H.let [true, true] [false] [] [] rfl rfl rfl rfl
 refine ⟨fun _ => hS, ?_⟩
 refine tp 22 rfl rfl hf (by kernel_rfl) (fun _ => hS) rfl fun a hf => ?_
 refine dn (by kernel_rfl) ?_
 have hf := hf.prune [4] rfl
 refine then_n (wp_ret (?_))
 obtain rfl := Option.some.inj hF
 refine ret_1 (fn := Tryz.f194) (r := .tmp 4) hf rfl (rv_tmp hf rfl) ?_
 exact ⟨_, rfl, H.bel, mk_int⟩

/- loop.example/g00897/impl.IsValidNetwork -/
set_option maxHeartbeats 1000000 in
theorem impl_IsValidNetwork_ok {fu : Nat} {w0 : World} {S : Nat → Prop} {v0_ : Value} {n' : Network} {r : Bool} (h0 : VR w0 S v0_ n') (hF : impl_IsValidNetwork fu n' = some r) :
    Calls Tryz.prog 134 [v0_].toArray w0 fun e w' => ∃ v, e = .returned v ∧ (Below w0.heap.size w0 w' ∧ VR w' (St ⟨w0, []⟩ S [] [] [] true) v r) := by
 obtain ⟨A, c, A2, c2, rfl, hl, hl2⟩ := Network_open h0
 have H := Mem.start ⟨w0, []⟩ S
 have H := H.pushArg (MP.val [(.slice A n'.Nodes.length c)] n'.Nodes) hl
 have H := H.pushArg (MP.val [(.slice A2 n'.Fibers.length c2)] n'.Fibers) hl2
 refine enter Tryz.func134 rfl rfl (nle rfl) rfl fun a hf => ?_
 rw [impl_IsValidNetwork] at hF
 refine sq (reg (wl0 rfl (op_box hf H rfl rfl (by decide) fun b' a w hf H => ?_)))
 refine pr 1 hf rfl rfl fun a hf => ?_
 refine wl_end (then_n (sq (sq (reg (pr 1 hf rfl rfl fun a hf => ?_)))))
 refine wl0 rfl (op_q hf (rq_loadB hf H TF.ls22 0 rfl rfl rfl) rfl (by decide) fun a hf => ?_)
 refine pr 2 hf rfl rfl fun a hf => ?_
 refine wl_end (then_n ?_)
 obtain ⟨out', hB1, hF⟩ := bind_some hF
 have hf := hf.prune [1, 8, 9, 10] rfl
 have H := H.let [true] [] [] [0, 1] rfl rfl rfl rfl
 refine loopC (fun (s : Int) (a : Act) (w : World) => match s with | i => Fr a 91 [(1, (.pointer (some ⟨b', 0, none⟩))), (8, (.slice A n'.Nodes.length c)), (9, (.int .i64 (n'.Nodes.length : Int))), (10, (.int .i64 i))] ∧ Mem ⟨w0, []⟩ S [⟨b', 34, [(.slice A n'.Nodes.length c), (.slice A2 n'.Fibers.length c2)]⟩] [] [] [(false, MP.val [(.slice A2 n'.Fibers.length c2)] (n'.Fibers : List Fiber)), (false, MP.val [(.slice A n'.Nodes.length c)] (n'.Nodes : List ByteArray))] w) (fun k (s : Int) => impl_IsValidNetwork_L1 fu n' k s = some out') (fun s => out' = Out.next s) 0 fu hB1 ⟨hf, H⟩ (fun s h => by cases h) ?_ ?_
 ·rintro fk i a w hR1 hI
  replace hR1 : impl_IsValidNetwork_L1 fu n' (fk + 1) i = some out' := hR1
  rw [impl_IsValidNetwork_L1] at hR1
  obtain ⟨hf, H⟩ := hI
  refine sq (reg (pr 1 hf rfl rfl fun a hf => ?_))
  refine wl_end (then_n (sq (iteB hR1 (fun hc hR1 => cd_t hf rfl hc ?_) fun hc hR1 => cd_f hf rfl hc ?_)))
  ·refine wp_skip (then_n (sq (wp_block (sq (reg (pr 1 hf rfl rfl fun a hf => ?_))))))
   obtain ⟨e, he, hR1⟩ := bind_some hR1
   refine wl0 rfl (op_iaddr hf H Tryz.underlying22 TF.sz9 1 rfl rfl rfl he (by decide) fun p o cs a hf hr H => ?_)
   obtain rfl := hr
   refine wl0 rfl (op_q hf (rq_loadI hf H TF.ls9 0 0 rfl rfl rfl) rfl (by decide) fun a hf => ?_)
   refine pr 2 hf rfl rfl fun a hf => ?_
   refine wl_end (then_n (sq ?_))
   obtain ⟨c3, hGc3, hR1⟩ := bind_some hR1
   have fh := hf.prune [1, 8, 9, 10] rfl
   have Hm := H.let [true] [] [] [1, 2] rfl rfl rfl rfl
   refine midF 25 (.bool c3) fh Hm ?_ fun a w hf H => ?_
   ·refine reg (pr 1 hf rfl rfl fun a hf => ?_)
    obtain ⟨y, hy, hGc3⟩ := bind_some hGc3
    refine wl0 rfl (op_call hf TF.cl192 rfl (by decide) (impl_isName_ok (S := fun _ => True) mk_str hy) fun v w a hp hf => ?_)
    obtain ⟨hb, hp⟩ := hp
    obtain rfl := VR_bool hp
    have H := H.keep hb
    refine pr 2 hf rfl rfl fun a hf => ?_
    refine iteB hGc3 (fun hc2 hGc3 => ?_) fun hc2 hGc3 => ?_
    ·have hf := hf.lit 18 rfl hc2
     refine pr 7 hf rfl rfl fun a hf => ?_
     obtain rfl := Option.some.inj hGc3
     have hf := hf.prune [25, 1, 8, 9, 10] rfl
     have H := H.let [true] [] [] [1, 2] rfl rfl rfl rfl
     exact wl_end ⟨hf, H⟩
    ·have hf := hf.lit 18 rfl hc2
     refine pr 1 hf rfl rfl fun a hf => ?_
     refine wlg hf rfl rfl rfl (op_q hf (rq_loadB hf H TF.ls22 0 rfl rfl rfl) rfl (by decide) fun a hf => ?_)
     refine pr 1 hf rfl rfl fun a hf => ?_
     obtain ⟨l, hl, hGc3⟩ := bind_some hGc3
     refine wlg hf rfl rfl rfl (op_sliceI hf H Tryz.underlying22 TF.sz9 2 rfl rfl rfl rfl hl (by decide) fun A3 c4 a hf H => ?_)
     refine pr 1 hf rfl rfl fun a hf => ?_
     obtain ⟨y2, hy2, hGc3⟩ := bind_some hGc3
     refine wlg hf rfl rfl rfl (op_call hf TF.cl193 rfl (by decide) (slices_Contains_string_string_ok (S := fun _ => True) (mk_list (rep_true (α := List ByteArray) (H.get 0 rfl))) mk_str hy2) fun v2 w a hp2 hf => ?_)
     obtain ⟨hb2, hp2⟩ := hp2
     obtain rfl := VR_bool hp2
     have H := H.keep hb2
     refine pr 1 hf rfl rfl fun a hf => ?_
     obtain rfl := Option.some.inj hGc3
     have hf := hf.prune [25, 1, 8, 9, 10] rfl
     have H := H.let [true] [] [] [2, 3] rfl rfl rfl rfl
     exact wl_end ⟨hf, H⟩
   refine then_n (iteB hR1 (fun hc3 hR1 => cd_t hf rfl hc3 ?_) fun hc3 hR1 => cd_f hf rfl hc3 ?_)
   ·refine sq (reg (pr 1 hf rfl rfl fun a hf => ?_))
    refine wl_end (then_n (wp_ret (blk_r (then_r (then_r (blk_r (then_r (then_r (?_)))))))))
    obtain rfl := Option.some.inj hR1
    replace hF := on_ret hF
    obtain rfl := Option.some.inj hF
    refine ret_1 (fn := Tryz.f134) (r := .tmp 2) hf rfl (rv_tmp hf rfl) ?_
    exact ⟨_, rfl, H.bel, mk_bool⟩
   ·refine wp_skip (blk_n (then_n (reg (pr 2 hf rfl rfl fun a hf => ?_))))
    refine wl_end ?_
    have hf := hf.prune [1, 8, 9, 10] rfl
    have H := H.let [true] [] [] [0, 1] rfl rfl rfl rfl
    exact then_n ⟨w64 (i + 1), hR1, hf, H⟩
  ·refine wp_exit (then_x (then_x (blk_e (?_))))
   have hf := hf.prune [1, 8, 9, 10] rfl
   have H := H.let [true] [] [] [0, 1] rfl rfl rfl rfl
   exact ⟨i, (Option.some.inj hR1).symm, hf, H⟩
 rintro a w ⟨i2, rfl, hf, H⟩
 replace hF := on_next hF
 refine then_n (sq (sq (reg (pr 1 hf rfl rfl fun a hf => ?_))))
 refine wl0 rfl (op_q hf (rq_loadB hf H TF.ls32 0 rfl rfl rfl) rfl (by decide) fun a hf => ?_)
 refine pr 2 hf rfl rfl fun a hf => ?_
 refine wl_end (then_n ?_)
 obtain ⟨out2, hB1, hF⟩ := bind_some hF
 have hf := hf.prune [1, 28, 29, 30] rfl
 have H := H.let [true] [] [] [0, 1] rfl rfl rfl rfl
 refine loopC (fun (s : Int) (a : Act) (w : World) => match s with | i3 => Fr a 91 [(1, (.pointer (some ⟨b', 0, none⟩))), (28, (.slice A2 n'.Fibers.length c2)), (29, (.int .i64 (n'.Fibers.length : Int))), (30, (.int .i64 i3))] ∧ Mem ⟨w0, []⟩ S [⟨b', 34, [(.slice A n'.Nodes.length c), (.slice A2 n'.Fibers.length c2)]⟩] [] [] [(false, MP.val [(.slice A2 n'.Fibers.length c2)] (n'.Fibers : List Fiber)), (false, MP.val [(.slice A n'.Nodes.length c)] (n'.Nodes : List ByteArray))] w) (fun k (s : Int) => impl_IsValidNetwork_L2 fu n' k s = some out2) (fun s => out2 = Out.next s) 0 fu hB1 ⟨hf, H⟩ (fun s h => by cases h) ?_ ?_
 ·rintro fk i3 a w hR1 hI
  replace hR1 : impl_IsValidNetwork_L2 fu n' (fk + 1) i3 = some out2 := hR1
  rw [impl_IsValidNetwork_L2] at hR1
  obtain ⟨hf, H⟩ := hI
  refine sq (reg (pr 1 hf rfl rfl fun a hf => ?_))
  refine wl_end (then_n (sq (iteB hR1 (fun hc4 hR1 => cd_t hf rfl hc4 ?_) fun hc4 hR1 => cd_f hf rfl hc4 ?_)))
  ·refine wp_skip (then_n (sq (wp_block (sq (reg (pr 1 hf rfl rfl fun a hf => ?_))))))
   obtain ⟨e2, he2, hR1⟩ := bind_some hR1
   refine wl0 rfl (op_iaddr hf H Tryz.underlying32 TF.sz120 0 rfl rfl rfl he2 (by decide) fun p2 o2 cs2 a hf hr2 H => ?_)
   obtain rfl := Fiber_cells hr2
   refine wl0 rfl (op_q hf (rq_loadIN hf H TF.la120 0 0 rfl rfl rfl rfl) rfl (by decide) fun a hf => ?_)
   refine wl0 rfl (op_alloc hf H TF.zv120 rfl (by decide) fun b2 a w hf H => ?_)
   refine pr 1 hf rfl rfl fun a hf => ?_
   refine wl0 rfl (op_storeB hf H 0 TF.sz120 rfl rfl rfl rfl rfl rfl (nle rfl) fun w H => ?_)
   refine wl_end (then_n (sq ?_))
   obtain ⟨c5, hGc5, hR1⟩ := bind_some hR1
   have fh2 := hf.prune [1, 28, 29, 30] rfl
   have Hm2 := H.let [false, true] [] [] [1, 2] rfl rfl rfl rfl
   refine midF 79 (.bool c5) fh2 Hm2 ?_ fun a w hf H => ?_
   ·refine drawn [] (bs := [false, false, false, false, false, false, false, false, false, false, false, false, false, false, false, false, false, false, false, false, false, false, false, false, false, false, false, false, false, false, false, false, false, false, false, false, false, false, false, false, false, false, false, false, false]) (fuel := 45) (Checked.mixed Tryz.checked) rfl rfl fun w hb => ?_
    have H := H.keep hb
    refine tp 0 rfl rfl hf (by kernel_rfl) (fun _ => trivial) rfl fun a hf => ?_
    refine strT (H.let [true, false] [] [] [] rfl rfl rfl rfl) (fun w H => trivial) fun hS => ?_
    refine tS 1 [] rfl rfl rfl rfl hf (by kernel_rfl) (by kernel_rfl) hS (fun w H => rq_loadB hf H TF.ls3 0 rfl rfl rfl) fun a hf => ?_
    refine tp 2 rfl rfl hf (by kernel_rfl) (fun _ => hS) rfl fun a hf => ?_
    refine tp 3 rfl rfl hf (by kernel_rfl) (fun _ => hS) rfl fun a hf => ?_
    refine iteB hGc5 (fun hc5 hGc5 => ?_) fun hc5 hGc5 => ?_
    ·have hf := hf.lit 38 rfl hc5
     refine tU 4 rfl rfl rfl rfl rfl rfl rfl hf (by kernel_rfl) (fun _ => hS) fun a hf => ?_
     refine tU 5 rfl rfl rfl rfl rfl rfl rfl hf (by kernel_rfl) (fun _ => hS) fun a hf => ?_
     refine tU 6 rfl rfl rfl rfl rfl rfl rfl hf (by kernel_rfl) (fun _ => hS) fun a hf => ?_
     refine tU 7 rfl rfl rfl rfl rfl rfl rfl hf (by kernel_rfl) (fun _ => hS) fun a hf => ?_
     refine tU 8 rfl rfl rfl rfl rfl rfl rfl hf (by kernel_rfl) (fun _ => hS) fun a hf => ?_
     refine tp 9 rfl rfl hf (by kernel_rfl) (fun _ => hS) rfl fun a hf => ?_
     refine tp 10 rfl rfl hf (by kernel_rfl) (fun _ => hS) rfl fun a hf => ?_
     refine tU 11 rfl rfl rfl rfl rfl rfl rfl hf (by kernel_rfl) (fun _ => hS) fun a hf => ?_
     refine tU 12 rfl rfl rfl rfl rfl rfl rfl hf (by kernel_rfl) (fun _ => hS) fun a hf => ?_
     refine tU 13 rfl rfl rfl rfl rfl rfl rfl hf (by kernel_rfl) (fun _ => hS) fun a hf => ?_
     refine tU 14 rfl rfl rfl rfl rfl rfl rfl hf (by kernel_rfl) (fun _ => hS) fun a hf => ?_
     refine tU 15 rfl rfl rfl rfl rfl rfl rfl hf (by kernel_rfl) (fun _ => hS) fun a hf => ?_
     refine tU 16 rfl rfl rfl rfl rfl rfl rfl hf (by kernel_rfl) (fun _ => hS) fun a hf => ?_
     refine tp 17 rfl rfl hf (by kernel_rfl) (fun _ => hS) rfl fun a hf => ?_
     refine tp 18 rfl rfl hf (by kernel_rfl) (fun _ => hS) rfl fun a hf => ?_
     refine tU 19 rfl rfl rfl rfl rfl rfl rfl hf (by kernel_rfl) (fun _ => hS) fun a hf => ?_
     refine tU 20 rfl rfl rfl rfl rfl rfl rfl hf (by kernel_rfl) (fun _ => hS) fun a hf => ?_
     refine tU 21 rfl rfl rfl rfl rfl rfl rfl hf (by kernel_rfl) (fun _ => hS) fun a hf => ?_
     refine tU 22 rfl rfl rfl rfl rfl rfl rfl hf (by kernel_rfl) (fun _ => hS) fun a hf => ?_
     refine tp 23 rfl rfl hf (by kernel_rfl) (fun _ => hS) rfl fun a hf => ?_
     refine tp 24 rfl rfl hf (by kernel_rfl) (fun _ => hS) rfl fun a hf => ?_
     refine tU 25 rfl rfl rfl rfl rfl rfl rfl hf (by kernel_rfl) (fun _ => hS) fun a hf => ?_
     refine tU 26 rfl rfl rfl rfl rfl rfl rfl hf (by kernel_rfl) (fun _ => hS) fun a hf => ?_
     refine tU 27 rfl rfl rfl rfl rfl rfl rfl hf (by kernel_rfl) (fun _ => hS) fun a hf => ?_
     refine tU 28 rfl rfl rfl rfl rfl rfl rfl hf (by kernel_rfl) (fun _ => hS) fun a hf => ?_
     refine tp 29 rfl rfl hf (by kernel_rfl) (fun _ => hS) rfl fun a hf => ?_
     refine tp 30 rfl rfl hf (by kernel_rfl) (fun _ => hS) rfl fun a hf => ?_
     refine tU 31 rfl rfl rfl rfl rfl rfl rfl hf (by kernel_rfl) (fun _ => hS) fun a hf => ?_
     refine tU 32 rfl rfl rfl rfl rfl rfl rfl hf (by kernel_rfl) (fun _ => hS) fun a hf => ?_
     refine tU 33 rfl rfl rfl rfl rfl rfl rfl hf (by kernel_rfl) (fun _ => hS) fun a hf => ?_
     refine tUU 34 rfl rfl rfl rfl rfl rfl hf (by kernel_rfl) (fun _ => hS) fun a hf => ?_
     refine tUU 35 rfl rfl rfl rfl rfl rfl hf (by kernel_rfl) (fun _ => hS) fun a hf => ?_
     refine tUU 36 rfl rfl rfl rfl rfl rfl hf (by kernel_rfl) (fun _ => hS) fun a hf => ?_
     refine tUU 37 rfl rfl rfl rfl rfl rfl hf (by kernel_rfl) (fun _ => hS) fun a hf => ?_
     refine tUU 38 rfl rfl rfl rfl rfl rfl hf (by kernel_rfl) (fun _ => hS) fun a hf => ?_
     refine tUU 39 rfl rfl rfl rfl rfl rfl hf (by kernel_rfl) (fun _ => hS) fun a hf => ?_
     refine tUU 40 rfl rfl rfl rfl rfl rfl hf (by kernel_rfl) (fun _ => hS) fun a hf => ?_
     refine tUU 41 rfl rfl rfl rfl rfl rfl hf (by kernel_rfl) (fun _ => hS) fun a hf => ?_
     refine tUU 42 rfl rfl rfl rfl rfl rfl hf (by kernel_rfl) (fun _ => hS) fun a hf => ?_
     refine tU 43 rfl rfl rfl rfl rfl rfl rfl hf (by kernel_rfl) (fun _ => hS) fun a hf => ?_
     refine tp 44 rfl rfl hf (by kernel_rfl) (fun _ => hS) rfl fun a hf => ?_
     refine dn (by kernel_rfl) ?_
     obtain rfl := Option.some.inj hGc5
     have hf := hf.prune [79, 1, 28, 29, 30] rfl
     have H := H.let [false, true] [] [] [1, 2] rfl rfl rfl rfl
     exact ⟨hf, H⟩
    ·have hf := hf.lit 38 rfl hc5
     refine tpg 4 rfl rfl rfl rfl hf (by kernel_rfl) (fun _ => hS) rfl fun a hf => ?_
     refine tSg 5 [] rfl rfl rfl rfl rfl rfl hf (by kernel_rfl) (by kernel_rfl) hS (fun w H => rq_loadB hf H TF.ls3 0 rfl rfl rfl) fun a hf => ?_
     refine tpg 6 rfl rfl rfl rfl hf (by kernel_rfl) (fun _ => hS) rfl fun a hf => ?_
     refine tSg 7 [] rfl rfl rfl rfl rfl rfl hf (by kernel_rfl) (by kernel_rfl) hS (fun w H => rq_loadB hf H TF.ls3 0 rfl rfl rfl) fun a hf => ?_
     refine tpg 8 rfl rfl rfl rfl hf (by kernel_rfl) (fun _ => hS) rfl fun a hf => ?_
     refine tp 9 rfl rfl hf (by kernel_rfl) (fun _ => hS) rfl fun a hf => ?_
     refine tp 10 rfl rfl hf (by kernel_rfl) (fun _ => hS) rfl fun a hf => ?_
     refine iteB hGc5 (fun hc6 hGc5 => ?_) fun hc6 hGc5 => ?_
     ·have hf := hf.lit 45 rfl hc6
      refine tU 11 rfl rfl rfl rfl rfl rfl rfl hf (by kernel_rfl) (fun _ => hS) fun a hf => ?_
      refine tU 12 rfl rfl rfl rfl rfl rfl rfl hf (by kernel_rfl) (fun _ => hS) fun a hf => ?_
      refine tU 13 rfl rfl rfl rfl rfl rfl rfl hf (by kernel_rfl) (fun _ => hS) fun a hf => ?_
      refine tU 14 rfl rfl rfl rfl rfl rfl rfl hf (by kernel_rfl) (fun _ => hS) fun a hf => ?_
      refine tU 15 rfl rfl rfl rfl rfl rfl rfl hf (by kernel_rfl) (fun _ => hS) fun a hf => ?_
      refine tU 16 rfl rfl rfl rfl rfl rfl rfl hf (by kernel_rfl) (fun _ => hS) fun a hf => ?_
      refine tp 17 rfl rfl hf (by kernel_rfl) (fun _ => hS) rfl fun a hf => ?_
      refine tp 18 rfl rfl hf (by kernel_rfl) (fun _ => hS) rfl fun a hf => ?_
      refine tU 19 rfl rfl rfl rfl rfl rfl rfl hf (by kernel_rfl) (fun _ => hS) fun a hf => ?_
      refine tU 20 rfl rfl rfl rfl rfl rfl rfl hf (by kernel_rfl) (fun _ => hS) fun a hf => ?_
      refine tU 21 rfl rfl rfl rfl rfl rfl rfl hf (by kernel_rfl) (fun _ => hS) fun a hf => ?_
      refine tU 22 rfl rfl rfl rfl rfl rfl rfl hf (by kernel_rfl) (fun _ => hS) fun a hf => ?_
      refine tp 23 rfl rfl hf (by kernel_rfl) (fun _ => hS) rfl fun a hf => ?_
      refine tp 24 rfl rfl hf (by kernel_rfl) (fun _ => hS) rfl fun a hf => ?_
      refine tU 25 rfl rfl rfl rfl rfl rfl rfl hf (by kernel_rfl) (fun _ => hS) fun a hf => ?_
      refine tU 26 rfl rfl rfl rfl rfl rfl rfl hf (by kernel_rfl) (fun _ => hS) fun a hf => ?_
      refine tU 27 rfl rfl rfl rfl rfl rfl rfl hf (by kernel_rfl) (fun _ => hS) fun a hf => ?_
      refine tU 28 rfl rfl rfl rfl rfl rfl rfl hf (by kernel_rfl) (fun _ => hS) fun a hf => ?_
      refine tp 29 rfl rfl hf (by kernel_rfl) (fun _ => hS) rfl fun a hf => ?_
      refine tp 30 rfl rfl hf (by kernel_rfl) (fun _ => hS) rfl fun a hf => ?_
      refine tU 31 rfl rfl rfl rfl rfl rfl rfl hf (by kernel_rfl) (fun _ => hS) fun a hf => ?_
      refine tU 32 rfl rfl rfl rfl rfl rfl rfl hf (by kernel_rfl) (fun _ => hS) fun a hf => ?_
      refine tU 33 rfl rfl rfl rfl rfl rfl rfl hf (by kernel_rfl) (fun _ => hS) fun a hf => ?_
      refine tUU 34 rfl rfl rfl rfl rfl rfl hf (by kernel_rfl) (fun _ => hS) fun a hf => ?_
      refine tUU 35 rfl rfl rfl rfl rfl rfl hf (by kernel_rfl) (fun _ => hS) fun a hf => ?_
      refine tUU 36 rfl rfl rfl rfl rfl rfl hf (by kernel_rfl) (fun _ => hS) fun a hf => ?_
      refine tUU 37 rfl rfl rfl rfl rfl rfl hf (by kernel_rfl) (fun _ => hS) fun a hf => ?_
      refine tUU 38 rfl rfl rfl rfl rfl rfl hf (by kernel_rfl) (fun _ => hS) fun a hf => ?_
      refine tUU 39 rfl rfl rfl rfl rfl rfl hf (by kernel_rfl) (fun _ => hS) fun a hf => ?_
      refine tUU 40 rfl rfl rfl rfl rfl rfl hf (by kernel_rfl) (fun _ => hS) fun a hf => ?_
      refine tUU 41 rfl rfl rfl rfl rfl rfl hf (by kernel_rfl) (fun _ => hS) fun a hf => ?_
      refine tUU 42 rfl rfl rfl rfl rfl rfl hf (by kernel_rfl) (fun _ => hS) fun a hf => ?_
      refine tU 43 rfl rfl rfl rfl rfl rfl rfl hf (by kernel_rfl) (fun _ => hS) fun a hf => ?_
      refine tp 44 rfl rfl hf (by kernel_rfl) (fun _ => hS) rfl fun a hf => ?_
      refine dn (by kernel_rfl) ?_
      obtain rfl := Option.some.inj hGc5
      have hf := hf.prune [79, 1, 28, 29, 30] rfl
      have H := H.let [false, true] [] [] [1, 2] rfl rfl rfl rfl
      exact ⟨hf, H⟩
     ·have hf := hf.lit 45 rfl hc6
      refine tpg 11 rfl rfl rfl rfl hf (by kernel_rfl) (fun _ => hS) rfl fun a hf => ?_
      refine tSg 12 [] rfl rfl rfl rfl rfl rfl hf (by kernel_rfl) (by kernel_rfl) hS (fun w H => rq_loadB hf H TF.ls3 0 rfl rfl rfl) fun a hf => ?_
      refine tpg 13 rfl rfl rfl rfl hf (by kernel_rfl) (fun _ => hS) rfl fun a hf => ?_
      refine strT (H.let [true, true] [] [] [] rfl rfl rfl rfl) (fun w H => H.let [true, false] [] [] [] rfl rfl rfl rfl) fun hS => ?_
      refine tSg 14 [] rfl rfl rfl rfl rfl rfl hf (by kernel_rfl) (by kernel_rfl) hS (fun w H => rq_loadB hf H TF.ls22 1 rfl rfl rfl) fun a hf => ?_
      refine tpg 15 rfl rfl rfl rfl hf (by kernel_rfl) (fun _ => hS) rfl fun a hf => ?_
      refine tpg 16 rfl rfl rfl rfl hf (by kernel_rfl) (fun _ => hS) rfl fun a hf => ?_
      refine tp 17 rfl rfl hf (by kernel_rfl) (fun _ => hS) rfl fun a hf => ?_
      refine tp 18 rfl rfl hf (by kernel_rfl) (fun _ => hS) rfl fun a hf => ?_
      refine iteB hGc5 (fun hc7 hGc5 => ?_) fun hc7 hGc5 => ?_
      ·have hf := hf.lit 53 rfl hc7
       refine tU 19 rfl rfl rfl rfl rfl rfl rfl hf (by kernel_rfl) (fun _ => hS) fun a hf => ?_
       refine tU 20 rfl rfl rfl rfl rfl rfl rfl hf (by kernel_rfl) (fun _ => hS) fun a hf => ?_
       refine tU 21 rfl rfl rfl rfl rfl rfl rfl hf (by kernel_rfl) (fun _ => hS) fun a hf => ?_
       refine tU 22 rfl rfl rfl rfl rfl rfl rfl hf (by kernel_rfl) (fun _ => hS) fun a hf => ?_
       refine tp 23 rfl rfl hf (by kernel_rfl) (fun _ => hS) rfl fun a hf => ?_
       refine tp 24 rfl rfl hf (by kernel_rfl) (fun _ => hS) rfl fun a hf => ?_
       refine tU 25 rfl rfl rfl rfl rfl rfl rfl hf (by kernel_rfl) (fun _ => hS) fun a hf => ?_
       refine tU 26 rfl rfl rfl rfl rfl rfl rfl hf (by kernel_rfl) (fun _ => hS) fun a hf => ?_
       refine tU 27 rfl rfl rfl rfl rfl rfl rfl hf (by kernel_rfl) (fun _ => hS) fun a hf => ?_
       refine tU 28 rfl rfl rfl rfl rfl rfl rfl hf (by kernel_rfl) (fun _ => hS) fun a hf => ?_
       refine tp 29 rfl rfl hf (by kernel_rfl) (fun _ => hS) rfl fun a hf => ?_
       refine tp 30 rfl rfl hf (by kernel_rfl) (fun _ => hS) rfl fun a hf => ?_
       refine tU 31 rfl rfl rfl rfl rfl rfl rfl hf (by kernel_rfl) (fun _ => hS) fun a hf => ?_
       refine tU 32 rfl rfl rfl rfl rfl rfl rfl hf (by kernel_rfl) (fun _ => hS) fun a hf => ?_
       refine tU 33 rfl rfl rfl rfl rfl rfl rfl hf (by kernel_rfl) (fun _ => hS) fun a hf => ?_
       refine tUU 34 rfl rfl rfl rfl rfl rfl hf (by kernel_rfl) (fun _ => hS) fun a hf => ?_
       refine tUU 35 rfl rfl rfl rfl rfl rfl hf (by kernel_rfl) (fun _ => hS) fun a hf => ?_
       refine tUU 36 rfl rfl rfl rfl rfl rfl hf (by kernel_rfl) (fun _ => hS) fun a hf => ?_
       refine tUU 37 rfl rfl rfl rfl rfl rfl hf (by kernel_rfl) (fun _ => hS) fun a hf => ?_
       refine tUU 38 rfl rfl rfl rfl rfl rfl hf (by kernel_rfl) (fun _ => hS) fun a hf => ?_
       refine tUU 39 rfl rfl rfl rfl rfl rfl hf (by kernel_rfl) (fun _ => hS) fun a hf => ?_
       refine tUU 40 rfl rfl rfl rfl rfl rfl hf (by kernel_rfl) (fun _ => hS) fun a hf => ?_
       refine tUU 41 rfl rfl rfl rfl rfl rfl hf (by kernel_rfl) (fun _ => hS) fun a hf => ?_
       refine tUU 42 rfl rfl rfl rfl rfl rfl hf (by kernel_rfl) (fun _ => hS) fun a hf => ?_
       refine tU 43 rfl rfl rfl rfl rfl rfl rfl hf (by kernel_rfl) (fun _ => hS) fun a hf => ?_
       refine tp 44 rfl rfl hf (by kernel_rfl) (fun _ => hS) rfl fun a hf => ?_
       refine dn (by kernel_rfl) ?_
       obtain rfl := Option.some.inj hGc5
       have hf := hf.prune [79, 1, 28, 29, 30] rfl
       have H := H.let [false, true] [] [] [1, 2] rfl rfl rfl rfl
       exact ⟨hf, H⟩
      ·have hf := hf.lit 53 rfl hc7
       refine tpg 19 rfl rfl rfl rfl hf (by kernel_rfl) (fun _ => hS) rfl fun a hf => ?_
       refine tSg 20 [] rfl rfl rfl rfl rfl rfl hf (by kernel_rfl) (by kernel_rfl) hS (fun w H => rq_loadB hf H TF.ls3 0 rfl rfl rfl) fun a hf => ?_
       obtain ⟨y3, hy3, hGc5⟩ := bind_some hGc5
       refine n1g 21 (by kernel_rfl) rfl rfl rfl rfl hf (op_call hf TF.cl85 rfl (by decide) (impl_within_ok (S := fun _ => True) mk_int mk_int mk_int hy3) fun v3 w a hp3 hf => ?_)
       obtain ⟨hb3, hp3⟩ := hp3
       obtain rfl := VR_bool hp3
       have H := H.keep hb3
       have hS := H.let [true, true] [] [] [] rfl rfl rfl rfl
       refine ⟨fun _ => hS, ?_⟩
       refine tpg 22 rfl rfl rfl rfl hf (by kernel_rfl) (fun _ => hS) rfl fun a hf => ?_
       refine tp 23 rfl rfl hf (by kernel_rfl) (fun _ => hS) rfl fun a hf => ?_
       refine tp 24 rfl rfl hf (by kernel_rfl) (fun _ => hS) rfl fun a hf => ?_
       refine iteB hGc5 (fun hc8 hGc5 => ?_) fun hc8 hGc5 => ?_
       ·have hf := hf.lit 59 rfl hc8
        refine tU 25 rfl rfl rfl rfl rfl rfl rfl hf (by kernel_rfl) (fun _ => hS) fun a hf => ?_
        refine tU 26 rfl rfl rfl rfl rfl rfl rfl hf (by kernel_rfl) (fun _ => hS) fun a hf => ?_
        refine tU 27 rfl rfl rfl rfl rfl rfl rfl hf (by kernel_rfl) (fun _ => hS) fun a hf => ?_
        refine tU 28 rfl rfl rfl rfl rfl rfl rfl hf (by kernel_rfl) (fun _ => hS) fun a hf => ?_
        refine tp 29 rfl rfl hf (by kernel_rfl) (fun _ => hS) rfl fun a hf => ?_
        refine tp 30 rfl rfl hf (by kernel_rfl) (fun _ => hS) rfl fun a hf => ?_
        refine tU 31 rfl rfl rfl rfl rfl rfl rfl hf (by kernel_rfl) (fun _ => hS) fun a hf => ?_
        refine tU 32 rfl rfl rfl rfl rfl rfl rfl hf (by kernel_rfl) (fun _ => hS) fun a hf => ?_
        refine tU 33 rfl rfl rfl rfl rfl rfl rfl hf (by kernel_rfl) (fun _ => hS) fun a hf => ?_
        refine tUU 34 rfl rfl rfl rfl rfl rfl hf (by kernel_rfl) (fun _ => hS) fun a hf => ?_
        refine tUU 35 rfl rfl rfl rfl rfl rfl hf (by kernel_rfl) (fun _ => hS) fun a hf => ?_
        refine tUU 36 rfl rfl rfl rfl rfl rfl hf (by kernel_rfl) (fun _ => hS) fun a hf => ?_
        refine tUU 37 rfl rfl rfl rfl rfl rfl hf (by kernel_rfl) (fun _ => hS) fun a hf => ?_
        refine tUU 38 rfl rfl rfl rfl rfl rfl hf (by kernel_rfl) (fun _ => hS) fun a hf => ?_
        refine tUU 39 rfl rfl rfl rfl rfl rfl hf (by kernel_rfl) (fun _ => hS) fun a hf => ?_
        refine tUU 40 rfl rfl rfl rfl rfl rfl hf (by kernel_rfl) (fun _ => hS) fun a hf => ?_
        refine tUU 41 rfl rfl rfl rfl rfl rfl hf (by kernel_rfl) (fun _ => hS) fun a hf => ?_
        refine tUU 42 rfl rfl rfl rfl rfl rfl hf (by kernel_rfl) (fun _ => hS) fun a hf => ?_
        refine tU 43 rfl rfl rfl rfl rfl rfl rfl hf (by kernel_rfl) (fun _ => hS) fun a hf => ?_
        refine tp 44 rfl rfl hf (by kernel_rfl) (fun _ => hS) rfl fun a hf => ?_
        refine dn (by kernel_rfl) ?_
        obtain rfl := Option.some.inj hGc5
        have hf := hf.prune [79, 1, 28, 29, 30] rfl
        have H := H.let [false, true] [] [] [1, 2] rfl rfl rfl rfl
        exact ⟨hf, H⟩
       ·have hf := hf.lit 59 rfl hc8
        refine tpg 25 rfl rfl rfl rfl hf (by kernel_rfl) (fun _ => hS) rfl fun a hf => ?_
        refine tSg 26 [] rfl rfl rfl rfl rfl rfl hf (by kernel_rfl) (by kernel_rfl) hS (fun w H => rq_loadB hf H TF.ls3 0 rfl rfl rfl) fun a hf => ?_
        obtain ⟨y4, hy4, hGc5⟩ := bind_some hGc5
        refine n1g 27 (by kernel_rfl) rfl rfl rfl rfl hf (op_call hf TF.cl85 rfl (by decide) (impl_within_ok (S := fun _ => True) mk_int mk_int mk_int hy4) fun v4 w a hp4 hf => ?_)
        obtain ⟨hb4, hp4⟩ := hp4
        obtain rfl := VR_bool hp4
        have H := H.keep hb4
        have hS := H.let [true, true] [] [] [] rfl rfl rfl rfl
        refine ⟨fun _ => hS, ?_⟩
        refine tpg 28 rfl rfl rfl rfl hf (by kernel_rfl) (fun _ => hS) rfl fun a hf => ?_
        refine tp 29 rfl rfl hf (by kernel_rfl) (fun _ => hS) rfl fun a hf => ?_
        refine tp 30 rfl rfl hf (by kernel_rfl) (fun _ => hS) rfl fun a hf => ?_
        refine iteB hGc5 (fun hc9 hGc5 => ?_) fun hc9 hGc5 => ?_
        ·have hf := hf.lit 65 rfl hc9
         refine tU 31 rfl rfl rfl rfl rfl rfl rfl hf (by kernel_rfl) (fun _ => hS) fun a hf => ?_
         refine tU 32 rfl rfl rfl rfl rfl rfl rfl hf (by kernel_rfl) (fun _ => hS) fun a hf => ?_
         refine tU 33 rfl rfl rfl rfl rfl rfl rfl hf (by kernel_rfl) (fun _ => hS) fun a hf => ?_
         refine tUU 34 rfl rfl rfl rfl rfl rfl hf (by kernel_rfl) (fun _ => hS) fun a hf => ?_
         refine tUU 35 rfl rfl rfl rfl rfl rfl hf (by kernel_rfl) (fun _ => hS) fun a hf => ?_
         refine tUU 36 rfl rfl rfl rfl rfl rfl hf (by kernel_rfl) (fun _ => hS) fun a hf => ?_
         refine tUU 37 rfl rfl rfl rfl rfl rfl hf (by kernel_rfl) (fun _ => hS) fun a hf => ?_
         refine tUU 38 rfl rfl rfl rfl rfl rfl hf (by kernel_rfl) (fun _ => hS) fun a hf => ?_
         refine tUU 39 rfl rfl rfl rfl rfl rfl hf (by kernel_rfl) (fun _ => hS) fun a hf => ?_
         refine tUU 40 rfl rfl rfl rfl rfl rfl hf (by kernel_rfl) (fun _ => hS) fun a hf => ?_
         refine tUU 41 rfl rfl rfl rfl rfl rfl hf (by kernel_rfl) (fun _ => hS) fun a hf => ?_
         refine tUU 42 rfl rfl rfl rfl rfl rfl hf (by kernel_rfl) (fun _ => hS) fun a hf => ?_
         refine tU 43 rfl rfl rfl rfl rfl rfl rfl hf (by kernel_rfl) (fun _ => hS) fun a hf => ?_
         refine tp 44 rfl rfl hf (by kernel_rfl) (fun _ => hS) rfl fun a hf => ?_
         refine dn (by kernel_rfl) ?_
         obtain rfl := Option.some.inj hGc5
         have hf := hf.prune [79, 1, 28, 29, 30] rfl
         have H := H.let [false, true] [] [] [1, 2] rfl rfl rfl rfl
         exact ⟨hf, H⟩
        ·have hf := hf.lit 65 rfl hc9
         refine tpg 31 rfl rfl rfl rfl hf (by kernel_rfl) (fun _ => hS) rfl fun a hf => ?_
         refine tpg 32 rfl rfl rfl rfl hf (by kernel_rfl) (fun _ => hS) rfl fun a hf => ?_
         refine tpg 33 rfl rfl rfl rfl hf (by kernel_rfl) (fun _ => hS) rfl fun a hf => ?_
         refine iteB hGc5 (fun hc10 hGc5 => ?_) fun hc10 hGc5 => ?_
         ·have hf := hf.lit 68 rfl hc10
          refine tpg 34 rfl rfl rfl rfl hf (by kernel_rfl) (fun _ => hS) rfl fun a hf => ?_
          refine tSg 35 [] rfl rfl rfl rfl rfl rfl hf (by kernel_rfl) (by kernel_rfl) hS (fun w H => rq_loadB hf H TF.ls32 1 rfl rfl rfl) fun a hf => ?_
          refine tpg 36 rfl rfl rfl rfl hf (by kernel_rfl) (fun _ => hS) rfl fun a hf => ?_
          refine tpg 37 rfl rfl rfl rfl hf (by kernel_rfl) (fun _ => hS) rfl fun a hf => ?_
          obtain ⟨e3, he3, hGc5⟩ := bind_some hGc5
          obtain ⟨p3, o3, cs3, hx, hr3, H⟩ := pre_iaddr H Tryz.underlying32 TF.sz120 1 rfl he3
          refine tPg 38 rfl rfl rfl rfl rfl rfl hf (by kernel_rfl) (fun _ => hS) (fun w => rq_iaddrE hf rfl rfl rfl hx w) fun a hf => ?_
          obtain rfl := Fiber_cells hr3
          refine strT (H.let [true, true] [] [] [0] rfl rfl rfl rfl) (fun w H => H.let [true, true] [] [] [] rfl rfl rfl rfl) fun hS => ?_
          refine tSg 39 [] rfl rfl rfl rfl rfl rfl hf (by kernel_rfl) (by kernel_rfl) hS (fun w H => rq_loadIN hf H TF.la120 0 0 rfl rfl rfl rfl) fun a hf => ?_
          refine tSg 40 [] rfl rfl rfl rfl rfl rfl hf (by kernel_rfl) (by kernel_rfl) hS (fun w H => rq_loadBN hf H TF.la120 0 rfl rfl rfl rfl) fun a hf => ?_
          obtain ⟨y5, hy5, hGc5⟩ := bind_some hGc5
          refine n1g 41 (by kernel_rfl) rfl rfl rfl rfl hf (op_call hf TF.cl194 rfl (by decide) (impl_compareFibers_ok (S := fun _ => True) Fiber_mkv Fiber_mkv hy5) fun v5 w a hp5 hf => ?_)
          obtain ⟨hb5, hp5⟩ := hp5
          obtain rfl := VR_int hp5
          have H := H.keep hb5
          have hS := H.let [true, true] [] [] [0] rfl rfl rfl rfl
          refine ⟨fun _ => hS, ?_⟩
          refine tpg 42 rfl rfl rfl rfl hf (by kernel_rfl) (fun _ => hS) rfl fun a hf => ?_
          refine tpg 43 rfl rfl rfl rfl hf (by kernel_rfl) (fun _ => hS) rfl fun a hf => ?_
          refine tp 44 rfl rfl hf (by kernel_rfl) (fun _ => hS) rfl fun a hf => ?_
          refine dn (by kernel_rfl) ?_
          obtain rfl := Option.some.inj hGc5
          have hf := hf.prune [79, 1, 28, 29, 30] rfl
          have H := H.let [false, true] [] [] [2, 3] rfl rfl rfl rfl
          exact ⟨hf, H⟩
         ·have hf := hf.lit 68 rfl hc10
          refine tU 34 rfl rfl rfl rfl rfl rfl rfl hf (by kernel_rfl) (fun _ => hS) fun a hf => ?_
          refine tU 35 rfl rfl rfl rfl rfl rfl rfl hf (by kernel_rfl) (fun _ => hS) fun a hf => ?_
          refine tU 36 rfl rfl rfl rfl rfl rfl rfl hf (by kernel_rfl) (fun _ => hS) fun a hf => ?_
          refine tU 37 rfl rfl rfl rfl rfl rfl rfl hf (by kernel_rfl) (fun _ => hS) fun a hf => ?_
          refine tU 38 rfl rfl rfl rfl rfl rfl rfl hf (by kernel_rfl) (fun _ => hS) fun a hf => ?_
          refine tU 39 rfl rfl rfl rfl rfl rfl rfl hf (by kernel_rfl) (fun _ => hS) fun a hf => ?_
          refine tU 40 rfl rfl rfl rfl rfl rfl rfl hf (by kernel_rfl) (fun _ => hS) fun a hf => ?_
          refine tU 41 rfl rfl rfl rfl rfl rfl rfl hf (by kernel_rfl) (fun _ => hS) fun a hf => ?_
          refine tU 42 rfl rfl rfl rfl rfl rfl rfl hf (by kernel_rfl) (fun _ => hS) fun a hf => ?_
          refine tpg 43 rfl rfl rfl rfl hf (by kernel_rfl) (fun _ => hS) rfl fun a hf => ?_
          refine tp 44 rfl rfl hf (by kernel_rfl) (fun _ => hS) rfl fun a hf => ?_
          refine dn (by kernel_rfl) ?_
          obtain rfl := Option.some.inj hGc5
          have hf := hf.prune [79, 1, 28, 29, 30] rfl
          have H := H.let [false, true] [] [] [1, 2] rfl rfl rfl rfl
          exact ⟨hf, H⟩
   refine then_n (iteB hR1 (fun hc11 hR1 => cd_t hf rfl hc11 ?_) fun hc11 hR1 => cd_f hf rfl hc11 ?_)
   ·refine sq (reg (pr 1 hf rfl rfl fun a hf => ?_))
    refine wl_end (then_n (wp_ret (blk_r (then_r (then_r (blk_r (then_r (then_r (?_)))))))))
    obtain rfl := Option.some.inj hR1
    replace hF := on_ret hF
    obtain rfl := Option.some.inj hF
    refine ret_1 (fn := Tryz.f134) (r := .tmp 2) hf rfl (rv_tmp hf rfl) ?_
    exact ⟨_, rfl, H.bel, mk_bool⟩
   ·refine wp_skip (blk_n (then_n (reg (pr 2 hf rfl rfl fun a hf => ?_))))
    refine wl_end ?_
    have hf := hf.prune [1, 28, 29, 30] rfl
    have H := H.let [true] [] [] [0, 1] rfl rfl rfl rfl
    exact then_n ⟨w64 (i3 + 1), hR1, hf, H⟩
  ·refine wp_exit (then_x (then_x (blk_e (?_))))
   have hf := hf.prune [1, 28, 29, 30] rfl
   have H := H.let [true] [] [] [0, 1] rfl rfl rfl rfl
   exact ⟨i3, (Option.some.inj hR1).symm, hf, H⟩
 rintro a w ⟨i4, rfl, hf, H⟩
 replace hF := on_next hF
 refine then_n (sq ?_)
 obtain ⟨c6, hGc6, hF⟩ := bind_some hF
 have fh3 := hf.prune [] rfl
 have Hm3 := H.let [false] [] [] [] rfl rfl rfl rfl
 refine midF 2 (.bool c6) fh3 Hm3 ?_ fun a w hf H => ?_
 ·refine reg (pr 1 hf rfl rfl fun a hf => ?_)
  refine wl0 rfl (op_q hf (rq_loadB hf H TF.ls22 0 rfl rfl rfl) rfl (by decide) fun a hf => ?_)
  refine pr 1 hf rfl rfl fun a hf => ?_
  obtain ⟨y6, hy6, hGc6⟩ := bind_some hGc6
  refine wl0 rfl (op_call hf TF.cl85 rfl (by decide) (impl_within_ok (S := fun _ => True) mk_int mk_int mk_int hy6) fun v6 w a hp6 hf => ?_)
  obtain ⟨hb6, hp6⟩ := hp6
  obtain rfl := VR_bool hp6
  have H := H.keep hb6
  refine pr 1 hf rfl rfl fun a hf => ?_
  refine iteB hGc6 (fun hc12 hGc6 => ?_) fun hc12 hGc6 => ?_
  ·have hf := hf.lit 85 rfl hc12
   refine pr 1 hf rfl rfl fun a hf => ?_
   refine wlg hf rfl rfl rfl (op_q hf (rq_loadB hf H TF.ls32 0 rfl rfl rfl) rfl (by decide) fun a hf => ?_)
   refine pr 4 hf rfl rfl fun a hf => ?_
   obtain rfl := Option.some.inj hGc6
   have hf := hf.prune [2] rfl
   have H := H.let [false] [] [] [] rfl rfl rfl rfl
   exact wl_end ⟨hf, H⟩
  ·have hf := hf.lit 85 rfl hc12
   refine pr 6 hf rfl rfl fun a hf => ?_
   obtain rfl := Option.some.inj hGc6
   have hf := hf.prune [2] rfl
   have H := H.let [false] [] [] [] rfl rfl rfl rfl
   exact wl_end ⟨hf, H⟩
 refine then_n (wp_ret (?_))
 obtain rfl := Option.some.inj hF
 refine ret_1 (fn := Tryz.f134) (r := .tmp 2) hf rfl (rv_tmp hf rfl) ?_
 exact ⟨_, rfl, H.bel, mk_bool⟩

/- loop.example/g00897/impl.otherEnd -/
set_option maxHeartbeats 1000000 in
theorem impl_otherEnd_ok {fu : Nat} {w0 : World} {S : Nat → Prop} {v0_ : Value} {v1_ : Value} {f : Fiber} {node : Int} {r : Int} (h0 : VR w0 S v0_ f) (h1 : VR w0 S v1_ node) (hF : impl_otherEnd fu f node = some r) :
    Calls Tryz.prog 202 [v0_, v1_].toArray w0 fun e w' => ∃ v, e = .returned v ∧ (Below w0.heap.size w0 w' ∧ VR w' (St ⟨w0, []⟩ S [] [] [] true) v r) := by
 obtain rfl := Fiber_open h0
 obtain rfl := VR_int h1
 have H := Mem.start ⟨w0, []⟩ S
 refine enter Tryz.func202 rfl rfl (nle rfl) rfl fun a hf => ?_
 rw [impl_otherEnd] at hF
 refine sq (reg (wl0 rfl (op_box hf H rfl rfl (by decide) fun b' a w hf H => ?_)))
 refine pr 1 hf rfl rfl fun a hf => ?_
 refine wl_end (then_n (sq (sq (reg (pr 1 hf rfl rfl fun a hf => ?_)))))
 refine wl_end (then_n (wp_block (sq (reg (pr 1 hf rfl rfl fun a hf => ?_)))))
 refine wl0 rfl (op_q hf (rq_loadB hf H TF.ls3 0 rfl rfl rfl) rfl (by decide) fun a hf => ?_)
 refine pr 2 hf rfl rfl fun a hf => ?_
 refine wl_end (then_n (iteB hF (fun hc hF => cd_t hf rfl hc ?_) fun hc hF => cd_f hf rfl hc ?_))
 ·refine sq (reg (pr 1 hf rfl rfl fun a hf => ?_))
  refine wl0 rfl (op_q hf (rq_loadB hf H TF.ls3 0 rfl rfl rfl) rfl (by decide) fun a hf => ?_)
  refine pr 1 hf rfl rfl fun a hf => ?_
  refine wl_end (then_n (wp_ret (blk_r (then_r (?_)))))
  obtain rfl := Option.some.inj hF
  refine ret_1 (fn := Tryz.f202) (r := .tmp 4) hf rfl (rv_tmp hf rfl) ?_
  exact ⟨_, rfl, H.bel, mk_int⟩
 ·refine sq (reg (pr 1 hf rfl rfl fun a hf => ?_))
  refine wl0 rfl (op_q hf (rq_loadB hf H TF.ls3 0 rfl rfl rfl) rfl (by decide) fun a hf => ?_)
  refine pr 2 hf rfl rfl fun a hf => ?_
  refine wl_end (then_n (iteB hF (fun hc2 hF => cd_t hf rfl hc2 ?_) fun hc2 hF => cd_f hf rfl hc2 ?_))
  ·refine sq (reg (pr 1 hf rfl rfl fun a hf => ?_))
   refine wl0 rfl (op_q hf (rq_loadB hf H TF.ls3 0 rfl rfl rfl) rfl (by decide) fun a hf => ?_)
   refine pr 1 hf rfl rfl fun a hf => ?_
   have hf := hf.prune [4] rfl
   refine wl_end (then_n (wp_ret (blk_r (then_r (?_)))))
   obtain rfl := Option.some.inj hF
   refine ret_1 (fn := Tryz.f202) (r := .tmp 4) hf rfl (rv_tmp hf rfl) ?_
   exact ⟨_, rfl, H.bel, mk_int⟩
  ·refine wp_skip (blk_n (then_n (sq (reg (pr 1 hf rfl rfl fun a hf => ?_)))))
   refine wl_end (then_n (wp_ret (?_)))
   obtain rfl := Option.some.inj hF
   refine ret_1 (fn := Tryz.f202) (r := .tmp 4) hf rfl (rv_tmp hf rfl) ?_
   exact ⟨_, rfl, H.bel, mk_int⟩

/- slices.Index[[]int,int] -/
set_option maxHeartbeats 1000000 in
theorem slices_Index_int_int_ok {fu : Nat} {w0 : World} {S : Nat → Prop} {v0_ : Value} {v1_ : Value} {s' : List Int} {v : Int} {r : Int} (h0 : VR w0 S v0_ s') (h1 : VR w0 S v1_ v) (hF : slices_Index_int_int fu s' v = some r) :
    Calls Tryz.prog 227 [v0_, v1_].toArray w0 fun e w' => ∃ v, e = .returned v ∧ (Below w0.heap.size w0 w' ∧ VR w' (St ⟨w0, []⟩ S [] [] [] true) v r) := by
 obtain ⟨A, c, rfl, hl⟩ := VR_list h0
 obtain rfl := VR_int h1
 have H := Mem.start ⟨w0, []⟩ S
 have H := H.pushArg (MP.val [(.slice A s'.length c)] s') hl
 refine enter Tryz.func227 rfl rfl (nle rfl) rfl fun a hf => ?_
 rw [slices_Index_int_int] at hF
 refine sq (reg (pr 1 hf rfl rfl fun a hf => ?_))
 refine wl_end (then_n (sq (sq (reg (pr 3 hf rfl rfl fun a hf => ?_)))))
 refine wl_end (then_n ?_)
 obtain ⟨out', hB1, hF⟩ := bind_some hF
 have hf := hf.prune [0, 1, 7, 8] rfl
 have H := H.let [] [] [] [0] rfl rfl rfl rfl
 refine loopC (fun (s : Int) (a : Act) (w : World) => match s with | i => Fr a 19 [(0, (.slice A s'.length c)), (1, (.int .i64 v)), (7, (.int .i64 (s'.length : Int))), (8, (.int .i64 i))] ∧ Mem ⟨w0, []⟩ S [] [] [] [(false, MP.val [(.slice A s'.length c)] (s' : List Int))] w) (fun k (s : Int) => slices_Index_int_int_L1 fu s' v k s = some out') (fun s => out' = Out.next s) 0 fu hB1 ⟨hf, H⟩ (fun s h => by cases h) ?_ ?_
 ·rintro fk i a w hR1 hI
  replace hR1 : slices_Index_int_int_L1 fu s' v (fk + 1) i = some out' := hR1
  rw [slices_Index_int_int_L1] at hR1
  obtain ⟨hf, H⟩ := hI
  refine sq (reg (pr 1 hf rfl rfl fun a hf => ?_))
  refine wl_end (then_n (sq (iteB hR1 (fun hc hR1 => cd_t hf rfl hc ?_) fun hc hR1 => cd_f hf rfl hc ?_)))
  ·refine wp_skip (then_n (sq (wp_block (sq (reg (pr 2 hf rfl rfl fun a hf => ?_))))))
   refine wl_end (then_n (sq (reg (pr 3 hf rfl rfl fun a hf => ?_))))
   obtain ⟨e, he, hR1⟩ := bind_some hR1
   refine wl0 rfl (op_iaddr hf H Tryz.underlying44 TF.sz3 0 rfl rfl rfl he (by decide) fun p o cs a hf hr H => ?_)
   obtain rfl := hr
   refine wl0 rfl (op_q hf (rq_loadI hf H TF.ls3 0 0 rfl rfl rfl) rfl (by decide) fun a hf => ?_)
   refine pr 1 hf rfl rfl fun a hf => ?_
   refine wl_end (then_n (iteB hR1 (fun hc2 hR1 => cd_t hf rfl hc2 ?_) fun hc2 hR1 => cd_f hf rfl hc2 ?_))
   ·refine sq (reg (pr 2 hf rfl rfl fun a hf => ?_))
    have hf := hf.prune [4] rfl
    refine wl_end (then_n (wp_ret (blk_r (then_r (then_r (blk_r (then_r (then_r (?_)))))))))
    obtain rfl := Option.some.inj hR1
    replace hF := on_ret hF
    obtain rfl := Option.some.inj hF
    refine ret_1 (fn := Tryz.f227) (r := .tmp 4) hf rfl (rv_tmp hf rfl) ?_
    exact ⟨_, rfl, H.bel, mk_int⟩
   ·refine wp_skip (blk_n (then_n (reg (pr 2 hf rfl rfl fun a hf => ?_))))
    refine wl_end ?_
    have hf := hf.prune [0, 1, 7, 8] rfl
    have H := H.let [] [] [] [1] rfl rfl rfl rfl
    exact then_n ⟨w64 (i + 1), hR1, hf, H⟩
  ·refine wp_exit (then_x (then_x (blk_e (?_))))
   have hf := hf.prune [0, 1, 7, 8] rfl
   have H := H.let [] [] [] [0] rfl rfl rfl rfl
   exact ⟨i, (Option.some.inj hR1).symm, hf, H⟩
 rintro a w ⟨i2, rfl, hf, H⟩
 replace hF := on_next hF
 refine then_n (sq (reg (pr 1 hf rfl rfl fun a hf => ?_)))
 refine wl_end (then_n (wp_ret (?_)))
 obtain rfl := Option.some.inj hF
 refine ret_1 (fn := Tryz.f227) (r := .tmp 4) hf rfl (rv_tmp hf rfl) ?_
 exact ⟨_, rfl, H.bel, mk_int⟩

/- slices.Contains[[]int,int] -/
set_option maxHeartbeats 1000000 in
theorem slices_Contains_int_int_ok {fu : Nat} {w0 : World} {S : Nat → Prop} {v0_ : Value} {v1_ : Value} {s' : List Int} {v : Int} {r : Bool} (h0 : VR w0 S v0_ s') (h1 : VR w0 S v1_ v) (hF : slices_Contains_int_int fu s' v = some r) :
    Calls Tryz.prog 203 [v0_, v1_].toArray w0 fun e w' => ∃ v, e = .returned v ∧ (Below w0.heap.size w0 w' ∧ VR w' (St ⟨w0, []⟩ S [] [] [] true) v r) := by
 obtain ⟨A, c, rfl, hl⟩ := VR_list h0
 obtain rfl := VR_int h1
 have H := Mem.start ⟨w0, []⟩ S
 have H := H.pushArg (MP.val [(.slice A s'.length c)] s') hl
 refine enter Tryz.func203 rfl rfl (nle rfl) rfl fun a hf => ?_
 rw [slices_Contains_int_int] at hF
 refine sq (reg (pr 1 hf rfl rfl fun a hf => ?_))
 refine wl_end (then_n (sq (reg (pr 2 hf rfl rfl fun a hf => ?_))))
 obtain ⟨y, hy, hF⟩ := bind_some hF
 refine wl0 rfl (op_call hf TF.cl227 rfl (by decide) (slices_Index_int_int_ok (S := fun _ => True) (mk_list (rep_true (α := List Int) (H.get 0 rfl))) mk_int hy) fun v2 w a hp hf => ?_)
 obtain ⟨hb, hp⟩ := hp
 obtain rfl := VR_int hp
 have H := H.keep hb
 refine pr 2 hf rfl rfl fun a hf => ?_
 refine wl_end (then_n (wp_ret (?_)))
 obtain rfl := Option.some.inj hF
 refine ret_1 (fn := Tryz.f203) (r := .tmp 4) hf rfl (rv_tmp hf rfl) ?_
 exact ⟨_, rfl, H.bel, mk_bool⟩

/- loop.example/g00897/impl.visited -/
set_option maxHeartbeats 1000000 in
theorem impl_visited_ok {fu : Nat} {w0 : World} {S : Nat → Prop} {v0_ : Value} {v1_ : Value} {n' : Network} {r' : Route} {r : List Int × Bool} (h0 : VR w0 S v0_ n') (h1 : VR w0 S v1_ r') (hF : impl_visited fu n' r' = some r) :
    Calls Tryz.prog 156 [v0_, v1_].toArray w0 fun e w' => ∃ v, e = .returned v ∧ (Below w0.heap.size w0 w' ∧ ∃ F0, ∃ u0 u1, v = .tuple #[u0, u1] ∧ VO w' F0 u0 r.1 ∧ VR w' (St ⟨w0, []⟩ S [] [] [] true) u1 r.2 ∧ New w0 w' F0) := by
 obtain ⟨A, c, A2, c2, rfl, hl, hl2⟩ := Network_open h0
 obtain ⟨A3, c3, rfl, hl3⟩ := Route_open h1
 have H := Mem.start ⟨w0, []⟩ S
 have H := H.pushArg (MP.val [(.slice A n'.Nodes.length c)] n'.Nodes) hl
 have H := H.pushArg (MP.val [(.slice A2 n'.Fibers.length c2)] n'.Fibers) hl2
 have H := H.pushArg (MP.val [(.slice A3 r'.Fibers.length c3)] r'.Fibers) hl3
 refine enter Tryz.func156 rfl rfl (nle rfl) rfl fun a hf => ?_
 rw [impl_visited] at hF
 refine sq (reg (wl0 rfl (op_box hf H rfl rfl (by decide) fun b' a w hf H => ?_)))
 refine wl0 rfl (op_box hf H rfl rfl (by decide) fun b2 a w hf H => ?_)
 refine pr 2 hf rfl rfl fun a hf => ?_
 refine wl_end (then_n (sq (sq ?_)))
 obtain ⟨c4, hGc4, hF⟩ := bind_some hF
 have fh := hf.prune [2, 3] rfl
 have Hm := H.let [true, true] [] [] [0, 1, 2] rfl rfl rfl rfl
 refine midF 23 (.bool c4) fh Hm ?_ fun a w hf H => ?_
 ·refine reg (pr 1 hf rfl rfl fun a hf => ?_)
  refine wl0 rfl (op_q hf (rq_loadB hf H TF.ls3 0 rfl rfl rfl) rfl (by decide) fun a hf => ?_)
  refine pr 1 hf rfl rfl fun a hf => ?_
  refine wl0 rfl (op_q hf (rq_loadB hf H TF.ls22 1 rfl rfl rfl) rfl (by decide) fun a hf => ?_)
  refine pr 2 hf rfl rfl fun a hf => ?_
  obtain ⟨y, hy, hGc4⟩ := bind_some hGc4
  refine wl0 rfl (op_call hf TF.cl85 rfl (by decide) (impl_within_ok (S := fun _ => True) mk_int mk_int mk_int hy) fun v w a hp hf => ?_)
  obtain ⟨hb, hp⟩ := hp
  obtain rfl := VR_bool hp
  have H := H.keep hb
  refine pr 2 hf rfl rfl fun a hf => ?_
  refine iteB hGc4 (fun hc hGc4 => ?_) fun hc hGc4 => ?_
  ·have hf := hf.lit 18 rfl hc
   refine pr 5 hf rfl rfl fun a hf => ?_
   obtain rfl := Option.some.inj hGc4
   have hf := hf.prune [23, 2, 3] rfl
   have H := H.let [true, true] [] [] [0, 1, 2] rfl rfl rfl rfl
   exact wl_end ⟨hf, H⟩
  ·have hf := hf.lit 18 rfl hc
   refine pr 1 hf rfl rfl fun a hf => ?_
   refine wlg hf rfl rfl rfl (op_q hf (rq_loadB hf H TF.ls44 0 rfl rfl rfl) rfl (by decide) fun a hf => ?_)
   refine pr 3 hf rfl rfl fun a hf => ?_
   obtain rfl := Option.some.inj hGc4
   have hf := hf.prune [23, 2, 3] rfl
   have H := H.let [true, true] [] [] [0, 1, 2] rfl rfl rfl rfl
   exact wl_end ⟨hf, H⟩
 refine then_n (iteB hF (fun hc2 hF => cd_t hf rfl hc2 ?_) fun hc2 hF => cd_f hf rfl hc2 ?_)
 ·refine sq (reg (pr 2 hf rfl rfl fun a hf => ?_))
  refine wl_end (then_n (wp_ret (then_r (?_))))
  have H := H.ownNil (Int)
  have H := H.lend 0 rfl
  obtain rfl := Option.some.inj hF
  refine ret_2 (fn := Tryz.f156) (r := .tmp 4) (s := .tmp 5) hf rfl (rv_tmp hf rfl) (rv_tmp hf rfl) ?_
  have hN := H.ends (X := [(⟨[], MP.own [] [(.slice none 0 0)] ([] : List Int)⟩ : DI)])
  simp only [List.flatMap_cons, List.flatMap_nil, List.append_nil, List.append_assoc] at hN
  exact ⟨_, rfl, H.bel, [], _, _, rfl, (mko_list (H.ownAt 0 rfl)), mk_bool, by first | exact hN | simpa using hN⟩
 ·refine wp_skip (then_n (sq (drawn [] (bs := [false, false, false, false, false, false, false]) (fuel := 7) (Checked.mixed Tryz.checked) rfl rfl fun w hb => ?_)))
  have H := H.keep hb
  refine tp 0 rfl rfl hf (by kernel_rfl) (fun _ => trivial) rfl fun a hf => ?_
  refine strT (H.let [true, false] [] [] [] rfl rfl rfl rfl) (fun w H => trivial) fun hS => ?_
  refine tS 1 [] rfl rfl rfl rfl hf (by kernel_rfl) (by kernel_rfl) hS (fun w H => rq_loadB hf H TF.ls3 0 rfl rfl rfl) fun a hf => ?_
  refine tp 3 rfl rfl hf (by kernel_rfl) (fun _ => hS) rfl fun a hf => ?_
  refine tS 4 [] rfl rfl rfl rfl hf (by kernel_rfl) (by kernel_rfl) hS (fun w H => rq_loadB hf H TF.ls3 0 rfl rfl rfl) fun a hf => ?_
  refine n1 2 (by kernel_rfl) rfl rfl (op_bslice hf H (.sh true) rfl 3 ([r'.Start] : List Int) [(.int .i64 r'.Start)] rfl (fun w => by kernel_rfl) rfl (by decide) rfl trivial (el1 (y := r'.Start) (rfl)) (by decide) fun A4 a w hf H => ?_)
  have hS := H.let [true, false] [false] [] [] rfl rfl rfl rfl
  refine ⟨fun _ => hS, ?_⟩
  refine tp 5 rfl rfl hf (by kernel_rfl) (fun _ => hS) rfl fun a hf => ?_
  refine tp 6 rfl rfl hf (by kernel_rfl) (fun _ => hS) rfl fun a hf => ?_
  refine dn (by kernel_rfl) ?_
  refine then_n (sq (sq (reg (pr 1 hf rfl rfl fun a hf => ?_))))
  refine wl0 rfl (op_q hf (rq_loadB hf H TF.ls44 0 rfl rfl rfl) rfl (by decide) fun a hf => ?_)
  refine pr 2 hf rfl rfl fun a hf => ?_
  refine wl_end (then_n ?_)
  obtain ⟨out2, hB1, hF⟩ := bind_some hF
  have hf := hf.prune [2, 6, 7, 30, 31, 32] rfl
  have H := H.let [false, true] [true] [] [0, 1, 2] rfl rfl rfl rfl
  refine loopC (fun (s : List Int × Int × Int) (a : Act) (w : World) => match s with | (out', at', i) => ∃ (A5 : Option Addr) (c5 : Nat) (E : Go.TypeId), Fr a 63 [(2, (.pointer (some ⟨b', 0, none⟩))), (6, (.slice A5 out'.length c5)), (7, (.int .i64 at')), (30, (.slice A3 r'.Fibers.length c3)), (31, (.int .i64 (r'.Fibers.length : Int))), (32, (.int .i64 i))] ∧ Mem ⟨w0, []⟩ S [⟨b', 34, [(.slice A n'.Nodes.length c), (.slice A2 n'.Fibers.length c2)]⟩] [⟨.sh true, E, A5, c5, (out' : List Int)⟩] [] [(false, MP.val [(.slice A3 r'.Fibers.length c3)] (r'.Fibers : List Int)), (false, MP.val [(.slice A2 n'.Fibers.length c2)] (n'.Fibers : List Fiber)), (false, MP.val [(.slice A n'.Nodes.length c)] (n'.Nodes : List ByteArray))] w) (fun k (s : List Int × Int × Int) => impl_visited_L1 fu n' r' k s.1 s.2.1 s.2.2 = some out2) (fun s => out2 = Out.next s) ([r'.Start], r'.Start, 0) fu hB1 ⟨A4, 1, 3, hf, H⟩ (fun s h => by cases h) ?_ ?_
  ·rintro fk ⟨out', at', i⟩ a w hR1 hI
   replace hR1 : impl_visited_L1 fu n' r' (fk + 1) out' at' i = some out2 := hR1
   rw [impl_visited_L1] at hR1
   obtain ⟨A5, c5, E, hf, H⟩ := hI
   refine sq (reg (pr 1 hf rfl rfl fun a hf => ?_))
   refine wl_end (then_n (sq (iteB hR1 (fun hc3 hR1 => cd_t hf rfl hc3 ?_) fun hc3 hR1 => cd_f hf rfl hc3 ?_)))
   ·refine wp_skip (then_n (sq (wp_block (sq (reg ?_)))))
    obtain ⟨e, he, hR1⟩ := bind_some hR1
    refine wl0 rfl (op_iaddr hf H Tryz.underlying44 TF.sz3 0 rfl rfl rfl he (by decide) fun p o cs a hf hr H => ?_)
    obtain rfl := hr
    refine wl0 rfl (op_q hf (rq_loadI hf H TF.ls3 0 0 rfl rfl rfl) rfl (by decide) fun a hf => ?_)
    refine pr 1 hf rfl rfl fun a hf => ?_
    refine wl_end (then_n (sq (sq (reg (pr 2 hf rfl rfl fun a hf => ?_)))))
    refine wl0 rfl (op_q hf (rq_loadB hf H TF.ls32 0 rfl rfl rfl) rfl (by decide) fun a hf => ?_)
    refine pr 2 hf rfl rfl fun a hf => ?_
    obtain ⟨y2, hy2, hR1⟩ := bind_some hR1
    refine wl0 rfl (op_call hf TF.cl85 rfl (by decide) (impl_within_ok (S := fun _ => True) mk_int mk_int mk_int hy2) fun v2 w a hp2 hf => ?_)
    obtain ⟨hb2, hp2⟩ := hp2
    obtain rfl := VR_bool hp2
    have H := H.keep hb2
    refine pr 1 hf rfl rfl fun a hf => ?_
    refine wl_end (then_n (iteB hR1 (fun hc4 hR1 => cd_t hf rfl hc4 ?_) fun hc4 hR1 => cd_f hf rfl hc4 ?_))
    ·refine sq (reg (pr 2 hf rfl rfl fun a hf => ?_))
     have hf := hf.prune [4, 5] rfl
     refine wl_end (then_n (wp_ret (then_r (blk_r (then_r (then_r (blk_r (then_r (then_r (?_))))))))))
     have H := H.ownNil (Int)
     have H := H.lend 0 rfl
     obtain rfl := Option.some.inj hR1
     replace hF := on_ret hF
     obtain rfl := Option.some.inj hF
     refine ret_2 (fn := Tryz.f156) (r := .tmp 4) (s := .tmp 5) hf rfl (rv_tmp hf rfl) (rv_tmp hf rfl) ?_
     have hN := H.ends (X := [(⟨[], MP.own [] [(.slice none 0 0)] ([] : List Int)⟩ : DI)])
     simp only [List.flatMap_cons, List.flatMap_nil, List.append_nil, List.append_assoc] at hN
     exact ⟨_, rfl, H.bel, [], _, _, rfl, (mko_list (H.ownAt 0 rfl)), mk_bool, by first | exact hN | simpa using hN⟩
    ·refine wp_skip (then_n (sq (reg (pr 1 hf rfl rfl fun a hf => ?_))))
     refine wl0 rfl (op_q hf (rq_loadB hf H TF.ls32 0 rfl rfl rfl) rfl (by decide) fun a hf => ?_)
     refine pr 1 hf rfl rfl fun a hf => ?_
     obtain ⟨e2, he2, hR1⟩ := bind_some hR1
     refine wl0 rfl (op_iaddr hf H Tryz.underlying32 TF.sz120 2 rfl rfl rfl he2 (by decide) fun p2 o2 cs2 a hf hr2 H => ?_)
     obtain rfl := Fiber_cells hr2
     refine wl0 rfl (op_q hf (rq_loadIN hf H TF.la120 0 0 rfl rfl rfl rfl) rfl (by decide) fun a hf => ?_)
     refine pr 1 hf rfl rfl fun a hf => ?_
     obtain ⟨y3, hy3, hR1⟩ := bind_some hR1
     refine wl0 rfl (op_call hf TF.cl202 rfl (by decide) (impl_otherEnd_ok (S := fun _ => True) Fiber_mkv mk_int hy3) fun v3 w a hp3 hf => ?_)
     obtain ⟨hb3, hp3⟩ := hp3
     obtain rfl := VR_int hp3
     have H := H.keep hb3
     refine pr 1 hf rfl rfl fun a hf => ?_
     have hf := hf.prune [2, 6, 7, 30, 31, 32] rfl
     refine wl_end (then_n (sq (sq ?_)))
     obtain ⟨c6, hGc6, hR1⟩ := bind_some hR1
     have fh2 := hf.prune [2, 6, 7, 30, 31, 32] rfl
     have Hm2 := H.let [true] [true] [] [2, 3, 4] rfl rfl rfl rfl
     refine midF 56 (.bool c6) fh2 Hm2 ?_ fun a w hf H => ?_
     ·refine reg (pr 3 hf rfl rfl fun a hf => ?_)
      refine iteB hGc6 (fun hc5 hGc6 => ?_) fun hc5 hGc6 => ?_
      ·have hf := hf.lit 52 rfl hc5
       refine pr 4 hf rfl rfl fun a hf => ?_
       obtain rfl := Option.some.inj hGc6
       have hf := hf.prune [56, 2, 6, 7, 30, 31, 32] rfl
       have H := H.let [true] [true] [] [2, 3, 4] rfl rfl rfl rfl
       exact wl_end ⟨hf, H⟩
      ·have hf := hf.lit 52 rfl hc5
       refine pr 2 hf rfl rfl fun a hf => ?_
       obtain ⟨y4, hy4, hGc6⟩ := bind_some hGc6
       refine wlg hf rfl rfl rfl (op_call hf TF.cl203 rfl (by decide) (slices_Contains_int_int_ok (S := fun _ => True) (mk_list (H.rowTrue 0 rfl)) mk_int hy4) fun v4 w a hp4 hf => ?_)
       obtain ⟨hb4, hp4⟩ := hp4
       obtain rfl := VR_bool hp4
       have H := H.keep hb4
       refine pr 1 hf rfl rfl fun a hf => ?_
       obtain rfl := Option.some.inj hGc6
       have hf := hf.prune [56, 2, 6, 7, 30, 31, 32] rfl
       have H := H.let [true] [true] [] [2, 3, 4] rfl rfl rfl rfl
       exact wl_end ⟨hf, H⟩
     refine then_n (iteB hR1 (fun hc6 hR1 => cd_t hf rfl hc6 ?_) fun hc6 hR1 => cd_f hf rfl hc6 ?_)
     ·refine sq (reg (pr 2 hf rfl rfl fun a hf => ?_))
      refine wl_end (then_n (wp_ret (then_r (blk_r (then_r (then_r (blk_r (then_r (then_r (?_))))))))))
      have H := H.ownNil (Int)
      have H := H.lend 0 rfl
      obtain rfl := Option.some.inj hR1
      replace hF := on_ret hF
      obtain rfl := Option.some.inj hF
      refine ret_2 (fn := Tryz.f156) (r := .tmp 4) (s := .tmp 5) hf rfl (rv_tmp hf rfl) (rv_tmp hf rfl) ?_
      have hN := H.ends (X := [(⟨[], MP.own [] [(.slice none 0 0)] ([] : List Int)⟩ : DI)])
      simp only [List.flatMap_cons, List.flatMap_nil, List.append_nil, List.append_assoc] at hN
      exact ⟨_, rfl, H.bel, [], _, _, rfl, (mko_list (H.ownAt 0 rfl)), mk_bool, by first | exact hN | simpa using hN⟩
     ·refine wp_skip (then_n (reg (pr 2 hf rfl rfl fun a hf => ?_)))
      refine wl0 rfl (op_bslice hf H (.sh true) rfl 3 ([y3] : List Int) [(.int .i64 y3)] rfl (fun w => by kernel_rfl) rfl (by decide) rfl trivial (el1 (y := y3) (rfl)) (by decide) fun A6 a w hf H => ?_)
      obtain ⟨l, hl, hR1⟩ := bind_some hR1
      refine wl0 rfl (op_appR hf H Tryz.underlying44 TF.ai3 rfl (by decide) 1 0 rfl rfl rfl rfl (.inr rfl) hl (by decide) fun E2 A7 c7 a w hf H => ?_)
      refine pr 1 hf rfl rfl fun a hf => ?_
      refine wl_end (blk_n (then_n (reg (pr 2 hf rfl rfl fun a hf => ?_))))
      refine wl_end ?_
      have hf := hf.prune [2, 6, 7, 30, 31, 32] rfl
      have H := H.let [true] [false, true] [] [0, 1, 2] rfl rfl rfl rfl
      exact then_n ⟨(l, y3, w64 (i + 1)), hR1, A7, c7, E2, hf, H⟩
   ·refine wp_exit (then_x (then_x (blk_e (?_))))
    have hf := hf.prune [2, 6, 7, 30, 31, 32] rfl
    have H := H.let [true] [true] [] [0, 1, 2] rfl rfl rfl rfl
    exact ⟨(out', at', i), (Option.some.inj hR1).symm, A5, c5, E, hf, H⟩
  rintro a w ⟨⟨out3, at2, i2⟩, rfl, A8, c8, E3, hf, H⟩
  replace hF := on_next hF
  try dsimp only at hF
  refine then_n (sq (reg (pr 3 hf rfl rfl fun a hf => ?_)))
  refine wl_end (then_n (wp_ret (?_)))
  have H := H.rowOwn 0 rfl rfl
  obtain ⟨F, H⟩ := H.freezeOwn 0 rfl
  have H := H.lend 0 rfl
  obtain rfl := Option.some.inj hF
  refine ret_2 (fn := Tryz.f156) (r := .tmp 4) (s := .tmp 5) hf rfl (rv_tmp hf rfl) (rv_tmp hf rfl) ?_
  have hN := H.ends (X := [(⟨F, MP.own F [(.slice A8 out3.length c8)] (out3 : List Int)⟩ : DI)])
  simp only [List.flatMap_cons, List.flatMap_nil, List.append_nil, List.append_assoc] at hN
  exact ⟨_, rfl, H.bel, F, _, _, rfl, (mko_list (H.ownAt 0 rfl)), mk_bool, by first | exact hN | simpa using hN⟩

/- loop.example/g00897/impl.IsValidBlock -/
set_option maxHeartbeats 1000000 in
theorem impl_IsValidBlock_ok {fu : Nat} {w0 : World} {S : Nat → Prop} {v0_ : Value} {b' : Block} {r : Bool} (h0 : VR w0 S v0_ b') (hF : impl_IsValidBlock fu b' = some r) :
    Calls Tryz.prog 195 [v0_].toArray w0 fun e w' => ∃ v, e = .returned v ∧ (Below w0.heap.size w0 w' ∧ VR w' (St ⟨w0, []⟩ S [] [] [] true) v r) := by
 obtain rfl := Block_open h0
 have H := Mem.start ⟨w0, []⟩ S
 refine enter Tryz.func195 rfl rfl (nle rfl) rfl fun a hf => ?_
 rw [impl_IsValidBlock] at hF
 refine sq (reg (wl0 rfl (op_box hf H rfl rfl (by decide) fun b2 a w hf H => ?_)))
 refine pr 1 hf rfl rfl fun a hf => ?_
 refine wl_end (then_n (sq ?_))
 obtain ⟨c, hGc, hF⟩ := bind_some hF
 have fh := hf.prune [] rfl
 have Hm := H.let [false] [] [] [] rfl rfl rfl rfl
 refine midF 2 (.bool c) fh Hm ?_ fun a w hf H => ?_
 ·refine reg (pr 1 hf rfl rfl fun a hf => ?_)
  refine wl0 rfl (op_q hf (rq_loadB hf H TF.ls3 0 rfl rfl rfl) rfl (by decide) fun a hf => ?_)
  refine pr 2 hf rfl rfl fun a hf => ?_
  refine iteB hGc (fun hc hGc => ?_) fun hc hGc => ?_
  ·have hf := hf.lit 6 rfl hc
   refine pr 1 hf rfl rfl fun a hf => ?_
   refine wlg hf rfl rfl rfl (op_q hf (rq_loadB hf H TF.ls3 0 rfl rfl rfl) rfl (by decide) fun a hf => ?_)
   obtain ⟨y, hy, hGc⟩ := bind_some hGc
   refine wlg hf rfl rfl rfl (op_call hf TF.cl85 rfl (by decide) (impl_within_ok (S := fun _ => True) mk_int mk_int mk_int hy) fun v w a hp hf => ?_)
   obtain ⟨hb, hp⟩ := hp
   obtain rfl := VR_bool hp
   have H := H.keep hb
   refine pr 2 hf rfl rfl fun a hf => ?_
   refine iteB hGc (fun hc2 hGc => ?_) fun hc2 hGc => ?_
   ·have hf := hf.lit 11 rfl hc2
    refine pr 1 hf rfl rfl fun a hf => ?_
    refine wlg hf rfl rfl rfl (op_q hf (rq_loadB hf H TF.ls3 0 rfl rfl rfl) rfl (by decide) fun a hf => ?_)
    refine pr 1 hf rfl rfl fun a hf => ?_
    refine wlg hf rfl rfl rfl (op_q hf (rq_loadB hf H TF.ls3 0 rfl rfl rfl) rfl (by decide) fun a hf => ?_)
    refine pr 4 hf rfl rfl fun a hf => ?_
    obtain rfl := Option.some.inj hGc
    have hf := hf.prune [2] rfl
    have H := H.let [false] [] [] [] rfl rfl rfl rfl
    exact wl_end ⟨hf, H⟩
   ·have hf := hf.lit 11 rfl hc2
    refine pr 8 hf rfl rfl fun a hf => ?_
    obtain rfl := Option.some.inj hGc
    have hf := hf.prune [2] rfl
    have H := H.let [false] [] [] [] rfl rfl rfl rfl
    exact wl_end ⟨hf, H⟩
  ·have hf := hf.lit 6 rfl hc
   refine pr 13 hf rfl rfl fun a hf => ?_
   obtain rfl := Option.some.inj hGc
   have hf := hf.prune [2] rfl
   have H := H.let [false] [] [] [] rfl rfl rfl rfl
   exact wl_end ⟨hf, H⟩
 refine then_n (wp_ret (?_))
 obtain rfl := Option.some.inj hF
 refine ret_1 (fn := Tryz.f195) (r := .tmp 2) hf rfl (rv_tmp hf rfl) ?_
 exact ⟨_, rfl, H.bel, mk_bool⟩

/- loop.example/g00897/impl.isLight -/
set_option maxHeartbeats 1000000 in
theorem impl_isLight_ok {fu : Nat} {w0 : World} {S : Nat → Prop} {v0_ : Value} {v1_ : Value} {n' : Network} {x1 : Light} {r : Bool} (h0 : VR w0 S v0_ n') (h1 : VR w0 S v1_ x1) (hF : impl_isLight fu n' x1 = some r) :
    Calls Tryz.prog 135 [v0_, v1_].toArray w0 fun e w' => ∃ v, e = .returned v ∧ (Below w0.heap.size w0 w' ∧ VR w' (St ⟨w0, []⟩ S [] [] [] true) v r) := by
 obtain ⟨A, c, A2, c2, rfl, hl, hl2⟩ := Network_open h0
 obtain ⟨A3, c3, rfl, hl3⟩ := Light_open h1
 have H := Mem.start ⟨w0, []⟩ S
 have H := H.pushArg (MP.val [(.slice A n'.Nodes.length c)] n'.Nodes) hl
 have H := H.pushArg (MP.val [(.slice A2 n'.Fibers.length c2)] n'.Fibers) hl2
 have H := H.pushArg (MP.val [(.slice A3 x1.Route.Fibers.length c3)] x1.Route.Fibers) hl3
 refine enter Tryz.func135 rfl rfl (nle rfl) rfl fun a hf => ?_
 rw [impl_isLight] at hF
 refine sq (reg (wl0 rfl (op_box hf H rfl rfl (by decide) fun b' a w hf H => ?_)))
 refine wl0 rfl (op_box hf H rfl rfl (by decide) fun b2 a w hf H => ?_)
 refine pr 1 hf rfl rfl fun a hf => ?_
 refine wl_end (then_n (sq (reg (wl0 rfl (op_q hf (rq_loadBN hf H TF.la34 1 rfl rfl rfl rfl) rfl (by decide) fun a hf => ?_)))))
 refine pr 1 hf rfl rfl fun a hf => ?_
 refine wl0 rfl (op_q hf (rq_loadBN hf H TF.la108 0 rfl rfl rfl rfl) rfl (by decide) fun a hf => ?_)
 obtain ⟨y, hy, hF⟩ := bind_some hF
 refine wl0 rfl (op_call hf TF.cl156 rfl (by decide) (impl_visited_ok (S := fun _ => True) (Network_mkv (x := n') (rep_true (α := List ByteArray) (H.get 2 rfl)) (rep_true (α := List Fiber) (H.get 1 rfl))) (Route_mkv (x := x1.Route) (rep_true (α := List Int) (H.get 0 rfl))) hy) fun v w a hp hf => ?_)
 obtain ⟨hb, F, v2, v3, rfl, hp2, hp3, hN⟩ := hp
 obtain ⟨A4, c4, rfl, hl4⟩ := VO_list hp2
 obtain rfl := VR_bool hp3
 have H := H.addOwn hb (X := [(⟨F, MP.own F [(.slice A4 y.1.length c4)] (y.1 : List Int)⟩ : DI)]) (by simpa using hN.1) (ps1 hl4 ps0) (by simpa using hN.2)
 have H := H.lend 0 rfl
 refine pr 5 hf rfl rfl fun a hf => ?_
 refine wl_end (then_n (sq ?_))
 obtain ⟨c5, hGc5, hF⟩ := bind_some hF
 have fh := hf.prune [] rfl
 have Hm := H.let [false, false] [] [false] [] rfl rfl rfl rfl
 refine midF 4 (.bool c5) fh Hm ?_ fun a w hf H => ?_
 ·refine reg (pr 2 hf rfl rfl fun a hf => ?_)
  refine iteB hGc5 (fun hc hGc5 => ?_) fun hc hGc5 => ?_
  ·have hf := hf.lit 15 rfl hc
   refine pr 1 hf rfl rfl fun a hf => ?_
   refine wlg hf rfl rfl rfl (op_q hf (rq_loadB hf H TF.ls3 0 rfl rfl rfl) rfl (by decide) fun a hf => ?_)
   obtain ⟨y2, hy2, hGc5⟩ := bind_some hGc5
   refine wlg hf rfl rfl rfl (op_call hf TF.cl85 rfl (by decide) (impl_within_ok (S := fun _ => True) mk_int mk_int mk_int hy2) fun v4 w a hp4 hf => ?_)
   obtain ⟨hb2, hp4⟩ := hp4
   obtain rfl := VR_bool hp4
   have H := H.keep hb2
   refine pr 2 hf rfl rfl fun a hf => ?_
   refine iteB hGc5 (fun hc2 hGc5 => ?_) fun hc2 hGc5 => ?_
   ·have hf := hf.lit 20 rfl hc2
    refine pr 1 hf rfl rfl fun a hf => ?_
    refine wlg hf rfl rfl rfl (op_q hf (rq_loadBN hf H TF.la110 0 rfl rfl rfl rfl) rfl (by decide) fun a hf => ?_)
    obtain ⟨y3, hy3, hGc5⟩ := bind_some hGc5
    refine wlg hf rfl rfl rfl (op_call hf TF.cl195 rfl (by decide) (impl_IsValidBlock_ok (S := fun _ => True) Block_mkv hy3) fun v5 w a hp5 hf => ?_)
    obtain ⟨hb3, hp5⟩ := hp5
    obtain rfl := VR_bool hp5
    have H := H.keep hb3
    refine pr 2 hf rfl rfl fun a hf => ?_
    obtain rfl := Option.some.inj hGc5
    have hf := hf.prune [4] rfl
    have H := H.let [false, false] [] [false] [] rfl rfl rfl rfl
    exact wl_end ⟨hf, H⟩
   ·have hf := hf.lit 20 rfl hc2
    refine pr 5 hf rfl rfl fun a hf => ?_
    obtain rfl := Option.some.inj hGc5
    have hf := hf.prune [4] rfl
    have H := H.let [false, false] [] [false] [] rfl rfl rfl rfl
    exact wl_end ⟨hf, H⟩
  ·have hf := hf.lit 15 rfl hc
   refine pr 10 hf rfl rfl fun a hf => ?_
   obtain rfl := Option.some.inj hGc5
   have hf := hf.prune [4] rfl
   have H := H.let [false, false] [] [false] [] rfl rfl rfl rfl
   exact wl_end ⟨hf, H⟩
 refine then_n (wp_ret (?_))
 obtain rfl := Option.some.inj hF
 refine ret_1 (fn := Tryz.f135) (r := .tmp 4) hf rfl (rv_tmp hf rfl) ?_
 exact ⟨_, rfl, H.bel, mk_bool⟩

/- loop.example/g00897/impl.maskOf -/
set_option maxHeartbeats 1000000 in
theorem impl_maskOf_ok {fu : Nat} {w0 : World} {S : Nat → Prop} {v0_ : Value} {b' : Block} {r : Int} (h0 : VR w0 S v0_ b') (hF : impl_maskOf fu b' = some r) :
    Calls Tryz.prog 128 [v0_].toArray w0 fun e w' => ∃ v, e = .returned v ∧ (Below w0.heap.size w0 w' ∧ VR w' (St ⟨w0, []⟩ S [] [] [] true) v r) := by
 obtain rfl := Block_open h0
 have H := Mem.start ⟨w0, []⟩ S
 refine enter Tryz.func128 rfl rfl (nle rfl) rfl fun a hf => ?_
 rw [impl_maskOf] at hF
 refine sq (reg (wl0 rfl (op_box hf H rfl rfl (by decide) fun b2 a w hf H => ?_)))
 refine pr 1 hf rfl rfl fun a hf => ?_
 refine wl_end (then_n (sq (drawn [] (bs := [false, false, false, false, false, false, false, false]) (fuel := 8) (Checked.mixed Tryz.checked) rfl rfl fun w hb => ?_)))
 have H := H.keep hb
 refine tp 0 rfl rfl hf (by kernel_rfl) (fun _ => trivial) rfl fun a hf => ?_
 refine strT H (fun w H => trivial) fun hS => ?_
 refine tS 1 [] rfl rfl rfl rfl hf (by kernel_rfl) (by kernel_rfl) hS (fun w H => rq_loadB hf H TF.ls3 0 rfl rfl rfl) fun a hf => ?_
 obtain ⟨q, hq, hF⟩ := bind_some hF
 refine tP 2 rfl rfl rfl rfl hf (by kernel_rfl) (fun _ => hS) (fun w => rq_shl hf rfl rfl hq) fun a hf => ?_
 refine tp 3 rfl rfl hf (by kernel_rfl) (fun _ => hS) rfl fun a hf => ?_
 refine tp 4 rfl rfl hf (by kernel_rfl) (fun _ => hS) rfl fun a hf => ?_
 refine tS 5 [] rfl rfl rfl rfl hf (by kernel_rfl) (by kernel_rfl) hS (fun w H => rq_loadB hf H TF.ls3 0 rfl rfl rfl) fun a hf => ?_
 obtain ⟨q2, hq2, hF⟩ := bind_some hF
 refine tP 6 rfl rfl rfl rfl hf (by kernel_rfl) (fun _ => hS) (fun w => rq_shl hf rfl rfl hq2) fun a hf => ?_
 refine tp 7 rfl rfl hf (by kernel_rfl) (fun _ => hS) rfl fun a hf => ?_
 refine dn (by kernel_rfl) ?_
 refine then_n (wp_ret (?_))
 obtain rfl := Option.some.inj hF
 refine ret_1 (fn := Tryz.f128) (r := .tmp 2) hf rfl (rv_tmp hf rfl) ?_
 exact ⟨_, rfl, H.bel, mk_int⟩

/- math/bits.Len64 -/
set_option maxHeartbeats 1000000 in
theorem math_bits_Len64_ok {fu : Nat} {w0 : World} {S : Nat → Prop} {v0_ : Value} {x1 : U64} {r : Int} (h0 : VR w0 S v0_ x1) (hF : math_bits_Len64 fu x1 = some r) :
    Calls Tryz.prog 249 [v0_].toArray w0 fun e w' => ∃ v, e = .returned v ∧ (Below w0.heap.size w0 w' ∧ VR w' (St ⟨w0, []⟩ S [] [] [] true) v r) := by
 obtain rfl := VR_u64 h0
 have H := Mem.start ⟨w0, []⟩ S
 refine enter Tryz.func249 rfl rfl (nle rfl) rfl fun a hf => ?_
 rw [math_bits_Len64] at hF
 refine sq (reg (pr 1 hf rfl rfl fun a hf => ?_))
 refine wl_end (then_n (sq (sq (reg (pr 1 hf rfl rfl fun a hf => ?_)))))
 refine wl0 rfl (op_q hf (rq_geK hf rfl rfl) rfl (by decide) fun a hf => ?_)
 refine wl_end (then_n (iteB hF (fun hc hF => cd_t hf rfl hc ?_) fun hc hF => cd_f hf rfl hc ?_))
 ·cases hF
 ·refine wp_skip (then_n (sq (sq (reg (pr 1 hf rfl rfl fun a hf => ?_)))))
  refine wl0 rfl (op_q hf (rq_geK hf rfl rfl) rfl (by decide) fun a hf => ?_)
  refine wl_end (then_n (iteB hF (fun hc2 hF => cd_t hf rfl hc2 ?_) fun hc2 hF => cd_f hf rfl hc2 ?_))
  ·cases hF
  ·refine wp_skip (then_n (sq (sq (reg (pr 1 hf rfl rfl fun a hf => ?_)))))
   refine wl0 rfl (op_q hf (rq_geK hf rfl rfl) rfl (by decide) fun a hf => ?_)
   refine wl_end (then_n (iteB hF (fun hc3 hF => cd_t hf rfl hc3 ?_) fun hc3 hF => cd_f hf rfl hc3 ?_))
   ·cases hF
   ·refine wp_skip (then_n (sq (reg (pr 2 hf rfl rfl fun a hf => ?_))))
    refine wl0 rfl (op_q hf (rq_conv u8w Tryz.underlying214 Tryz.underlying5 hf rfl) rfl (by decide) fun a hf => ?_)
    obtain ⟨e, he, hF⟩ := bind_some hF
    refine wl0 rfl (op_q hf (rq_indexS hf Tryz.underlying9 rfl rfl he) rfl (by decide) fun a hf => ?_)
    refine wl0 rfl (op_q hf (rq_conv i64w Tryz.underlying5 Tryz.underlying3 hf rfl) rfl (by decide) fun a hf => ?_)
    refine pr 2 hf rfl rfl fun a hf => ?_
    have hf := hf.prune [2] rfl
    refine wl_end (then_n (wp_ret (?_)))
    obtain rfl := Option.some.inj hF
    refine ret_1 (fn := Tryz.f249) (r := .tmp 2) hf rfl (rv_tmp hf rfl) ?_
    exact ⟨_, rfl, H.bel, mk_int⟩

/- math/bits.Len -/
set_option maxHeartbeats 1000000 in
theorem math_bits_Len_ok {fu : Nat} {w0 : World} {S : Nat → Prop} {v0_ : Value} {x1 : U64} {r : Int} (h0 : VR w0 S v0_ x1) (hF : math_bits_Len fu x1 = some r) :
    Calls Tryz.prog 235 [v0_].toArray w0 fun e w' => ∃ v, e = .returned v ∧ (Below w0.heap.size w0 w' ∧ VR w' (St ⟨w0, []⟩ S [] [] [] true) v r) := by
 obtain rfl := VR_u64 h0
 have H := Mem.start ⟨w0, []⟩ S
 refine enter Tryz.func235 rfl rfl (nle rfl) rfl fun a hf => ?_
 rw [math_bits_Len] at hF
 refine sq (reg (pr 1 hf rfl rfl fun a hf => ?_))
 refine wl_end (then_n (sq (cd_f hf rfl rfl (wp_skip (then_n (sq (reg (pr 1 hf rfl rfl fun a hf => ?_))))))))
 obtain ⟨y, hy, hF⟩ := bind_some hF
 refine wl0 rfl (op_call hf TF.cl249 rfl (by decide) (math_bits_Len64_ok (S := fun _ => True) mk_u64 hy) fun v w a hp hf => ?_)
 obtain ⟨hb, hp⟩ := hp
 obtain rfl := VR_int hp
 have H := H.keep hb
 refine pr 1 hf rfl rfl fun a hf => ?_
 refine wl_end (then_n (wp_ret (?_)))
 obtain rfl := Option.some.inj hF
 refine ret_1 (fn := Tryz.f235) (r := .tmp 2) hf rfl (rv_tmp hf rfl) ?_
 exact ⟨_, rfl, H.bel, mk_int⟩

/- cmp.Less[int] -/
set_option maxHeartbeats 1000000 in
theorem cmp_Less_int_ok {fu : Nat} {w0 : World} {S : Nat → Prop} {v0_ : Value} {v1_ : Value} {x1 : Int} {y : Int} {r : Bool} (h0 : VR w0 S v0_ x1) (h1 : VR w0 S v1_ y) (hF : cmp_Less_int fu x1 y = some r) :
    Calls Tryz.prog 245 [v0_, v1_].toArray w0 fun e w' => ∃ v, e = .returned v ∧ (Below w0.heap.size w0 w' ∧ VR w' (St ⟨w0, []⟩ S [] [] [] true) v r) := by
 obtain rfl := VR_int h0
 obtain rfl := VR_int h1
 have H := Mem.start ⟨w0, []⟩ S
 refine enter Tryz.func245 rfl rfl (nle rfl) rfl fun a hf => ?_
 rw [cmp_Less_int] at hF
 refine sq (reg (pr 1 hf rfl rfl fun a hf => ?_))
 refine wl_end (then_n (sq ?_))
 obtain ⟨c, hGc, hF⟩ := bind_some hF
 have fh := hf.prune [] rfl
 have Hm := H.let [] [] [] [] rfl rfl rfl rfl
 refine midF 4 (.bool c) fh Hm ?_ fun a w hf H => ?_
 ·refine reg (pr 1 hf rfl rfl fun a hf => ?_)
  obtain ⟨y2, hy2, hGc⟩ := bind_some hGc
  refine wl0 rfl (op_call hf TF.cl236 rfl (by decide) (cmp_isNaN_int_ok (S := fun _ => True) mk_int hy2) fun v w a hp hf => ?_)
  obtain ⟨hb, hp⟩ := hp
  obtain rfl := VR_bool hp
  have H := H.keep hb
  refine pr 1 hf rfl rfl fun a hf => ?_
  refine iteB hGc (fun hc hGc => ?_) fun hc hGc => ?_
  ·have hf := hf.lit 7 rfl hc
   refine pr 1 hf rfl rfl fun a hf => ?_
   obtain ⟨y3, hy3, hGc⟩ := bind_some hGc
   refine wlg hf rfl rfl rfl (op_call hf TF.cl236 rfl (by decide) (cmp_isNaN_int_ok (S := fun _ => True) mk_int hy3) fun v2 w a hp2 hf => ?_)
   obtain ⟨hb2, hp2⟩ := hp2
   obtain rfl := VR_bool hp2
   have H := H.keep hb2
   refine pr 3 hf rfl rfl fun a hf => ?_
   refine iteB hGc (fun hc2 hGc => ?_) fun hc2 hGc => ?_
   ·have hf := hf.lit 12 rfl hc2
    refine pr 5 hf rfl rfl fun a hf => ?_
    obtain rfl := Option.some.inj hGc
    have hf := hf.prune [4] rfl
    have H := H.let [] [] [] [] rfl rfl rfl rfl
    exact wl_end ⟨hf, H⟩
   ·have hf := hf.lit 12 rfl hc2
    refine pr 5 hf rfl rfl fun a hf => ?_
    obtain rfl := Option.some.inj hGc
    have hf := hf.prune [4] rfl
    have H := H.let [] [] [] [] rfl rfl rfl rfl
    exact wl_end ⟨hf, H⟩
  ·have hf := hf.lit 7 rfl hc
   refine pr 10 hf rfl rfl fun a hf => ?_
   obtain rfl := Option.some.inj hGc
   have hf := hf.prune [4] rfl
   have H := H.let [] [] [] [] rfl rfl rfl rfl
   exact wl_end ⟨hf, H⟩
 refine then_n (wp_ret (?_))
 obtain rfl := Option.some.inj hF
 refine ret_1 (fn := Tryz.f245) (r := .tmp 4) hf rfl (rv_tmp hf rfl) ?_
 exact ⟨_, rfl, H.bel, mk_bool⟩

/- slices.insertionSortOrdered[int] -/
set_option maxHeartbeats 1000000 in
theorem slices_insertionSortOrdered_int_ok {fu : Nat} {w0 : World} {S : Nat → Prop} {F : List Nat} {cs : List Value} {v1_ : Value} {v2_ : Value} {data : List Int} {a' : Int} {b' : Int} {r : List Int} (hO : GoTy.own w0 F cs data) (hn : F.Nodup) (h1 : VR w0 S v1_ a') (h2 : VR w0 S v2_ b') (hF : slices_insertionSortOrdered_int fu data a' b' = some r) :
    Calls Tryz.prog 239 [(bif GoTy.agg (List Int) then .agg cs.toArray else cs.headD undef), v1_, v2_].toArray w0 fun e w' => ∃ v, e = .returned v ∧ (Chg w0 w' F ∧ v = .tuple #[] ∧ ∃ F', GoTy.own w' F' cs r ∧ Back w0 w' F F') := by
 obtain rfl := VR_int h1
 obtain rfl := VR_int h2
 obtain ⟨A, c, rfl, hO⟩ := own_list hO
 have H := Mem.startG S hO hn
 obtain ⟨Fs, E, H, -⟩ := H.thaw rfl
 have H := H.rowSh 0 rfl
 refine enter Tryz.func239 rfl rfl (nle rfl) rfl fun a hf => ?_
 rw [slices_insertionSortOrdered_int] at hF
 refine sq (reg (pr 3 hf rfl rfl fun a hf => ?_))
 refine wl_end (then_n ?_)
 obtain ⟨out', hB1, hF⟩ := bind_some hF
 have hf := hf.prune [0, 1, 2, 6] rfl
 have hf : Fr a 49 [(0, (.slice A data.length c)), (1, (.int .i64 a')), (2, (.int .i64 b')), (6, (.int .i64 (w64 (a' + 1))))] := by first | exact hf | (simp only [List.length_set] at hf; exact hf)
 have H := H.let [] [true] [] [] rfl rfl rfl rfl
 refine loopC (fun (s : List Int × Int) (a : Act) (w : World) => match s with | (data2, i) => data2.length = data.length ∧ Fr a 49 [(0, (.slice A data.length c)), (1, (.int .i64 a')), (2, (.int .i64 b')), (6, (.int .i64 i))] ∧ Mem ⟨w0, F⟩ S [] [⟨.sh true, E, A, c, (data2 : List Int)⟩] [] [] w) (fun k (s : List Int × Int) => slices_insertionSortOrdered_int_L1 fu a' b' k s.1 s.2 = some out') (fun s => out' = s) (data, w64 (a' + 1)) fu hB1 ⟨rfl, hf, H⟩ (fun s h => by cases h) ?_ ?_
 ·rintro fk ⟨data2, i⟩ a w hR1 hI
  replace hR1 : slices_insertionSortOrdered_int_L1 fu a' b' (fk + 1) data2 i = some out' := hR1
  rw [slices_insertionSortOrdered_int_L1] at hR1
  obtain ⟨hlen, hf, H⟩ := hI
  have hf : Fr a 49 [(0, (.slice A data2.length c)), (1, (.int .i64 a')), (2, (.int .i64 b')), (6, (.int .i64 i))] := by rw [hlen]; exact hf
  refine sq (sq (reg (pr 3 hf rfl rfl fun a hf => ?_)))
  refine wl_end (then_n (iteB hR1 (fun hc hR1 => cd_t hf rfl hc ?_) fun hc hR1 => cd_f hf rfl hc ?_))
  ·refine wp_skip (then_n (sq (wp_block (sq (reg (pr 2 hf rfl rfl fun a hf => ?_))))))
   refine wl_end (then_n ?_)
   obtain ⟨out2, hB2, hR1⟩ := bind_some hR1
   have hf := hf.prune [0, 1, 2, 6, 7] rfl
   have hf : Fr a 49 [(0, (.slice A data2.length c)), (1, (.int .i64 a')), (2, (.int .i64 b')), (6, (.int .i64 i)), (7, (.int .i64 i))] := by first | exact hf | (simp only [List.length_set] at hf; exact hf)
   have H := H.let [] [true] [] [] rfl rfl rfl rfl
   refine loopC (fun (s : List Int × Int) (a : Act) (w : World) => match s with | (data3, j) => data3.length = data2.length ∧ Fr a 49 [(0, (.slice A data2.length c)), (1, (.int .i64 a')), (2, (.int .i64 b')), (6, (.int .i64 i)), (7, (.int .i64 j))] ∧ Mem ⟨w0, F⟩ S [] [⟨.sh true, E, A, c, (data3 : List Int)⟩] [] [] w) (fun k (s : List Int × Int) => slices_insertionSortOrdered_int_L2 fu a' k s.1 s.2 = some out2) (fun s => out2 = s) (data2, i) fu hB2 ⟨rfl, hf, H⟩ (fun s h => by cases h) ?_ ?_
   ·rintro fk ⟨data3, j⟩ a w hR2 hI
    replace hR2 : slices_insertionSortOrdered_int_L2 fu a' (fk + 1) data3 j = some out2 := hR2
    rw [slices_insertionSortOrdered_int_L2] at hR2
    obtain ⟨hlen2, hf, H⟩ := hI
    have hf : Fr a 49 [(0, (.slice A data3.length c)), (1, (.int .i64 a')), (2, (.int .i64 b')), (6, (.int .i64 i)), (7, (.int .i64 j))] := by rw [hlen2]; exact hf
    refine sq (sq ?_)
    obtain ⟨c2, hGc2, hR2⟩ := bind_some hR2
    have fh := hf.prune [0, 1, 2, 6, 7] rfl
    have Hm := H.let [] [true] [] [] rfl rfl rfl rfl
    refine midF 30 (.bool c2) fh Hm ?_ fun a w hf H => ?_
    ·refine drawn [] (bs := [false, false, false, false, false, false, false, false, false, false, false, false, false, false, false]) (fuel := 15) (Checked.mixed Tryz.checked) rfl rfl fun w hb => ?_
     have H := H.keep hb
     refine tp 0 rfl rfl hf (by kernel_rfl) (fun _ => trivial) rfl fun a hf => ?_
     refine tp 1 rfl rfl hf (by kernel_rfl) (fun _ => trivial) rfl fun a hf => ?_
     refine tp 2 rfl rfl hf (by kernel_rfl) (fun _ => trivial) rfl fun a hf => ?_
     refine tp 3 rfl rfl hf (by kernel_rfl) (fun _ => trivial) rfl fun a hf => ?_
     refine iteB hGc2 (fun hc2 hGc2 => ?_) fun hc2 hGc2 => ?_
     ·have hf := hf.lit 19 rfl hc2
      refine tpg 4 rfl rfl rfl rfl hf (by kernel_rfl) (fun _ => trivial) rfl fun a hf => ?_
      refine tpg 5 rfl rfl rfl rfl hf (by kernel_rfl) (fun _ => trivial) rfl fun a hf => ?_
      obtain ⟨e, he, hGc2⟩ := bind_some hGc2
      obtain ⟨p, o, hA, hx⟩ := pre_iaddrR H Tryz.underlying44 TF.sz3 0 rfl he
      refine tPg 6 rfl rfl rfl rfl rfl rfl hf (by kernel_rfl) (fun _ => trivial) (fun w => rq_iaddrE hf rfl rfl rfl hx w) fun a hf => ?_
      refine strT H (fun w H => trivial) fun hS => ?_
      refine tSg 7 [] rfl rfl rfl rfl rfl rfl hf (by kernel_rfl) (by kernel_rfl) hS (fun w H => rq_loadRow (off := 0) hf H TF.ls3 0 rfl rfl hA he (fun w T cs h => by obtain rfl := h; rfl)) fun a hf => ?_
      refine tpg 8 rfl rfl rfl rfl hf (by kernel_rfl) (fun _ => hS) rfl fun a hf => ?_
      refine tpg 9 rfl rfl rfl rfl hf (by kernel_rfl) (fun _ => hS) rfl fun a hf => ?_
      refine tpg 10 rfl rfl rfl rfl hf (by kernel_rfl) (fun _ => hS) rfl fun a hf => ?_
      obtain ⟨e2, he2, hGc2⟩ := bind_some hGc2
      obtain ⟨p2, o2, hA2, hx2⟩ := pre_iaddrR H Tryz.underlying44 TF.sz3 0 rfl he2
      refine tPg 11 rfl rfl rfl rfl rfl rfl hf (by kernel_rfl) (fun _ => hS) (fun w => rq_iaddrE hf rfl rfl rfl hx2 w) fun a hf => ?_
      refine tSg 12 [] rfl rfl rfl rfl rfl rfl hf (by kernel_rfl) (by kernel_rfl) hS (fun w H => rq_loadRow (off := 0) hf H TF.ls3 0 rfl rfl hA2 he2 (fun w T cs h => by obtain rfl := h; rfl)) fun a hf => ?_
      obtain ⟨y, hy, hGc2⟩ := bind_some hGc2
      refine n1g 13 (by kernel_rfl) rfl rfl rfl rfl hf (op_call hf TF.cl245 rfl (by decide) (cmp_Less_int_ok (S := fun _ => True) mk_int mk_int hy) fun v w a hp hf => ?_)
      obtain ⟨hb, hp⟩ := hp
      obtain rfl := VR_bool hp
      have H := H.keep hb
      have hS := H
      refine ⟨fun _ => hS, ?_⟩
      refine tp 14 rfl rfl hf (by kernel_rfl) (fun _ => hS) rfl fun a hf => ?_
      refine dn (by kernel_rfl) ?_
      obtain rfl := Option.some.inj hGc2
      have hf := hf.prune [30, 0, 1, 2, 6, 7] rfl
      have H := H.let [] [true] [] [] rfl rfl rfl rfl
      exact ⟨hf, H⟩
     ·have hf := hf.lit 19 rfl hc2
      refine tU 4 rfl rfl rfl rfl rfl rfl rfl hf (by kernel_rfl) (fun _ => trivial) fun a hf => ?_
      refine tU 5 rfl rfl rfl rfl rfl rfl rfl hf (by kernel_rfl) (fun _ => trivial) fun a hf => ?_
      refine tU 6 rfl rfl rfl rfl rfl rfl rfl hf (by kernel_rfl) (fun _ => trivial) fun a hf => ?_
      refine tU 7 rfl rfl rfl rfl rfl rfl rfl hf (by kernel_rfl) (fun _ => trivial) fun a hf => ?_
      refine tU 8 rfl rfl rfl rfl rfl rfl rfl hf (by kernel_rfl) (fun _ => trivial) fun a hf => ?_
      refine tU 9 rfl rfl rfl rfl rfl rfl rfl hf (by kernel_rfl) (fun _ => trivial) fun a hf => ?_
      refine tU 10 rfl rfl rfl rfl rfl rfl rfl hf (by kernel_rfl) (fun _ => trivial) fun a hf => ?_
      refine tU 11 rfl rfl rfl rfl rfl rfl rfl hf (by kernel_rfl) (fun _ => trivial) fun a hf => ?_
      refine tU 12 rfl rfl rfl rfl rfl rfl rfl hf (by kernel_rfl) (fun _ => trivial) fun a hf => ?_
      refine tU 13 rfl rfl rfl rfl rfl rfl rfl hf (by kernel_rfl) (fun _ => trivial) fun a hf => ?_
      refine tp 14 rfl rfl hf (by kernel_rfl) (fun _ => trivial) rfl fun a hf => ?_
      refine dn (by kernel_rfl) ?_
      obtain rfl := Option.some.inj hGc2
      have hf := hf.prune [30, 0, 1, 2, 6, 7] rfl
      have H := H.let [] [true] [] [] rfl rfl rfl rfl
      exact ⟨hf, H⟩
    refine then_n (iteB hR2 (fun hc3 hR2 => cd_t hf rfl hc3 ?_) fun hc3 hR2 => cd_f hf rfl hc3 ?_)
    ·refine wp_skip (then_n (sq (wp_block (drawn [15, 17] (bs := [false, false, false, false, false, false, false, false, false, false, false, false, false, false, false, false, false, false]) (fuel := 18) (Checked.mixed Tryz.checked) rfl rfl fun w hb => ?_))))
     have H := H.keep hb
     refine tp 0 rfl rfl hf (by kernel_rfl) (fun _ => trivial) rfl fun a hf => ?_
     refine tp 1 rfl rfl hf (by kernel_rfl) (fun _ => trivial) rfl fun a hf => ?_
     refine tp 2 rfl rfl hf (by kernel_rfl) (fun _ => trivial) rfl fun a hf => ?_
     refine tp 3 rfl rfl hf (by kernel_rfl) (fun _ => trivial) rfl fun a hf => ?_
     refine tp 4 rfl rfl hf (by kernel_rfl) (fun _ => trivial) rfl fun a hf => ?_
     refine tp 5 rfl rfl hf (by kernel_rfl) (fun _ => trivial) rfl fun a hf => ?_
     refine tp 6 rfl rfl hf (by kernel_rfl) (fun _ => trivial) rfl fun a hf => ?_
     refine tp 7 rfl rfl hf (by kernel_rfl) (fun _ => trivial) rfl fun a hf => ?_
     obtain ⟨e3, he3, hR2⟩ := bind_some hR2
     obtain ⟨p3, o3, hA3, hx3⟩ := pre_iaddrR H Tryz.underlying44 TF.sz3 0 rfl he3
     refine tP 8 rfl rfl rfl rfl hf (by kernel_rfl) (fun _ => trivial) (fun w => rq_iaddrE hf rfl rfl rfl hx3 w) fun a hf => ?_
     refine strT H (fun w H => trivial) fun hS => ?_
     refine tS 9 [9, 14, 15, 16, 17] rfl rfl rfl rfl hf (by kernel_rfl) (by kernel_rfl) hS (fun w H => rq_loadRow (off := 0) hf H TF.ls3 0 rfl rfl hA3 he3 (fun w T cs h => by obtain rfl := h; rfl)) fun a hf => ?_
     refine tp 10 rfl rfl hf (by kernel_rfl) (fun _ => hS) rfl fun a hf => ?_
     refine tp 11 rfl rfl hf (by kernel_rfl) (fun _ => hS) rfl fun a hf => ?_
     obtain ⟨e4, he4, hR2⟩ := bind_some hR2
     obtain ⟨p4, o4, hA4, hx4⟩ := pre_iaddrR H Tryz.underlying44 TF.sz3 0 rfl he4
     refine tP 12 rfl rfl rfl rfl hf (by kernel_rfl) (fun _ => hS) (fun w => rq_iaddrE hf rfl rfl rfl hx4 w) fun a hf => ?_
     refine tS 13 [13, 14, 15, 16, 17] rfl rfl rfl rfl hf (by kernel_rfl) (by kernel_rfl) hS (fun w H => rq_loadRow (off := 0) hf H TF.ls3 0 rfl rfl hA4 he4 (fun w T cs h => by obtain rfl := h; rfl)) fun a hf => ?_
     obtain ⟨e5, he5, hR2⟩ := bind_some hR2
     refine n1 14 (by kernel_rfl) rfl rfl (op_iaddrR hf H Tryz.underlying44 TF.sz3 0 rfl rfl rfl he5 (by decide) fun p5 o5 cs a hf hA5 hr hk => ?_)
     obtain rfl := hr
     have hS := H
     refine ⟨fun _ => hS, ?_⟩
     refine n1 15 (by kernel_rfl) rfl rfl (op_storeR (e' := e3) (o := o5) (off := 0) hf H TF.sz3 0 rfl rfl rfl rfl rfl (nle rfl) rfl hA5 he5 (st_full rfl) fun w H => ?_)
     replace hf : Fr a 49 [(0, (.slice A data3.length c)), (1, (.int .i64 a')), (2, (.int .i64 b')), (6, (.int .i64 i)), (7, (.int .i64 j)), (30, (.bool c2)), (33, (.slice A data3.length c)), (34, (.int .i64 j)), (35, (.slice A data3.length c)), (36, (.int .i64 j)), (37, (.int .i64 (w64 (j - 1)))), (38, (.slice A data3.length c)), (39, (.int .i64 j)), (40, (.int .i64 (w64 (j - 1)))), (41, (.pointer (some ⟨p3, o3 + 0, none⟩))), (42, (.int .i64 e3)), (43, (.slice A data3.length c)), (44, (.int .i64 j)), (45, (.pointer (some ⟨p4, o4 + 0, none⟩))), (46, (.int .i64 e4)), (47, (.pointer (some ⟨p5, o5 + 0, none⟩)))] := hf.prune [0, 1, 2, 6, 7, 30, 33, 34, 35, 36, 37, 38, 39, 40, 41, 42, 43, 44, 45, 46, 47] rfl
     replace hf : Fr a 49 [(0, (.slice A (data3.set (j).toNat e3).length c)), (1, (.int .i64 a')), (2, (.int .i64 b')), (6, (.int .i64 i)), (7, (.int .i64 j)), (30, (.bool c2)), (33, (.slice A (data3.set (j).toNat e3).length c)), (34, (.int .i64 j)), (35, (.slice A (data3.set (j).toNat e3).length c)), (36, (.int .i64 j)), (37, (.int .i64 (w64 (j - 1)))), (38, (.slice A (data3.set (j).toNat e3).length c)), (39, (.int .i64 j)), (40, (.int .i64 (w64 (j - 1)))), (41, (.pointer (some ⟨p3, o3 + 0, none⟩))), (42, (.int .i64 e3)), (43, (.slice A (data3.set (j).toNat e3).length c)), (44, (.int .i64 j)), (45, (.pointer (some ⟨p4, o4 + 0, none⟩))), (46, (.int .i64 e4)), (47, (.pointer (some ⟨p5, o5 + 0, none⟩)))] := by simpa only [List.length_set, Nat.add_zero] using hf
     refine ⟨fun h => absurd h (by decide), ?_⟩
     obtain ⟨e6, he6, hR2⟩ := bind_some hR2
     refine n1 16 (by kernel_rfl) rfl rfl (op_iaddrR hf H Tryz.underlying44 TF.sz3 0 rfl rfl rfl he6 (by decide) fun p6 o6 cs2 a hf hA6 hr2 hk2 => ?_)
     obtain rfl := hr2
     refine ⟨fun h => absurd h (by decide), ?_⟩
     refine n1 17 (by kernel_rfl) rfl rfl (op_storeR (e' := e4) (o := o6) (off := 0) hf H TF.sz3 0 rfl rfl rfl rfl rfl (nle rfl) rfl hA6 he6 (st_full rfl) fun w H => ?_)
     replace hf : Fr a 49 [(0, (.slice A (data3.set (j).toNat e3).length c)), (1, (.int .i64 a')), (2, (.int .i64 b')), (6, (.int .i64 i)), (7, (.int .i64 j)), (30, (.bool c2)), (33, (.slice A (data3.set (j).toNat e3).length c)), (34, (.int .i64 j)), (35, (.slice A (data3.set (j).toNat e3).length c)), (36, (.int .i64 j)), (37, (.int .i64 (w64 (j - 1)))), (38, (.slice A (data3.set (j).toNat e3).length c)), (39, (.int .i64 j)), (40, (.int .i64 (w64 (j - 1)))), (41, (.pointer (some ⟨p3, o3 + 0, none⟩))), (42, (.int .i64 e3)), (43, (.slice A (data3.set (j).toNat e3).length c)), (44, (.int .i64 j)), (45, (.pointer (some ⟨p4, o4 + 0, none⟩))), (46, (.int .i64 e4)), (47, (.pointer (some ⟨p5, o5 + 0, none⟩))), (48, (.pointer (some ⟨p6, o6 + 0, none⟩)))] := hf.prune [0, 1, 2, 6, 7, 30, 33, 34, 35, 36, 37, 38, 39, 40, 41, 42, 43, 44, 45, 46, 47, 48] rfl
     replace hf : Fr a 49 [(0, (.slice A ((data3.set (j).toNat e3).set (w64 (j - 1)).toNat e4).length c)), (1, (.int .i64 a')), (2, (.int .i64 b')), (6, (.int .i64 i)), (7, (.int .i64 j)), (30, (.bool c2)), (33, (.slice A ((data3.set (j).toNat e3).set (w64 (j - 1)).toNat e4).length c)), (34, (.int .i64 j)), (35, (.slice A ((data3.set (j).toNat e3).set (w64 (j - 1)).toNat e4).length c)), (36, (.int .i64 j)), (37, (.int .i64 (w64 (j - 1)))), (38, (.slice A ((data3.set (j).toNat e3).set (w64 (j - 1)).toNat e4).length c)), (39, (.int .i64 j)), (40, (.int .i64 (w64 (j - 1)))), (41, (.pointer (some ⟨p3, o3 + 0, none⟩))), (42, (.int .i64 e3)), (43, (.slice A ((data3.set (j).toNat e3).set (w64 (j - 1)).toNat e4).length c)), (44, (.int .i64 j)), (45, (.pointer (some ⟨p4, o4 + 0, none⟩))), (46, (.int .i64 e4)), (47, (.pointer (some ⟨p5, o5 + 0, none⟩))), (48, (.pointer (some ⟨p6, o6 + 0, none⟩)))] := by simpa only [List.length_set, Nat.add_zero] using hf
     refine ⟨fun h => absurd h (by decide), ?_⟩
     refine dn (by kernel_rfl) ?_
     have hf := hf.prune [0, 1, 2, 6, 7] rfl
     refine blk_n (then_n (reg (pr 3 hf rfl rfl fun a hf => ?_)))
     refine wl_end ?_
     have hf := hf.prune [0, 1, 2, 6, 7] rfl
     have hf : Fr a 49 [(0, (.slice A data2.length c)), (1, (.int .i64 a')), (2, (.int .i64 b')), (6, (.int .i64 i)), (7, (.int .i64 (w64 (j - 1))))] := by first | exact hf | (simp only [List.length_set, hlen2] at hf; exact hf)
     have H := H.let [] [true] [] [] rfl rfl rfl rfl
     exact then_n ⟨((data3.set (j).toNat e3).set (w64 (j - 1)).toNat e4, w64 (j - 1)), hR2, (by simp only [List.length_set, hlen2]), hf, H⟩
    ·refine wp_exit (then_x (then_x (blk_e (?_))))
     have hf := hf.prune [0, 1, 2, 6, 7] rfl
     have hf : Fr a 49 [(0, (.slice A data2.length c)), (1, (.int .i64 a')), (2, (.int .i64 b')), (6, (.int .i64 i)), (7, (.int .i64 j))] := by first | exact hf | (simp only [List.length_set, hlen2] at hf; exact hf)
     have H := H.let [] [true] [] [] rfl rfl rfl rfl
     exact ⟨(data3, j), (Option.some.inj hR2).symm, (by simp only [List.length_set, hlen2]), hf, H⟩
   rintro a w ⟨⟨data4, j2⟩, rfl, hlen2, hf, H⟩
   try dsimp only at hlen2
   have hf : Fr a 49 [(0, (.slice A data4.length c)), (1, (.int .i64 a')), (2, (.int .i64 b')), (6, (.int .i64 i)), (7, (.int .i64 j2))] := by rw [hlen2]; exact hf
   try dsimp only at hR1
   refine blk_n (then_n (reg (pr 3 hf rfl rfl fun a hf => ?_)))
   refine wl_end ?_
   have hf := hf.prune [0, 1, 2, 6] rfl
   have hf : Fr a 49 [(0, (.slice A data.length c)), (1, (.int .i64 a')), (2, (.int .i64 b')), (6, (.int .i64 (w64 (i + 1))))] := by first | exact hf | (simp only [List.length_set, hlen, hlen2] at hf; exact hf)
   have H := H.let [] [true] [] [] rfl rfl rfl rfl
   exact then_n ⟨(data4, w64 (i + 1)), hR1, (by simp only [List.length_set, hlen, hlen2]), hf, H⟩
  ·refine wp_exit (then_x (then_x (blk_e (?_))))
   have hf := hf.prune [0, 1, 2, 6] rfl
   have hf : Fr a 49 [(0, (.slice A data.length c)), (1, (.int .i64 a')), (2, (.int .i64 b')), (6, (.int .i64 i))] := by first | exact hf | (simp only [List.length_set, hlen] at hf; exact hf)
   have H := H.let [] [true] [] [] rfl rfl rfl rfl
   exact ⟨(data2, i), (Option.some.inj hR1).symm, (by simp only [List.length_set, hlen]), hf, H⟩
 rintro a w ⟨⟨data5, i2⟩, rfl, hlen, hf, H⟩
 try dsimp only at hlen
 have hf : Fr a 49 [(0, (.slice A data5.length c)), (1, (.int .i64 a')), (2, (.int .i64 b')), (6, (.int .i64 i2))] := by rw [hlen]; exact hf
 try dsimp only at hF
 have H := H.rowOwn 0 rfl rfl
 obtain ⟨F', H⟩ := H.freezeOwn 0 rfl
 rw [hlen] at H
 obtain rfl := Option.some.inj hF
 refine ret_0 (fn := Tryz.f239) hf rfl ?_
 exact ⟨_, rfl, H.chg, rfl, _, H.ownAt 0 rfl, H.back⟩

/- slices.pdqsortOrdered[int] -/
set_option maxHeartbeats 1000000 in
theorem slices_pdqsortOrdered_int_ok {fu : Nat} {w0 : World} {S : Nat → Prop} {F : List Nat} {cs : List Value} {v1_ : Value} {v2_ : Value} {v3_ : Value} {data : List Int} {a' : Int} {b' : Int} {limit : Int} {r : List Int} (hO : GoTy.own w0 F cs data) (hn : F.Nodup) (h1 : VR w0 S v1_ a') (h2 : VR w0 S v2_ b') (h3 : VR w0 S v3_ limit) (hF : slices_pdqsortOrdered_int fu data a' b' limit = some r) :
    Calls Tryz.prog 234 [(bif GoTy.agg (List Int) then .agg cs.toArray else cs.headD undef), v1_, v2_, v3_].toArray w0 fun e w' => ∃ v, e = .returned v ∧ (Chg w0 w' F ∧ v = .tuple #[] ∧ ∃ F', GoTy.own w' F' cs r ∧ Back w0 w' F F') := by
 obtain rfl := VR_int h1
 obtain rfl := VR_int h2
 obtain rfl := VR_int h3
 obtain ⟨A, c, rfl, hO⟩ := own_list hO
 have H := Mem.startG S hO hn
 obtain ⟨Fs, E, H, -⟩ := H.thaw rfl
 have H := H.rowSh 0 rfl
 refine enter Tryz.func234 rfl rfl (nle rfl) rfl fun a hf => ?_
 rw [slices_pdqsortOrdered_int] at hF
 refine sq (reg (pr 1 hf rfl rfl fun a hf => ?_))
 refine wl_end (then_n (sq (reg (pr 1 hf rfl rfl fun a hf => ?_))))
 refine wl_end (then_n ?_)
 obtain ⟨out', hB1, hF⟩ := bind_some hF
 have hf := hf.prune [0, 1, 2, 3, 8, 9] rfl
 have H := H.let [] [true] [] [] rfl rfl rfl rfl
 refine loopC (fun (s : Unit) (a : Act) (w : World) => match s with | _ => Fr a 134 [(0, (.slice A data.length c)), (1, (.int .i64 a')), (2, (.int .i64 b')), (3, (.int .i64 limit)), (8, (.bool true)), (9, (.bool true))] ∧ Mem ⟨w0, F⟩ S [] [⟨.sh true, E, A, c, (data : List Int)⟩] [] [] w) (fun k (s : Unit) => slices_pdqsortOrdered_int_L1 fu data a' b' k = some out') (fun s => out' = Out.next s) () fu hB1 ⟨hf, H⟩ (fun s h => by cases h) ?_ ?_
 ·rintro fk _ a w hR1 hI
  replace hR1 : slices_pdqsortOrdered_int_L1 fu data a' b' (fk + 1) = some out' := hR1
  rw [slices_pdqsortOrdered_int_L1] at hR1
  obtain ⟨hf, H⟩ := hI
  refine wp_block (sq (reg (pr 4 hf rfl rfl fun a hf => ?_)))
  refine wl_end (then_n (sq (sq (reg (pr 2 hf rfl rfl fun a hf => ?_)))))
  refine wl_end (then_n (iteB hR1 (fun hc hR1 => cd_t hf rfl hc ?_) fun hc hR1 => cd_f hf rfl hc ?_))
  ·refine sq (reg (pr 3 hf rfl rfl fun a hf => ?_))
   have H := H.rowOwn 0 rfl rfl
   obtain ⟨F2, H⟩ := H.freezeOwn 0 rfl
   have H := H.lend 0 rfl
   obtain ⟨y, hy, hR1⟩ := bind_some hR1
   refine wl0 rfl (op_call hf TF.cl239 rfl (by decide) (slices_insertionSortOrdered_int_ok (S := fun _ => True) (F := F2) (cs := [(.slice A data.length c)]) (H.ownAt 0 rfl) H.diNd.1 mk_int mk_int hy) fun v w a hp hf => ?_)
   obtain ⟨hch, hv, F3, ho, hbk⟩ := hp
   subst hv
   have H := H.wrote rfl hch ho hbk
   have H := H.lend 0 rfl
   have hf := hf.prune [] rfl
   refine wl_end (then_n (wp_ret (then_r (blk_r (then_r (blk_r (then_r (?_))))))))
   obtain rfl := Option.some.inj hR1
   replace hF := on_ret hF
   obtain rfl := Option.some.inj hF
   refine ret_0r (fn := Tryz.f234) hf rfl ?_
   exact ⟨_, rfl, H.chg, rfl, _, H.ownAt 0 rfl, H.back⟩
  ·refine wp_skip (then_n (sq (sq (reg (pr 2 hf rfl rfl fun a hf => ?_)))))
   refine wl_end (then_n ?_)
   cases hR1
 rintro a w ⟨_, rfl, hf, H⟩
 replace hF := on_next hF
 have H := H.rowOwn 0 rfl rfl
 obtain ⟨F', H⟩ := H.freezeOwn 0 rfl
 obtain rfl := Option.some.inj hF
 refine ret_0 (fn := Tryz.f234) hf rfl ?_
 exact ⟨_, rfl, H.chg, rfl, _, H.ownAt 0 rfl, H.back⟩

/- slices.Sort[[]int,int] -/
set_option maxHeartbeats 1000000 in
theorem slices_Sort_int_int_ok {fu : Nat} {w0 : World} {S : Nat → Prop} {F : List Nat} {cs : List Value} {x1 : List Int} {r : List Int} (hO : GoTy.own w0 F cs x1) (hn : F.Nodup) (hF : slices_Sort_int_int fu x1 = some r) :
    Calls Tryz.prog 217 [(bif GoTy.agg (List Int) then .agg cs.toArray else cs.headD undef)].toArray w0 fun e w' => ∃ v, e = .returned v ∧ (Chg w0 w' F ∧ v = .tuple #[] ∧ ∃ F', GoTy.own w' F' cs r ∧ Back w0 w' F F') := by
 obtain ⟨A, c, rfl, hO⟩ := own_list hO
 have H := Mem.startG S hO hn
 obtain ⟨Fs, E, H, -⟩ := H.thaw rfl
 have H := H.rowSh 0 rfl
 refine enter Tryz.func217 rfl rfl (nle rfl) rfl fun a hf => ?_
 rw [slices_Sort_int_int] at hF
 refine sq (reg (pr 3 hf rfl rfl fun a hf => ?_))
 refine wl_end (then_n (reg (pr 3 hf rfl rfl fun a hf => ?_)))
 refine wl0 rfl (op_q hf (rq_conv u64w Tryz.underlying3 Tryz.underlying172 hf rfl) rfl (by decide) fun a hf => ?_)
 obtain ⟨y, hy, hF⟩ := bind_some hF
 refine wl0 rfl (op_call hf TF.cl235 rfl (by decide) (math_bits_Len_ok (S := fun _ => True) (mk_u64 (x := (⟨wu64 (x1.length : Int)⟩ : U64))) hy) fun v w a hp hf => ?_)
 obtain ⟨hb, hp⟩ := hp
 obtain rfl := VR_int hp
 have H := H.keep hb
 have H := H.rowOwn 0 rfl rfl
 obtain ⟨F2, H⟩ := H.freezeOwn 0 rfl
 have H := H.lend 0 rfl
 obtain ⟨y2, hy2, hF⟩ := bind_some hF
 refine wl0 rfl (op_call hf TF.cl234 rfl (by decide) (slices_pdqsortOrdered_int_ok (S := fun _ => True) (F := F2) (cs := [(.slice A x1.length c)]) (H.ownAt 0 rfl) H.diNd.1 mk_int mk_int mk_int hy2) fun v2 w a hp2 hf => ?_)
 obtain ⟨hch, hv, F3, ho, hbk⟩ := hp2
 subst hv
 have H := H.wrote rfl hch ho hbk
 have H := H.lend 0 rfl
 refine wl_end ?_
 obtain rfl := Option.some.inj hF
 refine ret_0 (fn := Tryz.f217) hf rfl ?_
 exact ⟨_, rfl, H.chg, rfl, _, H.ownAt 0 rfl, H.back⟩

/- slices.Compact[[]int,int] -/
set_option maxHeartbeats 1000000 in
theorem slices_Compact_int_int_ok {fu : Nat} {w0 : World} {S : Nat → Prop} {v0_ : Value} {s' : List Int} {r : List Int} (h0 : VR w0 S v0_ s') (hF : slices_Compact_int_int fu s' = some r) :
    Calls Tryz.prog 218 [v0_].toArray w0 fun e w' => ∃ v, e = .returned v ∧ (Below w0.heap.size w0 w' ∧ VR w' (St ⟨w0, []⟩ S [] [] [] false) v r) := by
 obtain ⟨A, c, rfl, hl⟩ := VR_list h0
 have H := Mem.start ⟨w0, []⟩ S
 have H := H.pushArg (MP.val [(.slice A s'.length c)] s') hl
 refine enter Tryz.func218 rfl rfl (nle rfl) rfl fun a hf => ?_
 rw [slices_Compact_int_int] at hF
 refine sq (reg (pr 1 hf rfl rfl fun a hf => ?_))
 refine wl_end (then_n (sq (sq (reg (pr 3 hf rfl rfl fun a hf => ?_)))))
 refine wl_end (then_n (iteB hF (fun hc hF => cd_t hf rfl hc ?_) fun hc hF => cd_f hf rfl hc ?_))
 ·refine sq (reg (pr 2 hf rfl rfl fun a hf => ?_))
  refine wl_end (then_n (wp_ret (then_r (?_))))
  obtain rfl := Option.some.inj hF
  refine ret_1 (fn := Tryz.f218) (r := .tmp 2) hf rfl (rv_tmp hf rfl) ?_
  exact ⟨_, rfl, H.bel, (mk_list (rep_end (α := List Int) (H.get 0 rfl)))⟩
 ·refine wp_skip (then_n (sq (sq (reg (pr 1 hf rfl rfl fun a hf => ?_)))))
  refine wl_end (then_n ?_)
  obtain ⟨out', hB1, hF⟩ := bind_some hF
  have hf := hf.prune [0, 3] rfl
  have H := H.let [] [] [] [0] rfl rfl rfl rfl
  refine loopC (fun (s : Int) (a : Act) (w : World) => match s with | k' => Fr a 61 [(0, (.slice A s'.length c)), (3, (.int .i64 k'))] ∧ Mem ⟨w0, []⟩ S [] [] [] [(false, MP.val [(.slice A s'.length c)] (s' : List Int))] w) (fun k (s : Int) => slices_Compact_int_int_L1 fu s' k s = some out') (fun s => out' = Out.next s) 1 fu hB1 ⟨hf, H⟩ (fun s h => by cases h) ?_ ?_
  ·rintro fk k' a w hR1 hI
   replace hR1 : slices_Compact_int_int_L1 fu s' (fk + 1) k' = some out' := hR1
   rw [slices_Compact_int_int_L1] at hR1
   obtain ⟨hf, H⟩ := hI
   refine sq (sq (reg (pr 4 hf rfl rfl fun a hf => ?_)))
   refine wl_end (then_n (iteB hR1 (fun hc2 hR1 => cd_t hf rfl hc2 ?_) fun hc2 hR1 => cd_f hf rfl hc2 ?_))
   ·refine wp_skip (then_n (sq (wp_block (sq (drawn [] (bs := [false, false, false, false, false, false, false, false, false, false]) (fuel := 10) (Checked.mixed Tryz.checked) rfl rfl fun w hb => ?_)))))
    have H := H.keep hb
    refine tp 0 rfl rfl hf (by kernel_rfl) (fun _ => trivial) rfl fun a hf => ?_
    refine tp 1 rfl rfl hf (by kernel_rfl) (fun _ => trivial) rfl fun a hf => ?_
    obtain ⟨e, he, hR1⟩ := bind_some hR1
    obtain ⟨p, o, cs, hx, hr, H⟩ := pre_iaddr H Tryz.underlying44 TF.sz3 0 rfl he
    refine tP 2 rfl rfl rfl rfl hf (by kernel_rfl) (fun _ => trivial) (fun w => rq_iaddrE hf rfl rfl rfl hx w) fun a hf => ?_
    obtain rfl := hr
    refine strT (H.let [] [] [] [0] rfl rfl rfl rfl) (fun w H => trivial) fun hS => ?_
    refine tS 3 [] rfl rfl rfl rfl hf (by kernel_rfl) (by kernel_rfl) hS (fun w H => rq_loadI hf H TF.ls3 0 0 rfl rfl rfl) fun a hf => ?_
    refine tp 4 rfl rfl hf (by kernel_rfl) (fun _ => hS) rfl fun a hf => ?_
    refine tp 5 rfl rfl hf (by kernel_rfl) (fun _ => hS) rfl fun a hf => ?_
    refine tp 6 rfl rfl hf (by kernel_rfl) (fun _ => hS) rfl fun a hf => ?_
    obtain ⟨e2, he2, hR1⟩ := bind_some hR1
    obtain ⟨p2, o2, cs2, hx2, hr2, H⟩ := pre_iaddr H Tryz.underlying44 TF.sz3 1 rfl he2
    refine tP 7 rfl rfl rfl rfl hf (by kernel_rfl) (fun _ => hS) (fun w => rq_iaddrE hf rfl rfl rfl hx2 w) fun a hf => ?_
    obtain rfl := hr2
    refine strT (H.let [] [] [] [0, 1] rfl rfl rfl rfl) (fun w H => H.let [] [] [] [1] rfl rfl rfl rfl) fun hS => ?_
    refine tS 8 [] rfl rfl rfl rfl hf (by kernel_rfl) (by kernel_rfl) hS (fun w H => rq_loadI hf H TF.ls3 0 0 rfl rfl rfl) fun a hf => ?_
    refine tp 9 rfl rfl hf (by kernel_rfl) (fun _ => hS) rfl fun a hf => ?_
    refine dn (by kernel_rfl) ?_
    have hf := hf.prune [0, 3, 25] rfl
    refine then_n (iteB hR1 (fun hc3 hR1 => cd_t hf rfl hc3 ?_) fun hc3 hR1 => cd_f hf rfl hc3 ?_)
    ·cases hR1
    ·refine wp_skip (blk_n (then_n (reg (pr 3 hf rfl rfl fun a hf => ?_))))
     refine wl_end ?_
     have hf := hf.prune [0, 3] rfl
     have H := H.let [] [] [] [2] rfl rfl rfl rfl
     exact then_n ⟨w64 (k' + 1), hR1, hf, H⟩
   ·refine wp_exit (then_x (then_x (blk_e (?_))))
    have hf := hf.prune [0, 3] rfl
    have H := H.let [] [] [] [0] rfl rfl rfl rfl
    exact ⟨k', (Option.some.inj hR1).symm, hf, H⟩
  rintro a w ⟨k2, rfl, hf, H⟩
  replace hF := on_next hF
  refine then_n (sq (reg (pr 2 hf rfl rfl fun a hf => ?_)))
  refine wl_end (then_n (wp_ret (?_)))
  obtain rfl := Option.some.inj hF
  refine ret_1 (fn := Tryz.f218) (r := .tmp 2) hf rfl (rv_tmp hf rfl) ?_
  exact ⟨_, rfl, H.bel, (mk_list (rep_end (α := List Int) (H.get 0 rfl)))⟩

/- loop.example/g00897/impl.common -/
set_option maxHeartbeats 1000000 in
theorem impl_common_ok {fu : Nat} {w0 : World} {S : Nat → Prop} {v0_ : Value} {v1_ : Value} {a' : List Int} {b' : List Int} {r : List Int} (h0 : VR w0 S v0_ a') (h1 : VR w0 S v1_ b') (hF : impl_common fu a' b' = some r) :
    Calls Tryz.prog 178 [v0_, v1_].toArray w0 fun e w' => ∃ v, e = .returned v ∧ (Below w0.heap.size w0 w' ∧ VR w' (St ⟨w0, []⟩ S [] [] [] true) v r) := by
 obtain ⟨A, c, rfl, hl⟩ := VR_list h0
 obtain ⟨A2, c2, rfl, hl2⟩ := VR_list h1
 have H := Mem.start ⟨w0, []⟩ S
 have H := H.pushArg (MP.val [(.slice A a'.length c)] a') hl
 have H := H.pushArg (MP.val [(.slice A2 b'.length c2)] b') hl2
 refine enter Tryz.func178 rfl rfl (nle rfl) rfl fun a hf => ?_
 rw [impl_common] at hF
 refine sq (reg (pr 1 hf rfl rfl fun a hf => ?_))
 refine wl_end (then_n (sq (reg (wl0 rfl (op_bslice hf H (.sh true) rfl 3 ([] : List Int) [] rfl (fun w => by kernel_rfl) rfl (by decide) rfl trivial el0 (by decide) fun A3 a w hf H => ?_)))))
 refine pr 1 hf rfl rfl fun a hf => ?_
 refine wl_end (then_n (sq (sq (reg (pr 3 hf rfl rfl fun a hf => ?_)))))
 refine wl_end (then_n ?_)
 obtain ⟨out2, hB1, hF⟩ := bind_some hF
 have hf := hf.prune [1, 5, 9, 10, 11] rfl
 have H := H.let [] [true] [] [0, 1] rfl rfl rfl rfl
 refine loopC (fun (s : List Int × Int) (a : Act) (w : World) => match s with | (out', i) => ∃ (A4 : Option Addr) (c3 : Nat) (E : Go.TypeId), Fr a 27 [(1, (.slice A2 b'.length c2)), (5, (.slice A4 out'.length c3)), (9, (.slice A a'.length c)), (10, (.int .i64 (a'.length : Int))), (11, (.int .i64 i))] ∧ Mem ⟨w0, []⟩ S [] [⟨.sh true, E, A4, c3, (out' : List Int)⟩] [] [(false, MP.val [(.slice A2 b'.length c2)] (b' : List Int)), (false, MP.val [(.slice A a'.length c)] (a' : List Int))] w) (fun k (s : List Int × Int) => impl_common_L1 fu a' b' k s.1 s.2 = some out2) (fun s => out2 = s) (([] : List Int), 0) fu hB1 ⟨A3, 0, 3, hf, H⟩ (fun s h => by cases h) ?_ ?_
 ·rintro fk ⟨out', i⟩ a w hR1 hI
  replace hR1 : impl_common_L1 fu a' b' (fk + 1) out' i = some out2 := hR1
  rw [impl_common_L1] at hR1
  obtain ⟨A4, c3, E, hf, H⟩ := hI
  refine sq (reg (pr 1 hf rfl rfl fun a hf => ?_))
  refine wl_end (then_n (sq (iteB hR1 (fun hc hR1 => cd_t hf rfl hc ?_) fun hc hR1 => cd_f hf rfl hc ?_)))
  ·refine wp_skip (then_n (sq (wp_block (sq (reg ?_)))))
   obtain ⟨e, he, hR1⟩ := bind_some hR1
   refine wl0 rfl (op_iaddr hf H Tryz.underlying44 TF.sz3 1 rfl rfl rfl he (by decide) fun p o cs a hf hr H => ?_)
   obtain rfl := hr
   refine wl0 rfl (op_q hf (rq_loadI hf H TF.ls3 0 0 rfl rfl rfl) rfl (by decide) fun a hf => ?_)
   refine pr 1 hf rfl rfl fun a hf => ?_
   refine wl_end (then_n (sq (reg (pr 2 hf rfl rfl fun a hf => ?_))))
   obtain ⟨y, hy, hR1⟩ := bind_some hR1
   refine wl0 rfl (op_call hf TF.cl203 rfl (by decide) (slices_Contains_int_int_ok (S := fun _ => True) (mk_list (rep_true (α := List Int) (H.get 1 rfl))) mk_int hy) fun v w a hp hf => ?_)
   obtain ⟨hb, hp⟩ := hp
   obtain rfl := VR_bool hp
   have H := H.keep hb
   refine wl_end (then_n (iteB hR1 (fun hc2 hR1 => cd_t hf rfl hc2 ?_) fun hc2 hR1 => cd_f hf rfl hc2 ?_))
   ·refine reg (pr 2 hf rfl rfl fun a hf => ?_)
    refine wl0 rfl (op_bslice hf H (.sh true) rfl 3 ([e] : List Int) [(.int .i64 e)] rfl (fun w => by kernel_rfl) rfl (by decide) rfl trivial (el1 (y := e) (rfl)) (by decide) fun A5 a w hf H => ?_)
    obtain ⟨l, hl, hR1⟩ := bind_some hR1
    refine wl0 rfl (op_appR hf H Tryz.underlying44 TF.ai3 rfl (by decide) 1 0 rfl rfl rfl rfl (.inr rfl) hl (by decide) fun E2 A6 c4 a w hf H => ?_)
    refine pr 1 hf rfl rfl fun a hf => ?_
    refine wl_end (blk_n (then_n (reg (pr 2 hf rfl rfl fun a hf => ?_))))
    refine wl_end ?_
    have hf := hf.prune [1, 5, 9, 10, 11] rfl
    have H := H.let [] [false, true] [] [1, 2] rfl rfl rfl rfl
    exact then_n ⟨(l, w64 (i + 1)), hR1, A6, c4, E2, hf, H⟩
   ·refine wp_skip (blk_n (then_n (reg (pr 2 hf rfl rfl fun a hf => ?_))))
    refine wl_end ?_
    have hf := hf.prune [1, 5, 9, 10, 11] rfl
    have H := H.let [] [true] [] [1, 2] rfl rfl rfl rfl
    exact then_n ⟨(out', w64 (i + 1)), hR1, A4, c3, E, hf, H⟩
  ·refine wp_exit (then_x (then_x (blk_e (?_))))
   have hf := hf.prune [1, 5, 9, 10, 11] rfl
   have H := H.let [] [true] [] [0, 1] rfl rfl rfl rfl
   exact ⟨(out', i), (Option.some.inj hR1).symm, A4, c3, E, hf, H⟩
 rintro a w ⟨⟨out3, i2⟩, rfl, A7, c5, E3, hf, H⟩
 try dsimp only at hF
 refine then_n (sq (reg (pr 1 hf rfl rfl fun a hf => ?_)))
 have H := H.rowOwn 0 rfl rfl
 obtain ⟨F, H⟩ := H.freezeOwn 0 rfl
 have H := H.lend 0 rfl
 obtain ⟨y2, hy2, hF⟩ := bind_some hF
 refine wl0 rfl (op_call hf TF.cl217 rfl (by decide) (slices_Sort_int_int_ok (S := fun _ => True) (F := F) (cs := [(.slice A7 out3.length c5)]) (H.ownAt 0 rfl) H.diNd.1 hy2) fun v2 w a hp2 hf => ?_)
 obtain ⟨hch, hv, F2, ho, hbk⟩ := hp2
 subst hv
 have H := H.wrote rfl hch ho hbk
 have H := H.arg (p := MP.val [(.slice A a'.length c)] a') hl
 have H := H.arg (p := MP.val [(.slice A2 b'.length c2)] b') hl2
 have H := H.lend 0 rfl
 refine wl_end (then_n (sq (reg (pr 1 hf rfl rfl fun a hf => ?_))))
 obtain ⟨y3, hy3, hF⟩ := bind_some hF
 refine wl0 rfl (op_call hf TF.cl218 rfl (by decide) (slices_Compact_int_int_ok (mk_list (H.get 0 rfl)) hy3) fun v3 w a hp3 hf => ?_)
 obtain ⟨hb2, hp3⟩ := hp3
 obtain ⟨A8, c6, rfl, hl3⟩ := VR_list hp3
 replace hl3 := H.res (f := MP.val [(.slice A8 y3.length c6)] y3) hl3
 have H := H.keep hb2
 have H := H.push (true, MP.val [(.slice A8 y3.length c6)] y3) hl3
 refine pr 1 hf rfl rfl fun a hf => ?_
 refine wl_end (then_n (wp_ret (?_)))
 obtain rfl := Option.some.inj hF
 refine ret_1 (fn := Tryz.f178) (r := .tmp 4) hf rfl (rv_tmp hf rfl) ?_
 exact ⟨_, rfl, H.bel, (mk_list (rep_end (α := List Int) (H.get 0 rfl)))⟩

/- loop.example/g00897/impl.collide -/
set_option maxHeartbeats 1000000 in
theorem impl_collide_ok {fu : Nat} {w0 : World} {S : Nat → Prop} {v0_ : Value} {v1_ : Value} {a' : Light} {b' : Light} {r : Bool} (h0 : VR w0 S v0_ a') (h1 : VR w0 S v1_ b') (hF : impl_collide fu a' b' = some r) :
    Calls Tryz.prog 114 [v0_, v1_].toArray w0 fun e w' => ∃ v, e = .returned v ∧ (Below w0.heap.size w0 w' ∧ VR w' (St ⟨w0, []⟩ S [] [] [] true) v r) := by
 obtain ⟨A, c, rfl, hl⟩ := Light_open h0
 obtain ⟨A2, c2, rfl, hl2⟩ := Light_open h1
 have H := Mem.start ⟨w0, []⟩ S
 have H := H.pushArg (MP.val [(.slice A a'.Route.Fibers.length c)] a'.Route.Fibers) hl
 have H := H.pushArg (MP.val [(.slice A2 b'.Route.Fibers.length c2)] b'.Route.Fibers) hl2
 refine enter Tryz.func114 rfl rfl (nle rfl) rfl fun a hf => ?_
 rw [impl_collide] at hF
 refine sq (reg (wl0 rfl (op_box hf H rfl rfl (by decide) fun b2 a w hf H => ?_)))
 refine wl0 rfl (op_box hf H rfl rfl (by decide) fun b3 a w hf H => ?_)
 refine pr 1 hf rfl rfl fun a hf => ?_
 refine wl_end (then_n (sq ?_))
 obtain ⟨c3, hGc3, hF⟩ := bind_some hF
 have fh := hf.prune [] rfl
 have Hm := H.let [false, false] [] [] [] rfl rfl rfl rfl
 refine midF 4 (.bool c3) fh Hm ?_ fun a w hf H => ?_
 ·refine drawn [] (bs := [false, false, false, false, false, false, false, false, false, false, false, false, false, false, false, false, false, false, false, false]) (fuel := 20) (Checked.mixed Tryz.checked) rfl rfl fun w hb => ?_
  have H := H.keep hb
  refine tp 0 rfl rfl hf (by kernel_rfl) (fun _ => trivial) rfl fun a hf => ?_
  refine strT (H.let [false, true] [] [] [] rfl rfl rfl rfl) (fun w H => trivial) fun hS => ?_
  refine tS 1 [] rfl rfl rfl rfl hf (by kernel_rfl) (by kernel_rfl) hS (fun w H => rq_loadBN hf H TF.la110 0 rfl rfl rfl rfl) fun a hf => ?_
  refine tp 3 rfl rfl hf (by kernel_rfl) (fun _ => hS) rfl fun a hf => ?_
  refine strT (H.let [true, true] [] [] [] rfl rfl rfl rfl) (fun w H => H.let [false, true] [] [] [] rfl rfl rfl rfl) fun hS => ?_
  refine tS 4 [] rfl rfl rfl rfl hf (by kernel_rfl) (by kernel_rfl) hS (fun w H => rq_loadBN hf H TF.la110 0 rfl rfl rfl rfl) fun a hf => ?_
  obtain ⟨y, hy, hGc3⟩ := bind_some hGc3
  refine n1 2 (by kernel_rfl) rfl rfl (op_call hf TF.cl128 rfl (by decide) (impl_maskOf_ok (S := fun _ => True) Block_mkv hy) fun v w a hp hf => ?_)
  obtain ⟨hb, hp⟩ := hp
  obtain rfl := VR_int hp
  have H := H.keep hb
  have hS := H.let [true, true] [] [] [] rfl rfl rfl rfl
  refine ⟨fun _ => hS, ?_⟩
  obtain ⟨y2, hy2, hGc3⟩ := bind_some hGc3
  refine n1 5 (by kernel_rfl) rfl rfl (op_call hf TF.cl128 rfl (by decide) (impl_maskOf_ok (S := fun _ => True) Block_mkv hy2) fun v2 w a hp2 hf => ?_)
  obtain ⟨hb2, hp2⟩ := hp2
  obtain rfl := VR_int hp2
  have H := H.keep hb2
  have hS := H.let [true, true] [] [] [] rfl rfl rfl rfl
  refine ⟨fun _ => hS, ?_⟩
  refine tp 6 rfl rfl hf (by kernel_rfl) (fun _ => hS) rfl fun a hf => ?_
  refine tp 7 rfl rfl hf (by kernel_rfl) (fun _ => hS) rfl fun a hf => ?_
  refine tp 8 rfl rfl hf (by kernel_rfl) (fun _ => hS) rfl fun a hf => ?_
  refine iteB hGc3 (fun hc hGc3 => ?_) fun hc hGc3 => ?_
  ·have hf := hf.lit 13 rfl hc
   refine tpg 9 rfl rfl rfl rfl hf (by kernel_rfl) (fun _ => hS) rfl fun a hf => ?_
   refine tpg 10 rfl rfl rfl rfl hf (by kernel_rfl) (fun _ => hS) rfl fun a hf => ?_
   refine tSg 11 [] rfl rfl rfl rfl rfl rfl hf (by kernel_rfl) (by kernel_rfl) hS (fun w H => rq_loadB hf H TF.ls44 1 rfl rfl rfl) fun a hf => ?_
   refine tpg 12 rfl rfl rfl rfl hf (by kernel_rfl) (fun _ => hS) rfl fun a hf => ?_
   refine tpg 13 rfl rfl rfl rfl hf (by kernel_rfl) (fun _ => hS) rfl fun a hf => ?_
   refine tSg 14 [] rfl rfl rfl rfl rfl rfl hf (by kernel_rfl) (by kernel_rfl) hS (fun w H => rq_loadB hf H TF.ls44 0 rfl rfl rfl) fun a hf => ?_
   obtain ⟨y3, hy3, hGc3⟩ := bind_some hGc3
   refine n1g 15 (by kernel_rfl) rfl rfl rfl rfl hf (op_call hf TF.cl178 rfl (by decide) (impl_common_ok (S := fun _ => True) (mk_list (rep_true (α := List Int) (H.get 1 rfl))) (mk_list (rep_true (α := List Int) (H.get 0 rfl))) hy3) fun v3 w a hp3 hf => ?_)
   obtain ⟨hb3, hp3⟩ := hp3
   obtain ⟨A3, c4, rfl, hl3⟩ := VR_list hp3
   replace hl3 := H.resF (f := MP.val [(.slice A3 y3.length c4)] y3) hl3
   have H := H.keep hb3
   have H := H.push (true, MP.val [(.slice A3 y3.length c4)] y3) hl3
   have hS := H.let [true, true] [] [] [] rfl rfl rfl rfl
   refine ⟨fun _ => hS, ?_⟩
   refine tpg 16 rfl rfl rfl rfl hf (by kernel_rfl) (fun _ => hS) rfl fun a hf => ?_
   refine tpg 17 rfl rfl rfl rfl hf (by kernel_rfl) (fun _ => hS) rfl fun a hf => ?_
   refine tp 18 rfl rfl hf (by kernel_rfl) (fun _ => hS) rfl fun a hf => ?_
   refine tp 19 rfl rfl hf (by kernel_rfl) (fun _ => hS) rfl fun a hf => ?_
   refine dn (by kernel_rfl) ?_
   obtain rfl := Option.some.inj hGc3
   have hf := hf.prune [4] rfl
   have H := H.let [false, false] [] [] [] rfl rfl rfl rfl
   exact ⟨hf, H⟩
  ·have hf := hf.lit 13 rfl hc
   refine tU 9 rfl rfl rfl rfl rfl rfl rfl hf (by kernel_rfl) (fun _ => hS) fun a hf => ?_
   refine tU 10 rfl rfl rfl rfl rfl rfl rfl hf (by kernel_rfl) (fun _ => hS) fun a hf => ?_
   refine tU 11 rfl rfl rfl rfl rfl rfl rfl hf (by kernel_rfl) (fun _ => hS) fun a hf => ?_
   refine tU 12 rfl rfl rfl rfl rfl rfl rfl hf (by kernel_rfl) (fun _ => hS) fun a hf => ?_
   refine tU 13 rfl rfl rfl rfl rfl rfl rfl hf (by kernel_rfl) (fun _ => hS) fun a hf => ?_
   refine tU 14 rfl rfl rfl rfl rfl rfl rfl hf (by kernel_rfl) (fun _ => hS) fun a hf => ?_
   refine tU 15 rfl rfl rfl rfl rfl rfl rfl hf (by kernel_rfl) (fun _ => hS) fun a hf => ?_
   refine tU 16 rfl rfl rfl rfl rfl rfl rfl hf (by kernel_rfl) (fun _ => hS) fun a hf => ?_
   refine tU 17 rfl rfl rfl rfl rfl rfl rfl hf (by kernel_rfl) (fun _ => hS) fun a hf => ?_
   refine tp 18 rfl rfl hf (by kernel_rfl) (fun _ => hS) rfl fun a hf => ?_
   refine tp 19 rfl rfl hf (by kernel_rfl) (fun _ => hS) rfl fun a hf => ?_
   refine dn (by kernel_rfl) ?_
   obtain rfl := Option.some.inj hGc3
   have hf := hf.prune [4] rfl
   have H := H.let [false, false] [] [] [] rfl rfl rfl rfl
   exact ⟨hf, H⟩
 refine then_n (wp_ret (?_))
 obtain rfl := Option.some.inj hF
 refine ret_1 (fn := Tryz.f114) (r := .tmp 4) hf rfl (rv_tmp hf rfl) ?_
 exact ⟨_, rfl, H.bel, mk_bool⟩

/- loop.example/g00897/impl.IsValidPlan$1 -/
set_option maxHeartbeats 1000000 in
theorem impl_IsValidPlan_c1_ok {fu : Nat} {w0 : World} {S : Nat → Prop} {v0_ : Value} {b1 o1 : Nat} {cs1 : List Value} {own : Light} {cap : Light} {r : Bool} (h0 : VR w0 S v0_ own) (hp1 : (MP.cells ⟨b1, o1, none⟩ cs1).pred w0 S) (hr1 : GoTy.rep w0 S cs1 cap) (hF : impl_IsValidPlan_c1 fu own cap = some r) :
    Calls Tryz.prog 136 [v0_, (.pointer (some ⟨b1, o1, none⟩))].toArray w0 fun e w' => ∃ v, e = .returned v ∧ (Below w0.heap.size w0 w' ∧ VR w' (St ⟨w0, []⟩ S [] [] [] true) v r) := by
 obtain ⟨A, c, rfl, hl⟩ := Light_open h0
 obtain ⟨A2, c2, rfl, hl2⟩ := Light_cells hr1
 have H := Mem.start ⟨w0, []⟩ S
 have H := H.pushArg (MP.val [(.slice A own.Route.Fibers.length c)] own.Route.Fibers) hl
 have H := H.pushArg (MP.val [(.slice A2 cap.Route.Fibers.length c2)] cap.Route.Fibers) hl2
 have H := H.pushArg (MP.cells ⟨b1, o1, none⟩ [(.int .i64 cap.Id), (.int .i64 cap.Route.Start), (.slice A2 cap.Route.Fibers.length c2), (.int .i64 cap.Block.First), (.int .i64 cap.Block.Count)]) hp1
 refine enter Tryz.func136 rfl rfl (nle rfl) rfl fun a hf => ?_
 rw [impl_IsValidPlan_c1] at hF
 refine sq (reg (wl0 rfl (op_box hf H rfl rfl (by decide) fun b' a w hf H => ?_)))
 refine pr 1 hf rfl rfl fun a hf => ?_
 refine wl_end (then_n (sq (reg (wl0 rfl (op_q hf (rq_loadBN hf H TF.la112 0 rfl rfl rfl rfl) rfl (by decide) fun a hf => ?_)))))
 refine wl0 rfl (op_q hf (rq_loadIN hf H TF.la112 0 0 rfl rfl rfl rfl) rfl (by decide) fun a hf => ?_)
 obtain ⟨y, hy, hF⟩ := bind_some hF
 refine wl0 rfl (op_call hf TF.cl114 rfl (by decide) (impl_collide_ok (S := fun _ => True) (Light_mkv (x := own) (rep_true (α := List Int) (H.get 2 rfl))) (Light_mkv (x := cap) (rep_true (α := List Int) (H.get 1 rfl))) hy) fun v w a hp hf => ?_)
 obtain ⟨hb, hp⟩ := hp
 obtain rfl := VR_bool hp
 have H := H.keep hb
 refine pr 1 hf rfl rfl fun a hf => ?_
 refine wl_end (then_n (wp_ret (?_)))
 obtain rfl := Option.some.inj hF
 refine ret_1 (fn := Tryz.f136) (r := .tmp 3) hf rfl (rv_tmp hf rfl) ?_
 exact ⟨_, rfl, H.bel, mk_bool⟩

/- slices.IndexFunc[[]loop.example/g00897/impl.Light,loop.example/g00897/impl.Light] -/
set_option maxHeartbeats 1000000 in
theorem slices_IndexFunc_impl_Light_impl_Light_of_IsValidPlan_c1_ok {fu : Nat} {w0 : World} {S : Nat → Prop} {v0_ : Value} {b1_0 o1_0 : Nat} {cs1_0 : List Value} {s' : List Light} {cap : Light} {r : Int} (h0 : VR w0 S v0_ s') (hp1_0 : (MP.cells ⟨b1_0, o1_0, none⟩ cs1_0).pred w0 S) (hr1_0 : GoTy.rep w0 S cs1_0 cap) (hF : slices_IndexFunc_impl_Light_impl_Light_of_IsValidPlan_c1 fu s' cap = some r) :
    Calls Tryz.prog 167 [v0_, (.func (.func 136) #[] #[(.pointer (some ⟨b1_0, o1_0, none⟩))])].toArray w0 fun e w' => ∃ v, e = .returned v ∧ (Below w0.heap.size w0 w' ∧ VR w' (St ⟨w0, []⟩ S [] [] [] true) v r) := by
 obtain ⟨A, c, rfl, hl⟩ := VR_list h0
 obtain ⟨A2, c2, rfl, hl2⟩ := Light_cells hr1_0
 have H := Mem.start ⟨w0, []⟩ S
 have H := H.pushArg (MP.val [(.slice A s'.length c)] s') hl
 have H := H.pushArg (MP.val [(.slice A2 cap.Route.Fibers.length c2)] cap.Route.Fibers) hl2
 have H := H.pushArg (MP.cells ⟨b1_0, o1_0, none⟩ [(.int .i64 cap.Id), (.int .i64 cap.Route.Start), (.slice A2 cap.Route.Fibers.length c2), (.int .i64 cap.Block.First), (.int .i64 cap.Block.Count)]) hp1_0
 refine enter Tryz.func167 rfl rfl (nle rfl) rfl fun a hf => ?_
 rw [slices_IndexFunc_impl_Light_impl_Light_of_IsValidPlan_c1] at hF
 refine sq (reg (pr 1 hf rfl rfl fun a hf => ?_))
 refine wl_end (then_n (sq (sq (reg (pr 3 hf rfl rfl fun a hf => ?_)))))
 refine wl_end (then_n ?_)
 obtain ⟨out', hB1, hF⟩ := bind_some hF
 have hf := hf.prune [0, 1, 7, 8] rfl
 have H := H.let [] [] [] [0, 1, 2] rfl rfl rfl rfl
 refine loopC (fun (s : Int) (a : Act) (w : World) => match s with | i => Fr a 19 [(0, (.slice A s'.length c)), (1, (.func (.func 136) #[] #[(.pointer (some ⟨b1_0, o1_0 + 0, none⟩))])), (7, (.int .i64 (s'.length : Int))), (8, (.int .i64 i))] ∧ Mem ⟨w0, []⟩ S [] [] [] [(false, MP.cells ⟨b1_0, o1_0, none⟩ [(.int .i64 cap.Id), (.int .i64 cap.Route.Start), (.slice A2 cap.Route.Fibers.length c2), (.int .i64 cap.Block.First), (.int .i64 cap.Block.Count)]), (false, MP.val [(.slice A2 cap.Route.Fibers.length c2)] (cap.Route.Fibers : List Int)), (false, MP.val [(.slice A s'.length c)] (s' : List Light))] w) (fun k (s : Int) => slices_IndexFunc_impl_Light_impl_Light_of_IsValidPlan_c1_L1 fu s' cap k s = some out') (fun s => out' = Out.next s) 0 fu hB1 ⟨hf, H⟩ (fun s h => by cases h) ?_ ?_
 ·rintro fk i a w hR1 hI
  replace hR1 : slices_IndexFunc_impl_Light_impl_Light_of_IsValidPlan_c1_L1 fu s' cap (fk + 1) i = some out' := hR1
  rw [slices_IndexFunc_impl_Light_impl_Light_of_IsValidPlan_c1_L1] at hR1
  obtain ⟨hf, H⟩ := hI
  refine sq (reg (pr 1 hf rfl rfl fun a hf => ?_))
  refine wl_end (then_n (sq (iteB hR1 (fun hc hR1 => cd_t hf rfl hc ?_) fun hc hR1 => cd_f hf rfl hc ?_)))
  ·refine wp_skip (then_n (sq (wp_block (sq (reg (pr 2 hf rfl rfl fun a hf => ?_))))))
   refine wl_end (then_n (sq (reg (pr 3 hf rfl rfl fun a hf => ?_))))
   obtain ⟨e, he, hR1⟩ := bind_some hR1
   refine wl0 rfl (op_iaddr hf H Tryz.underlying35 TF.sz112 2 rfl rfl rfl he (by decide) fun p o cs a hf hr H => ?_)
   obtain ⟨A3, c3, rfl, hl3⟩ := Light_cells hr
   have H := H.push (false, MP.val [(.slice A3 e.Route.Fibers.length c3)] e.Route.Fibers) hl3
   refine wl0 rfl (op_q hf (rq_loadIN hf H TF.la112 1 0 rfl rfl rfl rfl) rfl (by decide) fun a hf => ?_)
   obtain ⟨y, hy, hR1⟩ := bind_some hR1
   refine wl0 rfl (op_callV hf TF.cl136 rfl rfl (by decide) (impl_IsValidPlan_c1_ok (S := fun _ => True) (Light_mkv (x := e) (rep_true (α := List Int) (H.get 0 rfl))) (mp_true (H.get 2 rfl)) ((Light_mk (x := cap) (rep_true (α := List Int) (H.get 3 rfl)))) hy) fun v w a hp hf => ?_)
   obtain ⟨hb, hp⟩ := hp
   obtain rfl := VR_bool hp
   have H := H.keep hb
   refine wl_end (then_n (iteB hR1 (fun hc2 hR1 => cd_t hf rfl hc2 ?_) fun hc2 hR1 => cd_f hf rfl hc2 ?_))
   ·refine sq (reg (pr 2 hf rfl rfl fun a hf => ?_))
    have hf := hf.prune [4] rfl
    refine wl_end (then_n (wp_ret (blk_r (then_r (then_r (blk_r (then_r (then_r (?_)))))))))
    obtain rfl := Option.some.inj hR1
    replace hF := on_ret hF
    obtain rfl := Option.some.inj hF
    refine ret_1 (fn := Tryz.f167) (r := .tmp 4) hf rfl (rv_tmp hf rfl) ?_
    exact ⟨_, rfl, H.bel, mk_int⟩
   ·refine wp_skip (blk_n (then_n (reg (pr 2 hf rfl rfl fun a hf => ?_))))
    refine wl_end ?_
    have hf := hf.prune [0, 1, 7, 8] rfl
    have H := H.let [] [] [] [2, 3, 4] rfl rfl rfl rfl
    exact then_n ⟨w64 (i + 1), hR1, hf, H⟩
  ·refine wp_exit (then_x (then_x (blk_e (?_))))
   have hf := hf.prune [0, 1, 7, 8] rfl
   have H := H.let [] [] [] [0, 1, 2] rfl rfl rfl rfl
   exact ⟨i, (Option.some.inj hR1).symm, hf, H⟩
 rintro a w ⟨i2, rfl, hf, H⟩
 replace hF := on_next hF
 refine then_n (sq (reg (pr 1 hf rfl rfl fun a hf => ?_)))
 refine wl_end (then_n (wp_ret (?_)))
 obtain rfl := Option.some.inj hF
 refine ret_1 (fn := Tryz.f167) (r := .tmp 4) hf rfl (rv_tmp hf rfl) ?_
 exact ⟨_, rfl, H.bel, mk_int⟩

/- slices.ContainsFunc[[]loop.example/g00897/impl.Light,loop.example/g00897/impl.Light] -/
set_option maxHeartbeats 1000000 in
theorem slices_ContainsFunc_impl_Light_impl_Light_of_IsValidPlan_c1_ok {fu : Nat} {w0 : World} {S : Nat → Prop} {v0_ : Value} {b1_0 o1_0 : Nat} {cs1_0 : List Value} {s' : List Light} {cap : Light} {r : Bool} (h0 : VR w0 S v0_ s') (hp1_0 : (MP.cells ⟨b1_0, o1_0, none⟩ cs1_0).pred w0 S) (hr1_0 : GoTy.rep w0 S cs1_0 cap) (hF : slices_ContainsFunc_impl_Light_impl_Light_of_IsValidPlan_c1 fu s' cap = some r) :
    Calls Tryz.prog 129 [v0_, (.func (.func 136) #[] #[(.pointer (some ⟨b1_0, o1_0, none⟩))])].toArray w0 fun e w' => ∃ v, e = .returned v ∧ (Below w0.heap.size w0 w' ∧ VR w' (St ⟨w0, []⟩ S [] [] [] true) v r) := by
 obtain ⟨A, c, rfl, hl⟩ := VR_list h0
 obtain ⟨A2, c2, rfl, hl2⟩ := Light_cells hr1_0
 have H := Mem.start ⟨w0, []⟩ S
 have H := H.pushArg (MP.val [(.slice A s'.length c)] s') hl
 have H := H.pushArg (MP.val [(.slice A2 cap.Route.Fibers.length c2)] cap.Route.Fibers) hl2
 have H := H.pushArg (MP.cells ⟨b1_0, o1_0, none⟩ [(.int .i64 cap.Id), (.int .i64 cap.Route.Start), (.slice A2 cap.Route.Fibers.length c2), (.int .i64 cap.Block.First), (.int .i64 cap.Block.Count)]) hp1_0
 refine enter Tryz.func129 rfl rfl (nle rfl) rfl fun a hf => ?_
 rw [slices_ContainsFunc_impl_Light_impl_Light_of_IsValidPlan_c1] at hF
 refine sq (reg (pr 1 hf rfl rfl fun a hf => ?_))
 refine wl_end (then_n (sq (reg (pr 2 hf rfl rfl fun a hf => ?_))))
 obtain ⟨y, hy, hF⟩ := bind_some hF
 refine wl0 rfl (op_call hf TF.cl167 rfl (by decide) (slices_IndexFunc_impl_Light_impl_Light_of_IsValidPlan_c1_ok (S := fun _ => True) (mk_list (rep_true (α := List Light) (H.get 2 rfl))) (mp_true (H.get 0 rfl)) ((Light_mk (x := cap) (rep_true (α := List Int) (H.get 1 rfl)))) hy) fun v w a hp hf => ?_)
 obtain ⟨hb, hp⟩ := hp
 obtain rfl := VR_int hp
 have H := H.keep hb
 refine pr 2 hf rfl rfl fun a hf => ?_
 refine wl_end (then_n (wp_ret (?_)))
 obtain rfl := Option.some.inj hF
 refine ret_1 (fn := Tryz.f129) (r := .tmp 4) hf rfl (rv_tmp hf rfl) ?_
 exact ⟨_, rfl, H.bel, mk_bool⟩

/- loop.example/g00897/impl.IsValidPlan -/
set_option maxHeartbeats 1000000 in
theorem impl_IsValidPlan_ok {fu : Nat} {w0 : World} {S : Nat → Prop} {v0_ : Value} {p : Plan} {r : Bool} (h0 : VR w0 S v0_ p) (hF : impl_IsValidPlan fu p = some r) :
    Calls Tryz.prog 72 [v0_].toArray w0 fun e w' => ∃ v, e = .returned v ∧ (Below w0.heap.size w0 w' ∧ VR w' (St ⟨w0, []⟩ S [] [] [] true) v r) := by
 obtain ⟨A, c, A2, c2, A3, c3, rfl, hl, hl2, hl3⟩ := Plan_open h0
 have H := Mem.start ⟨w0, []⟩ S
 have H := H.pushArg (MP.val [(.slice A p.Network.Nodes.length c)] p.Network.Nodes) hl
 have H := H.pushArg (MP.val [(.slice A2 p.Network.Fibers.length c2)] p.Network.Fibers) hl2
 have H := H.pushArg (MP.val [(.slice A3 p.Lights.length c3)] p.Lights) hl3
 refine enter Tryz.func72 rfl rfl (nle rfl) rfl fun a hf => ?_
 rw [impl_IsValidPlan] at hF
 refine sq (reg (wl0 rfl (op_box hf H rfl rfl (by decide) fun b' a w hf H => ?_)))
 refine pr 1 hf rfl rfl fun a hf => ?_
 refine wl_end (then_n (sq (sq ?_)))
 obtain ⟨c4, hGc4, hF⟩ := bind_some hF
 have fh := hf.prune [1] rfl
 have Hm := H.let [true] [] [] [0, 1, 2] rfl rfl rfl rfl
 refine midF 14 (.bool c4) fh Hm ?_ fun a w hf H => ?_
 ·refine reg (pr 1 hf rfl rfl fun a hf => ?_)
  refine wl0 rfl (op_q hf (rq_loadBN hf H TF.la34 0 rfl rfl rfl rfl) rfl (by decide) fun a hf => ?_)
  obtain ⟨y, hy, hGc4⟩ := bind_some hGc4
  refine wl0 rfl (op_call hf TF.cl134 rfl (by decide) (impl_IsValidNetwork_ok (S := fun _ => True) (Network_mkv (x := p.Network) (rep_true (α := List ByteArray) (H.get 2 rfl)) (rep_true (α := List Fiber) (H.get 1 rfl))) hy) fun v w a hp hf => ?_)
  obtain ⟨hb, hp⟩ := hp
  obtain rfl := VR_bool hp
  have H := H.keep hb
  refine pr 2 hf rfl rfl fun a hf => ?_
  refine iteB hGc4 (fun hc hGc4 => ?_) fun hc hGc4 => ?_
  ·have hf := hf.lit 9 rfl hc
   refine pr 5 hf rfl rfl fun a hf => ?_
   obtain rfl := Option.some.inj hGc4
   have hf := hf.prune [14, 1] rfl
   have H := H.let [true] [] [] [0, 1, 2] rfl rfl rfl rfl
   exact wl_end ⟨hf, H⟩
  ·have hf := hf.lit 9 rfl hc
   refine pr 1 hf rfl rfl fun a hf => ?_
   refine wlg hf rfl rfl rfl (op_q hf (rq_loadB hf H TF.ls35 0 rfl rfl rfl) rfl (by decide) fun a hf => ?_)
   refine pr 3 hf rfl rfl fun a hf => ?_
   obtain rfl := Option.some.inj hGc4
   have hf := hf.prune [14, 1] rfl
   have H := H.let [true] [] [] [0, 1, 2] rfl rfl rfl rfl
   exact wl_end ⟨hf, H⟩
 refine then_n (iteB hF (fun hc2 hF => cd_t hf rfl hc2 ?_) fun hc2 hF => cd_f hf rfl hc2 ?_)
 ·refine sq (reg (pr 1 hf rfl rfl fun a hf => ?_))
  refine wl_end (then_n (wp_ret (then_r (?_))))
  obtain rfl := Option.some.inj hF
  refine ret_1 (fn := Tryz.f72) (r := .tmp 2) hf rfl (rv_tmp hf rfl) ?_
  exact ⟨_, rfl, H.bel, mk_bool⟩
 ·refine wp_skip (then_n (sq (sq (reg (pr 1 hf rfl rfl fun a hf => ?_)))))
  refine wl0 rfl (op_q hf (rq_loadB hf H TF.ls35 0 rfl rfl rfl) rfl (by decide) fun a hf => ?_)
  refine pr 2 hf rfl rfl fun a hf => ?_
  refine wl_end (then_n ?_)
  obtain ⟨out', hB1, hF⟩ := bind_some hF
  have hf := hf.prune [1, 16, 17, 18] rfl
  have H := H.let [true] [] [] [0, 1, 2] rfl rfl rfl rfl
  refine loopC (fun (s : Int) (a : Act) (w : World) => match s with | i => Fr a 53 [(1, (.pointer (some ⟨b', 0, none⟩))), (16, (.slice A3 p.Lights.length c3)), (17, (.int .i64 (p.Lights.length : Int))), (18, (.int .i64 i))] ∧ Mem ⟨w0, []⟩ S [⟨b', 37, [(.slice A p.Network.Nodes.length c), (.slice A2 p.Network.Fibers.length c2), (.slice A3 p.Lights.length c3)]⟩] [] [] [(false, MP.val [(.slice A3 p.Lights.length c3)] (p.Lights : List Light)), (false, MP.val [(.slice A2 p.Network.Fibers.length c2)] (p.Network.Fibers : List Fiber)), (false, MP.val [(.slice A p.Network.Nodes.length c)] (p.Network.Nodes : List ByteArray))] w) (fun k (s : Int) => impl_IsValidPlan_L1 fu p k s = some out') (fun s => out' = Out.next s) 0 fu hB1 ⟨hf, H⟩ (fun s h => by cases h) ?_ ?_
  ·rintro fk i a w hR1 hI
   replace hR1 : impl_IsValidPlan_L1 fu p (fk + 1) i = some out' := hR1
   rw [impl_IsValidPlan_L1] at hR1
   obtain ⟨hf, H⟩ := hI
   refine sq (reg (pr 1 hf rfl rfl fun a hf => ?_))
   refine wl_end (then_n (sq (iteB hR1 (fun hc3 hR1 => cd_t hf rfl hc3 ?_) fun hc3 hR1 => cd_f hf rfl hc3 ?_)))
   ·refine wp_skip (then_n (sq (wp_block (sq (reg (pr 1 hf rfl rfl fun a hf => ?_))))))
    obtain ⟨e, he, hR1⟩ := bind_some hR1
    refine wl0 rfl (op_iaddr hf H Tryz.underlying35 TF.sz112 0 rfl rfl rfl he (by decide) fun p2 o cs a hf hr H => ?_)
    obtain ⟨A4, c5, rfl, hl4⟩ := Light_cells hr
    have H := H.push (false, MP.val [(.slice A4 e.Route.Fibers.length c5)] e.Route.Fibers) hl4
    refine wl0 rfl (op_q hf (rq_loadIN hf H TF.la112 1 0 rfl rfl rfl rfl) rfl (by decide) fun a hf => ?_)
    refine wl0 rfl (op_alloc hf H TF.zv112 rfl (by decide) fun b2 a w hf H => ?_)
    refine pr 1 hf rfl rfl fun a hf => ?_
    refine wl0 rfl (op_storeB hf H 0 TF.sz112 rfl rfl rfl rfl rfl rfl (nle rfl) fun w H => ?_)
    refine wl_end (then_n (sq ?_))
    obtain ⟨c6, hGc6, hR1⟩ := bind_some hR1
    have fh2 := hf.prune [1, 16, 17, 18] rfl
    have Hm2 := H.let [false, true] [] [] [2, 3, 4] rfl rfl rfl rfl
    refine midF 51 (.bool c6) fh2 Hm2 ?_ fun a w hf H => ?_
    ·refine drawn [] (bs := [false, false, false, false, false, false, false, false, false, false, false, false, false, false, false, false, false, false, false, false, false, false, false, false, false, false, false, false, false]) (fuel := 29) (Checked.mixed Tryz.checked) rfl rfl fun w hb => ?_
     have H := H.keep hb
     refine tp 0 rfl rfl hf (by kernel_rfl) (fun _ => trivial) rfl fun a hf => ?_
     refine strT (H.let [false, true] [] [] [] rfl rfl rfl rfl) (fun w H => trivial) fun hS => ?_
     refine tS 1 [] rfl rfl rfl rfl hf (by kernel_rfl) (by kernel_rfl) hS (fun w H => rq_loadBN hf H TF.la34 0 rfl rfl rfl rfl) fun a hf => ?_
     refine strT (H.let [true, true] [] [] [] rfl rfl rfl rfl) (fun w H => H.let [false, true] [] [] [] rfl rfl rfl rfl) fun hS => ?_
     refine tS 2 [] rfl rfl rfl rfl hf (by kernel_rfl) (by kernel_rfl) hS (fun w H => rq_loadBN hf H TF.la112 0 rfl rfl rfl rfl) fun a hf => ?_
     obtain ⟨y2, hy2, hGc6⟩ := bind_some hGc6
     refine n1 3 (by kernel_rfl) rfl rfl (op_call hf TF.cl135 rfl (by decide) (impl_isLight_ok (S := fun _ => True) (Network_mkv (x := p.Network) (rep_true (α := List ByteArray) (H.get 4 rfl)) (rep_true (α := List Fiber) (H.get 3 rfl))) (Light_mkv (x := e) (rep_true (α := List Int) (H.get 0 rfl))) hy2) fun v2 w a hp2 hf => ?_)
     obtain ⟨hb2, hp2⟩ := hp2
     obtain rfl := VR_bool hp2
     have H := H.keep hb2
     have hS := H.let [true, true] [] [] [] rfl rfl rfl rfl
     refine ⟨fun _ => hS, ?_⟩
     refine tp 4 rfl rfl hf (by kernel_rfl) (fun _ => hS) rfl fun a hf => ?_
     refine tp 5 rfl rfl hf (by kernel_rfl) (fun _ => hS) rfl fun a hf => ?_
     refine iteB hGc6 (fun hc4 hGc6 => ?_) fun hc4 hGc6 => ?_
     ·have hf := hf.lit 28 rfl hc4
      refine tU 6 rfl rfl rfl rfl rfl rfl rfl hf (by kernel_rfl) (fun _ => hS) fun a hf => ?_
      refine tU 7 rfl rfl rfl rfl rfl rfl rfl hf (by kernel_rfl) (fun _ => hS) fun a hf => ?_
      refine tU 8 rfl rfl rfl rfl rfl rfl rfl hf (by kernel_rfl) (fun _ => hS) fun a hf => ?_
      refine tUU 9 rfl rfl rfl rfl rfl rfl hf (by kernel_rfl) (fun _ => hS) fun a hf => ?_
      refine tUU 10 rfl rfl rfl rfl rfl rfl hf (by kernel_rfl) (fun _ => hS) fun a hf => ?_
      refine tUU 11 rfl rfl rfl rfl rfl rfl hf (by kernel_rfl) (fun _ => hS) fun a hf => ?_
      refine tUU 12 rfl rfl rfl rfl rfl rfl hf (by kernel_rfl) (fun _ => hS) fun a hf => ?_
      refine tUU 13 rfl rfl rfl rfl rfl rfl hf (by kernel_rfl) (fun _ => hS) fun a hf => ?_
      refine tUU 14 rfl rfl rfl rfl rfl rfl hf (by kernel_rfl) (fun _ => hS) fun a hf => ?_
      refine tUU 15 rfl rfl rfl rfl rfl rfl hf (by kernel_rfl) (fun _ => hS) fun a hf => ?_
      refine tUU 16 rfl rfl rfl rfl rfl rfl hf (by kernel_rfl) (fun _ => hS) fun a hf => ?_
      refine tUU 17 rfl rfl rfl rfl rfl rfl hf (by kernel_rfl) (fun _ => hS) fun a hf => ?_
      refine tUU 18 rfl rfl rfl rfl rfl rfl hf (by kernel_rfl) (fun _ => hS) fun a hf => ?_
      refine tU 19 rfl rfl rfl rfl rfl rfl rfl hf (by kernel_rfl) (fun _ => hS) fun a hf => ?_
      refine tp 20 rfl rfl hf (by kernel_rfl) (fun _ => hS) rfl fun a hf => ?_
      refine tp 21 rfl rfl hf (by kernel_rfl) (fun _ => hS) rfl fun a hf => ?_
      refine tU 22 rfl rfl rfl rfl rfl rfl rfl hf (by kernel_rfl) (fun _ => hS) fun a hf => ?_
      refine tU 23 rfl rfl rfl rfl rfl rfl rfl hf (by kernel_rfl) (fun _ => hS) fun a hf => ?_
      refine tU 24 rfl rfl rfl rfl rfl rfl rfl hf (by kernel_rfl) (fun _ => hS) fun a hf => ?_
      refine tU 25 rfl rfl rfl rfl rfl rfl rfl hf (by kernel_rfl) (fun _ => hS) fun a hf => ?_
      refine tU 26 rfl rfl rfl rfl rfl rfl rfl hf (by kernel_rfl) (fun _ => hS) fun a hf => ?_
      refine tU 27 rfl rfl rfl rfl rfl rfl rfl hf (by kernel_rfl) (fun _ => hS) fun a hf => ?_
      refine tp 28 rfl rfl hf (by kernel_rfl) (fun _ => hS) rfl fun a hf => ?_
      refine dn (by kernel_rfl) ?_
      obtain rfl := Option.some.inj hGc6
      have hf := hf.prune [51, 1, 16, 17, 18] rfl
      have H := H.let [false, true] [] [] [2, 3, 4] rfl rfl rfl rfl
      exact ⟨hf, H⟩
     ·have hf := hf.lit 28 rfl hc4
      refine tpg 6 rfl rfl rfl rfl hf (by kernel_rfl) (fun _ => hS) rfl fun a hf => ?_
      refine tpg 7 rfl rfl rfl rfl hf (by kernel_rfl) (fun _ => hS) rfl fun a hf => ?_
      refine tpg 8 rfl rfl rfl rfl hf (by kernel_rfl) (fun _ => hS) rfl fun a hf => ?_
      refine iteB hGc6 (fun hc5 hGc6 => ?_) fun hc5 hGc6 => ?_
      ·have hf := hf.lit 31 rfl hc5
       refine tpg 9 rfl rfl rfl rfl hf (by kernel_rfl) (fun _ => hS) rfl fun a hf => ?_
       refine tSg 10 [] rfl rfl rfl rfl rfl rfl hf (by kernel_rfl) (by kernel_rfl) hS (fun w H => rq_loadB hf H TF.ls35 1 rfl rfl rfl) fun a hf => ?_
       refine tpg 11 rfl rfl rfl rfl hf (by kernel_rfl) (fun _ => hS) rfl fun a hf => ?_
       refine tpg 12 rfl rfl rfl rfl hf (by kernel_rfl) (fun _ => hS) rfl fun a hf => ?_
       obtain ⟨e2, he2, hGc6⟩ := bind_some hGc6
       obtain ⟨p3, o2, cs2, hx, hr2, H⟩ := pre_iaddr H Tryz.underlying35 TF.sz112 2 rfl he2
       refine tPg 13 rfl rfl rfl rfl rfl rfl hf (by kernel_rfl) (fun _ => hS) (fun w => rq_iaddrE hf rfl rfl rfl hx w) fun a hf => ?_
       obtain ⟨A5, c7, rfl, hl5⟩ := Light_cells hr2
       have H := H.push (false, MP.val [(.slice A5 e2.Route.Fibers.length c7)] e2.Route.Fibers) hl5
       refine tpg 14 rfl rfl rfl rfl hf (by kernel_rfl) (fun _ => hS) rfl fun a hf => ?_
       refine strT (H.let [true, true] [] [] [1] rfl rfl rfl rfl) (fun w H => H.let [true, true] [] [] [] rfl rfl rfl rfl) fun hS => ?_
       refine tSg 15 [] rfl rfl rfl rfl rfl rfl hf (by kernel_rfl) (by kernel_rfl) hS (fun w H => rq_loadI hf H TF.ls3 0 0 rfl rfl rfl) fun a hf => ?_
       refine tpg 16 rfl rfl rfl rfl hf (by kernel_rfl) (fun _ => hS) rfl fun a hf => ?_
       refine tSg 17 [] rfl rfl rfl rfl rfl rfl hf (by kernel_rfl) (by kernel_rfl) hS (fun w H => rq_loadB hf H TF.ls3 0 rfl rfl rfl) fun a hf => ?_
       refine tpg 18 rfl rfl rfl rfl hf (by kernel_rfl) (fun _ => hS) rfl fun a hf => ?_
       refine tpg 19 rfl rfl rfl rfl hf (by kernel_rfl) (fun _ => hS) rfl fun a hf => ?_
       refine tp 20 rfl rfl hf (by kernel_rfl) (fun _ => hS) rfl fun a hf => ?_
       refine tp 21 rfl rfl hf (by kernel_rfl) (fun _ => hS) rfl fun a hf => ?_
       refine iteB hGc6 (fun hc6 hGc6 => ?_) fun hc6 hGc6 => ?_
       ·have hf := hf.lit 44 rfl hc6
        refine tU 22 rfl rfl rfl rfl rfl rfl rfl hf (by kernel_rfl) (fun _ => hS) fun a hf => ?_
        refine tU 23 rfl rfl rfl rfl rfl rfl rfl hf (by kernel_rfl) (fun _ => hS) fun a hf => ?_
        refine tU 24 rfl rfl rfl rfl rfl rfl rfl hf (by kernel_rfl) (fun _ => hS) fun a hf => ?_
        refine tU 25 rfl rfl rfl rfl rfl rfl rfl hf (by kernel_rfl) (fun _ => hS) fun a hf => ?_
        refine tU 26 rfl rfl rfl rfl rfl rfl rfl hf (by kernel_rfl) (fun _ => hS) fun a hf => ?_
        refine tU 27 rfl rfl rfl rfl rfl rfl rfl hf (by kernel_rfl) (fun _ => hS) fun a hf => ?_
        refine tp 28 rfl rfl hf (by kernel_rfl) (fun _ => hS) rfl fun a hf => ?_
        refine dn (by kernel_rfl) ?_
        obtain rfl := Option.some.inj hGc6
        have hf := hf.prune [51, 1, 16, 17, 18] rfl
        have H := H.let [false, true] [] [] [4, 5, 6] rfl rfl rfl rfl
        exact ⟨hf, H⟩
       ·have hf := hf.lit 44 rfl hc6
        refine tpg 22 rfl rfl rfl rfl hf (by kernel_rfl) (fun _ => hS) rfl fun a hf => ?_
        refine tSg 23 [] rfl rfl rfl rfl rfl rfl hf (by kernel_rfl) (by kernel_rfl) hS (fun w H => rq_loadB hf H TF.ls35 1 rfl rfl rfl) fun a hf => ?_
        refine tpg 24 rfl rfl rfl rfl hf (by kernel_rfl) (fun _ => hS) rfl fun a hf => ?_
        obtain ⟨l, hl, hGc6⟩ := bind_some hGc6
        obtain ⟨A6, c8, hx2, H⟩ := pre_slice H Tryz.underlying35 TF.sz112 4 (lov := none) (hiv := some (.int .i64 i)) (.inl ⟨rfl, rfl⟩) (.inr rfl) rfl hl
        refine tPg 25 rfl rfl rfl rfl rfl rfl hf (by kernel_rfl) (fun _ => hS) (fun w => rq_sliceE hf rfl rfl rfl hx2 w) fun a hf => ?_
        refine n1g 26 (by kernel_rfl) rfl rfl rfl rfl hf (op_q hf (rq_makeFunc hf rfl) rfl (by decide) fun a hf => ?_)
        have hS := H.let [true, true] [] [] [2] rfl rfl rfl rfl
        refine ⟨fun _ => hS, ?_⟩
        obtain ⟨y3, hy3, hGc6⟩ := bind_some hGc6
        refine n1g 27 (by kernel_rfl) rfl rfl rfl rfl hf (op_call hf TF.cl129 rfl (by decide) (slices_ContainsFunc_impl_Light_impl_Light_of_IsValidPlan_c1_ok (S := fun _ => True) (mk_list (rep_true (α := List Light) (H.get 0 rfl))) (H.boxTrue 0 rfl) ((Light_mk (x := e) (rep_true (α := List Int) (H.get 3 rfl)))) hy3) fun v3 w a hp3 hf => ?_)
        obtain ⟨hb3, hp3⟩ := hp3
        obtain rfl := VR_bool hp3
        have H := H.keep hb3
        have hS := H.let [true, true] [] [] [2] rfl rfl rfl rfl
        refine ⟨fun _ => hS, ?_⟩
        refine tp 28 rfl rfl hf (by kernel_rfl) (fun _ => hS) rfl fun a hf => ?_
        refine dn (by kernel_rfl) ?_
        obtain rfl := Option.some.inj hGc6
        have hf := hf.prune [51, 1, 16, 17, 18] rfl
        have H := H.let [false, true] [] [] [5, 6, 7] rfl rfl rfl rfl
        exact ⟨hf, H⟩
      ·have hf := hf.lit 31 rfl hc5
       refine tU 9 rfl rfl rfl rfl rfl rfl rfl hf (by kernel_rfl) (fun _ => hS) fun a hf => ?_
       refine tU 10 rfl rfl rfl rfl rfl rfl rfl hf (by kernel_rfl) (fun _ => hS) fun a hf => ?_
       refine tU 11 rfl rfl rfl rfl rfl rfl rfl hf (by kernel_rfl) (fun _ => hS) fun a hf => ?_
       refine tU 12 rfl rfl rfl rfl rfl rfl rfl hf (by kernel_rfl) (fun _ => hS) fun a hf => ?_
       refine tU 13 rfl rfl rfl rfl rfl rfl rfl hf (by kernel_rfl) (fun _ => hS) fun a hf => ?_
       refine tU 14 rfl rfl rfl rfl rfl rfl rfl hf (by kernel_rfl) (fun _ => hS) fun a hf => ?_
       refine tU 15 rfl rfl rfl rfl rfl rfl rfl hf (by kernel_rfl) (fun _ => hS) fun a hf => ?_
       refine tU 16 rfl rfl rfl rfl rfl rfl rfl hf (by kernel_rfl) (fun _ => hS) fun a hf => ?_
       refine tU 17 rfl rfl rfl rfl rfl rfl rfl hf (by kernel_rfl) (fun _ => hS) fun a hf => ?_
       refine tU 18 rfl rfl rfl rfl rfl rfl rfl hf (by kernel_rfl) (fun _ => hS) fun a hf => ?_
       refine tpg 19 rfl rfl rfl rfl hf (by kernel_rfl) (fun _ => hS) rfl fun a hf => ?_
       refine tp 20 rfl rfl hf (by kernel_rfl) (fun _ => hS) rfl fun a hf => ?_
       refine tp 21 rfl rfl hf (by kernel_rfl) (fun _ => hS) rfl fun a hf => ?_
       refine tpg 22 rfl rfl rfl rfl hf (by kernel_rfl) (fun _ => hS) rfl fun a hf => ?_
       refine tSg 23 [] rfl rfl rfl rfl rfl rfl hf (by kernel_rfl) (by kernel_rfl) hS (fun w H => rq_loadB hf H TF.ls35 1 rfl rfl rfl) fun a hf => ?_
       refine tpg 24 rfl rfl rfl rfl hf (by kernel_rfl) (fun _ => hS) rfl fun a hf => ?_
       obtain ⟨l2, hl2, hGc6⟩ := bind_some hGc6
       obtain ⟨A7, c9, hx3, H⟩ := pre_slice H Tryz.underlying35 TF.sz112 2 (lov := none) (hiv := some (.int .i64 i)) (.inl ⟨rfl, rfl⟩) (.inr rfl) rfl hl2
       refine tPg 25 rfl rfl rfl rfl rfl rfl hf (by kernel_rfl) (fun _ => hS) (fun w => rq_sliceE hf rfl rfl rfl hx3 w) fun a hf => ?_
       refine n1g 26 (by kernel_rfl) rfl rfl rfl rfl hf (op_q hf (rq_makeFunc hf rfl) rfl (by decide) fun a hf => ?_)
       have hS := H.let [true, true] [] [] [] rfl rfl rfl rfl
       refine ⟨fun _ => hS, ?_⟩
       obtain ⟨y4, hy4, hGc6⟩ := bind_some hGc6
       refine n1g 27 (by kernel_rfl) rfl rfl rfl rfl hf (op_call hf TF.cl129 rfl (by decide) (slices_ContainsFunc_impl_Light_impl_Light_of_IsValidPlan_c1_ok (S := fun _ => True) (mk_list (rep_true (α := List Light) (H.get 0 rfl))) (H.boxTrue 0 rfl) ((Light_mk (x := e) (rep_true (α := List Int) (H.get 1 rfl)))) hy4) fun v4 w a hp4 hf => ?_)
       obtain ⟨hb4, hp4⟩ := hp4
       obtain rfl := VR_bool hp4
       have H := H.keep hb4
       have hS := H.let [true, true] [] [] [] rfl rfl rfl rfl
       refine ⟨fun _ => hS, ?_⟩
       refine tp 28 rfl rfl hf (by kernel_rfl) (fun _ => hS) rfl fun a hf => ?_
       refine dn (by kernel_rfl) ?_
       obtain rfl := Option.some.inj hGc6
       have hf := hf.prune [51, 1, 16, 17, 18] rfl
       have H := H.let [false, true] [] [] [3, 4, 5] rfl rfl rfl rfl
       exact ⟨hf, H⟩
    refine then_n (iteB hR1 (fun hc7 hR1 => cd_t hf rfl hc7 ?_) fun hc7 hR1 => cd_f hf rfl hc7 ?_)
    ·refine sq (reg (pr 1 hf rfl rfl fun a hf => ?_))
     refine wl_end (then_n (wp_ret (blk_r (then_r (then_r (blk_r (then_r (then_r (?_)))))))))
     obtain rfl := Option.some.inj hR1
     replace hF := on_ret hF
     obtain rfl := Option.some.inj hF
     refine ret_1 (fn := Tryz.f72) (r := .tmp 2) hf rfl (rv_tmp hf rfl) ?_
     exact ⟨_, rfl, H.bel, mk_bool⟩
    ·refine wp_skip (blk_n (then_n (reg (pr 2 hf rfl rfl fun a hf => ?_))))
     refine wl_end ?_
     have hf := hf.prune [1, 16, 17, 18] rfl
     have H := H.let [true] [] [] [0, 1, 2] rfl rfl rfl rfl
     exact then_n ⟨w64 (i + 1), hR1, hf, H⟩
   ·refine wp_exit (then_x (then_x (blk_e (?_))))
    have hf := hf.prune [1, 16, 17, 18] rfl
    have H := H.let [true] [] [] [0, 1, 2] rfl rfl rfl rfl
    exact ⟨i, (Option.some.inj hR1).symm, hf, H⟩
  rintro a w ⟨i2, rfl, hf, H⟩
  replace hF := on_next hF
  refine then_n (sq (reg (pr 1 hf rfl rfl fun a hf => ?_)))
  refine wl_end (then_n (wp_ret (?_)))
  obtain rfl := Option.some.inj hF
  refine ret_1 (fn := Tryz.f72) (r := .tmp 2) hf rfl (rv_tmp hf rfl) ?_
  exact ⟨_, rfl, H.bel, mk_bool⟩

/- loop.example/g00897/laws.eqStringS -/
set_option maxHeartbeats 1000000 in
theorem laws_eqStringS_ok {fu : Nat} {w0 : World} {S : Nat → Prop} {v0_ : Value} {v1_ : Value} {a' : List ByteArray} {b' : List ByteArray} {r : Bool} (h0 : VR w0 S v0_ a') (h1 : VR w0 S v1_ b') (hF : laws_eqStringS fu a' b' = some r) :
    Calls Tryz.prog 131 [v0_, v1_].toArray w0 fun e w' => ∃ v, e = .returned v ∧ (Below w0.heap.size w0 w' ∧ VR w' (St ⟨w0, []⟩ S [] [] [] true) v r) := by
 obtain ⟨A, c, rfl, hl⟩ := VR_list h0
 obtain ⟨A2, c2, rfl, hl2⟩ := VR_list h1
 have H := Mem.start ⟨w0, []⟩ S
 have H := H.pushArg (MP.val [(.slice A a'.length c)] a') hl
 have H := H.pushArg (MP.val [(.slice A2 b'.length c2)] b') hl2
 refine enter Tryz.func131 rfl rfl (nle rfl) rfl fun a hf => ?_
 rw [laws_eqStringS] at hF
 refine sq (reg (pr 1 hf rfl rfl fun a hf => ?_))
 refine wl_end (then_n (sq (sq (reg (pr 5 hf rfl rfl fun a hf => ?_)))))
 refine wl_end (then_n (iteB hF (fun hc hF => cd_t hf rfl hc ?_) fun hc hF => cd_f hf rfl hc ?_))
 ·refine sq (reg (pr 1 hf rfl rfl fun a hf => ?_))
  refine wl_end (then_n (wp_ret (then_r (?_))))
  obtain rfl := Option.some.inj hF
  refine ret_1 (fn := Tryz.f131) (r := .tmp 4) hf rfl (rv_tmp hf rfl) ?_
  exact ⟨_, rfl, H.bel, mk_bool⟩
 ·refine wp_skip (then_n (sq (sq (reg (pr 1 hf rfl rfl fun a hf => ?_)))))
  refine wl_end (then_n ?_)
  obtain ⟨out', hB1, hF⟩ := bind_some hF
  have hf := hf.prune [0, 1, 5] rfl
  have H := H.let [] [] [] [0, 1] rfl rfl rfl rfl
  refine loopC (fun (s : Int) (a : Act) (w : World) => match s with | i => Fr a 26 [(0, (.slice A a'.length c)), (1, (.slice A2 b'.length c2)), (5, (.int .i64 i))] ∧ Mem ⟨w0, []⟩ S [] [] [] [(false, MP.val [(.slice A2 b'.length c2)] (b' : List ByteArray)), (false, MP.val [(.slice A a'.length c)] (a' : List ByteArray))] w) (fun k (s : Int) => laws_eqStringS_L1 fu a' b' k s = some out') (fun s => out' = Out.next s) 0 fu hB1 ⟨hf, H⟩ (fun s h => by cases h) ?_ ?_
  ·rintro fk i a w hR1 hI
   replace hR1 : laws_eqStringS_L1 fu a' b' (fk + 1) i = some out' := hR1
   rw [laws_eqStringS_L1] at hR1
   obtain ⟨hf, H⟩ := hI
   refine sq (sq (reg (pr 4 hf rfl rfl fun a hf => ?_)))
   refine wl_end (then_n (iteB hR1 (fun hc2 hR1 => cd_t hf rfl hc2 ?_) fun hc2 hR1 => cd_f hf rfl hc2 ?_))
   ·refine wp_skip (then_n (sq (wp_block (sq (drawn [] (bs := [false, false, false, false, false, false, false, false, false]) (fuel := 9) (Checked.mixed Tryz.checked) rfl rfl fun w hb => ?_)))))
    have H := H.keep hb
    refine tp 0 rfl rfl hf (by kernel_rfl) (fun _ => trivial) rfl fun a hf => ?_
    refine tp 1 rfl rfl hf (by kernel_rfl) (fun _ => trivial) rfl fun a hf => ?_
    obtain ⟨e, he, hR1⟩ := bind_some hR1
    obtain ⟨p, o, cs, hx, hr, H⟩ := pre_iaddr H Tryz.underlying22 TF.sz9 1 rfl he
    refine tP 2 rfl rfl rfl rfl hf (by kernel_rfl) (fun _ => trivial) (fun w => rq_iaddrE hf rfl rfl rfl hx w) fun a hf => ?_
    obtain rfl := hr
    refine strT (H.let [] [] [] [0] rfl rfl rfl rfl) (fun w H => trivial) fun hS => ?_
    refine tS 3 [] rfl rfl rfl rfl hf (by kernel_rfl) (by kernel_rfl) hS (fun w H => rq_loadI hf H TF.ls9 0 0 rfl rfl rfl) fun a hf => ?_
    refine tp 4 rfl rfl hf (by kernel_rfl) (fun _ => hS) rfl fun a hf => ?_
    refine tp 5 rfl rfl hf (by kernel_rfl) (fun _ => hS) rfl fun a hf => ?_
    obtain ⟨e2, he2, hR1⟩ := bind_some hR1
    obtain ⟨p2, o2, cs2, hx2, hr2, H⟩ := pre_iaddr H Tryz.underlying22 TF.sz9 1 rfl he2
    refine tP 6 rfl rfl rfl rfl hf (by kernel_rfl) (fun _ => hS) (fun w => rq_iaddrE hf rfl rfl rfl hx2 w) fun a hf => ?_
    obtain rfl := hr2
    refine strT (H.let [] [] [] [0, 1] rfl rfl rfl rfl) (fun w H => H.let [] [] [] [1] rfl rfl rfl rfl) fun hS => ?_
    refine tS 7 [] rfl rfl rfl rfl hf (by kernel_rfl) (by kernel_rfl) hS (fun w H => rq_loadI hf H TF.ls9 0 0 rfl rfl rfl) fun a hf => ?_
    refine tp 8 rfl rfl hf (by kernel_rfl) (fun _ => hS) rfl fun a hf => ?_
    refine dn (by kernel_rfl) ?_
    refine then_n (iteB hR1 (fun hc3 hR1 => cd_t hf rfl hc3 ?_) fun hc3 hR1 => cd_f hf rfl hc3 ?_)
    ·refine sq (reg (pr 1 hf rfl rfl fun a hf => ?_))
     have hf := hf.prune [4] rfl
     refine wl_end (then_n (wp_ret (blk_r (then_r (then_r (blk_r (then_r (then_r (?_)))))))))
     obtain rfl := Option.some.inj hR1
     replace hF := on_ret hF
     obtain rfl := Option.some.inj hF
     refine ret_1 (fn := Tryz.f131) (r := .tmp 4) hf rfl (rv_tmp hf rfl) ?_
     exact ⟨_, rfl, H.bel, mk_bool⟩
    ·refine wp_skip (blk_n (then_n (reg (pr 3 hf rfl rfl fun a hf => ?_))))
     have hf := hf.prune [0, 1, 5] rfl
     refine wl_end ?_
     have hf := hf.prune [0, 1, 5] rfl
     have H := H.let [] [] [] [2, 3] rfl rfl rfl rfl
     exact then_n ⟨w64 (i + 1), hR1, hf, H⟩
   ·refine wp_exit (then_x (then_x (blk_e (?_))))
    have hf := hf.prune [0, 1, 5] rfl
    have H := H.let [] [] [] [0, 1] rfl rfl rfl rfl
    exact ⟨i, (Option.some.inj hR1).symm, hf, H⟩
  rintro a w ⟨i2, rfl, hf, H⟩
  replace hF := on_next hF
  refine then_n (sq (reg (pr 1 hf rfl rfl fun a hf => ?_)))
  refine wl_end (then_n (wp_ret (?_)))
  obtain rfl := Option.some.inj hF
  refine ret_1 (fn := Tryz.f131) (r := .tmp 4) hf rfl (rv_tmp hf rfl) ?_
  exact ⟨_, rfl, H.bel, mk_bool⟩

/- loop.example/g00897/laws.eqFiber -/
set_option maxHeartbeats 1000000 in
theorem laws_eqFiber_ok {fu : Nat} {w0 : World} {S : Nat → Prop} {v0_ : Value} {v1_ : Value} {a' : Fiber} {b' : Fiber} {r : Bool} (h0 : VR w0 S v0_ a') (h1 : VR w0 S v1_ b') (hF : laws_eqFiber fu a' b' = some r) :
    Calls Tryz.prog 189 [v0_, v1_].toArray w0 fun e w' => ∃ v, e = .returned v ∧ (Below w0.heap.size w0 w' ∧ VR w' (St ⟨w0, []⟩ S [] [] [] true) v r) := by
 obtain rfl := Fiber_open h0
 obtain rfl := Fiber_open h1
 have H := Mem.start ⟨w0, []⟩ S
 refine enter Tryz.func189 rfl rfl (nle rfl) rfl fun a hf => ?_
 rw [laws_eqFiber] at hF
 refine sq (reg (wl0 rfl (op_box hf H rfl rfl (by decide) fun b2 a w hf H => ?_)))
 refine wl0 rfl (op_box hf H rfl rfl (by decide) fun b3 a w hf H => ?_)
 refine pr 1 hf rfl rfl fun a hf => ?_
 refine wl_end (then_n (sq (sq (reg (pr 1 hf rfl rfl fun a hf => ?_)))))
 refine wl0 rfl (op_q hf (rq_loadB hf H TF.ls3 1 rfl rfl rfl) rfl (by decide) fun a hf => ?_)
 refine pr 1 hf rfl rfl fun a hf => ?_
 refine wl0 rfl (op_q hf (rq_loadB hf H TF.ls3 0 rfl rfl rfl) rfl (by decide) fun a hf => ?_)
 refine pr 1 hf rfl rfl fun a hf => ?_
 refine wl_end (then_n (iteB hF (fun hc hF => cd_t hf rfl hc ?_) fun hc hF => cd_f hf rfl hc ?_))
 ·refine sq (reg (pr 1 hf rfl rfl fun a hf => ?_))
  refine wl_end (then_n (wp_ret (then_r (?_))))
  obtain rfl := Option.some.inj hF
  refine ret_1 (fn := Tryz.f189) (r := .tmp 4) hf rfl (rv_tmp hf rfl) ?_
  exact ⟨_, rfl, H.bel, mk_bool⟩
 ·refine wp_skip (then_n (sq (sq (reg (pr 1 hf rfl rfl fun a hf => ?_)))))
  refine wl0 rfl (op_q hf (rq_loadB hf H TF.ls3 1 rfl rfl rfl) rfl (by decide) fun a hf => ?_)
  refine pr 1 hf rfl rfl fun a hf => ?_
  refine wl0 rfl (op_q hf (rq_loadB hf H TF.ls3 0 rfl rfl rfl) rfl (by decide) fun a hf => ?_)
  refine pr 1 hf rfl rfl fun a hf => ?_
  refine wl_end (then_n (iteB hF (fun hc2 hF => cd_t hf rfl hc2 ?_) fun hc2 hF => cd_f hf rfl hc2 ?_))
  ·refine sq (reg (pr 1 hf rfl rfl fun a hf => ?_))
   have hf := hf.prune [4] rfl
   refine wl_end (then_n (wp_ret (then_r (?_))))
   obtain rfl := Option.some.inj hF
   refine ret_1 (fn := Tryz.f189) (r := .tmp 4) hf rfl (rv_tmp hf rfl) ?_
   exact ⟨_, rfl, H.bel, mk_bool⟩
  ·refine wp_skip (then_n (sq (sq (reg (pr 1 hf rfl rfl fun a hf => ?_)))))
   refine wl0 rfl (op_q hf (rq_loadB hf H TF.ls3 1 rfl rfl rfl) rfl (by decide) fun a hf => ?_)
   refine pr 1 hf rfl rfl fun a hf => ?_
   refine wl0 rfl (op_q hf (rq_loadB hf H TF.ls3 0 rfl rfl rfl) rfl (by decide) fun a hf => ?_)
   refine pr 1 hf rfl rfl fun a hf => ?_
   have hf := hf.prune [2, 3, 19] rfl
   refine wl_end (then_n (iteB hF (fun hc3 hF => cd_t hf rfl hc3 ?_) fun hc3 hF => cd_f hf rfl hc3 ?_))
   ·refine sq (reg (pr 1 hf rfl rfl fun a hf => ?_))
    refine wl_end (then_n (wp_ret (then_r (?_))))
    obtain rfl := Option.some.inj hF
    refine ret_1 (fn := Tryz.f189) (r := .tmp 4) hf rfl (rv_tmp hf rfl) ?_
    exact ⟨_, rfl, H.bel, mk_bool⟩
   ·refine wp_skip (then_n (sq (sq (reg (pr 1 hf rfl rfl fun a hf => ?_)))))
    refine wl0 rfl (op_q hf (rq_loadB hf H TF.ls3 1 rfl rfl rfl) rfl (by decide) fun a hf => ?_)
    refine pr 1 hf rfl rfl fun a hf => ?_
    refine wl0 rfl (op_q hf (rq_loadB hf H TF.ls3 0 rfl rfl rfl) rfl (by decide) fun a hf => ?_)
    refine pr 1 hf rfl rfl fun a hf => ?_
    refine wl_end (then_n (iteB hF (fun hc4 hF => cd_t hf rfl hc4 ?_) fun hc4 hF => cd_f hf rfl hc4 ?_))
    ·refine sq (reg (pr 1 hf rfl rfl fun a hf => ?_))
     refine wl_end (then_n (wp_ret (then_r (?_))))
     obtain rfl := Option.some.inj hF
     refine ret_1 (fn := Tryz.f189) (r := .tmp 4) hf rfl (rv_tmp hf rfl) ?_
     exact ⟨_, rfl, H.bel, mk_bool⟩
    ·refine wp_skip (then_n (sq (reg (pr 1 hf rfl rfl fun a hf => ?_))))
     refine wl_end (then_n (wp_ret (?_)))
     obtain rfl := Option.some.inj hF
     refine ret_1 (fn := Tryz.f189) (r := .tmp 4) hf rfl (rv_tmp hf rfl) ?_
     exact ⟨_, rfl, H.bel, mk_bool⟩

/- loop.example/g00897/laws.eqFiberS -/
set_option maxHeartbeats 1000000 in
theorem laws_eqFiberS_ok {fu : Nat} {w0 : World} {S : Nat → Prop} {v0_ : Value} {v1_ : Value} {a' : List Fiber} {b' : List Fiber} {r : Bool} (h0 : VR w0 S v0_ a') (h1 : VR w0 S v1_ b') (hF : laws_eqFiberS fu a' b' = some r) :
    Calls Tryz.prog 132 [v0_, v1_].toArray w0 fun e w' => ∃ v, e = .returned v ∧ (Below w0.heap.size w0 w' ∧ VR w' (St ⟨w0, []⟩ S [] [] [] true) v r) := by
 obtain ⟨A, c, rfl, hl⟩ := VR_list h0
 obtain ⟨A2, c2, rfl, hl2⟩ := VR_list h1
 have H := Mem.start ⟨w0, []⟩ S
 have H := H.pushArg (MP.val [(.slice A a'.length c)] a') hl
 have H := H.pushArg (MP.val [(.slice A2 b'.length c2)] b') hl2
 refine enter Tryz.func132 rfl rfl (nle rfl) rfl fun a hf => ?_
 rw [laws_eqFiberS] at hF
 refine sq (reg (pr 1 hf rfl rfl fun a hf => ?_))
 refine wl_end (then_n (sq (sq (reg (pr 5 hf rfl rfl fun a hf => ?_)))))
 refine wl_end (then_n (iteB hF (fun hc hF => cd_t hf rfl hc ?_) fun hc hF => cd_f hf rfl hc ?_))
 ·refine sq (reg (pr 1 hf rfl rfl fun a hf => ?_))
  refine wl_end (then_n (wp_ret (then_r (?_))))
  obtain rfl := Option.some.inj hF
  refine ret_1 (fn := Tryz.f132) (r := .tmp 4) hf rfl (rv_tmp hf rfl) ?_
  exact ⟨_, rfl, H.bel, mk_bool⟩
 ·refine wp_skip (then_n (sq (sq (reg (pr 1 hf rfl rfl fun a hf => ?_)))))
  refine wl_end (then_n ?_)
  obtain ⟨out', hB1, hF⟩ := bind_some hF
  have hf := hf.prune [0, 1, 5] rfl
  have H := H.let [] [] [] [0, 1] rfl rfl rfl rfl
  refine loopC (fun (s : Int) (a : Act) (w : World) => match s with | i => Fr a 27 [(0, (.slice A a'.length c)), (1, (.slice A2 b'.length c2)), (5, (.int .i64 i))] ∧ Mem ⟨w0, []⟩ S [] [] [] [(false, MP.val [(.slice A2 b'.length c2)] (b' : List Fiber)), (false, MP.val [(.slice A a'.length c)] (a' : List Fiber))] w) (fun k (s : Int) => laws_eqFiberS_L1 fu a' b' k s = some out') (fun s => out' = Out.next s) 0 fu hB1 ⟨hf, H⟩ (fun s h => by cases h) ?_ ?_
  ·rintro fk i a w hR1 hI
   replace hR1 : laws_eqFiberS_L1 fu a' b' (fk + 1) i = some out' := hR1
   rw [laws_eqFiberS_L1] at hR1
   obtain ⟨hf, H⟩ := hI
   refine sq (sq (reg (pr 4 hf rfl rfl fun a hf => ?_)))
   refine wl_end (then_n (iteB hR1 (fun hc2 hR1 => cd_t hf rfl hc2 ?_) fun hc2 hR1 => cd_f hf rfl hc2 ?_))
   ·refine wp_skip (then_n (sq (wp_block (sq (drawn [] (bs := [false, false, false, false, false, false, false, false, false, false]) (fuel := 10) (Checked.mixed Tryz.checked) rfl rfl fun w hb => ?_)))))
    have H := H.keep hb
    refine tp 0 rfl rfl hf (by kernel_rfl) (fun _ => trivial) rfl fun a hf => ?_
    refine tp 1 rfl rfl hf (by kernel_rfl) (fun _ => trivial) rfl fun a hf => ?_
    obtain ⟨e, he, hR1⟩ := bind_some hR1
    obtain ⟨p, o, cs, hx, hr, H⟩ := pre_iaddr H Tryz.underlying32 TF.sz120 1 rfl he
    refine tP 2 rfl rfl rfl rfl hf (by kernel_rfl) (fun _ => trivial) (fun w => rq_iaddrE hf rfl rfl rfl hx w) fun a hf => ?_
    obtain rfl := Fiber_cells hr
    refine strT (H.let [] [] [] [0] rfl rfl rfl rfl) (fun w H => trivial) fun hS => ?_
    refine tS 3 [] rfl rfl rfl rfl hf (by kernel_rfl) (by kernel_rfl) hS (fun w H => rq_loadIN hf H TF.la120 0 0 rfl rfl rfl rfl) fun a hf => ?_
    refine tp 4 rfl rfl hf (by kernel_rfl) (fun _ => hS) rfl fun a hf => ?_
    refine tp 5 rfl rfl hf (by kernel_rfl) (fun _ => hS) rfl fun a hf => ?_
    obtain ⟨e2, he2, hR1⟩ := bind_some hR1
    obtain ⟨p2, o2, cs2, hx2, hr2, H⟩ := pre_iaddr H Tryz.underlying32 TF.sz120 1 rfl he2
    refine tP 6 rfl rfl rfl rfl hf (by kernel_rfl) (fun _ => hS) (fun w => rq_iaddrE hf rfl rfl rfl hx2 w) fun a hf => ?_
    obtain rfl := Fiber_cells hr2
    refine strT (H.let [] [] [] [0, 1] rfl rfl rfl rfl) (fun w H => H.let [] [] [] [1] rfl rfl rfl rfl) fun hS => ?_
    refine tS 7 [] rfl rfl rfl rfl hf (by kernel_rfl) (by kernel_rfl) hS (fun w H => rq_loadIN hf H TF.la120 0 0 rfl rfl rfl rfl) fun a hf => ?_
    obtain ⟨y, hy, hR1⟩ := bind_some hR1
    refine n1 8 (by kernel_rfl) rfl rfl (op_call hf TF.cl189 rfl (by decide) (laws_eqFiber_ok (S := fun _ => True) Fiber_mkv Fiber_mkv hy) fun v w a hp hf => ?_)
    obtain ⟨hb, hp⟩ := hp
    obtain rfl := VR_bool hp
    have H := H.keep hb
    have hS := H.let [] [] [] [0, 1] rfl rfl rfl rfl
    refine ⟨fun _ => hS, ?_⟩
    refine tp 9 rfl rfl hf (by kernel_rfl) (fun _ => hS) rfl fun a hf => ?_
    refine dn (by kernel_rfl) ?_
    have hf := hf.prune [0, 1, 5, 26] rfl
    refine then_n (iteB hR1 (fun hc3 hR1 => cd_t hf rfl hc3 ?_) fun hc3 hR1 => cd_f hf rfl hc3 ?_)
    ·refine sq (reg (pr 1 hf rfl rfl fun a hf => ?_))
     refine wl_end (then_n (wp_ret (blk_r (then_r (then_r (blk_r (then_r (then_r (?_)))))))))
     obtain rfl := Option.some.inj hR1
     replace hF := on_ret hF
     obtain rfl := Option.some.inj hF
     refine ret_1 (fn := Tryz.f132) (r := .tmp 4) hf rfl (rv_tmp hf rfl) ?_
     exact ⟨_, rfl, H.bel, mk_bool⟩
    ·refine wp_skip (blk_n (then_n (reg (pr 3 hf rfl rfl fun a hf => ?_))))
     refine wl_end ?_
     have hf := hf.prune [0, 1, 5] rfl
     have H := H.let [] [] [] [2, 3] rfl rfl rfl rfl
     exact then_n ⟨w64 (i + 1), hR1, hf, H⟩
   ·refine wp_exit (then_x (then_x (blk_e (?_))))
    have hf := hf.prune [0, 1, 5] rfl
    have H := H.let [] [] [] [0, 1] rfl rfl rfl rfl
    exact ⟨i, (Option.some.inj hR1).symm, hf, H⟩
  rintro a w ⟨i2, rfl, hf, H⟩
  replace hF := on_next hF
  refine then_n (sq (reg (pr 1 hf rfl rfl fun a hf => ?_)))
  refine wl_end (then_n (wp_ret (?_)))
  obtain rfl := Option.some.inj hF
  refine ret_1 (fn := Tryz.f132) (r := .tmp 4) hf rfl (rv_tmp hf rfl) ?_
  exact ⟨_, rfl, H.bel, mk_bool⟩

/- loop.example/g00897/laws.eqNetwork -/
set_option maxHeartbeats 1000000 in
theorem laws_eqNetwork_ok {fu : Nat} {w0 : World} {S : Nat → Prop} {v0_ : Value} {v1_ : Value} {a' : Network} {b' : Network} {r : Bool} (h0 : VR w0 S v0_ a') (h1 : VR w0 S v1_ b') (hF : laws_eqNetwork fu a' b' = some r) :
    Calls Tryz.prog 69 [v0_, v1_].toArray w0 fun e w' => ∃ v, e = .returned v ∧ (Below w0.heap.size w0 w' ∧ VR w' (St ⟨w0, []⟩ S [] [] [] true) v r) := by
 obtain ⟨A, c, A2, c2, rfl, hl, hl2⟩ := Network_open h0
 obtain ⟨A3, c3, A4, c4, rfl, hl3, hl4⟩ := Network_open h1
 have H := Mem.start ⟨w0, []⟩ S
 have H := H.pushArg (MP.val [(.slice A a'.Nodes.length c)] a'.Nodes) hl
 have H := H.pushArg (MP.val [(.slice A2 a'.Fibers.length c2)] a'.Fibers) hl2
 have H := H.pushArg (MP.val [(.slice A3 b'.Nodes.length c3)] b'.Nodes) hl3
 have H := H.pushArg (MP.val [(.slice A4 b'.Fibers.length c4)] b'.Fibers) hl4
 refine enter Tryz.func69 rfl rfl (nle rfl) rfl fun a hf => ?_
 rw [laws_eqNetwork] at hF
 refine sq (reg (wl0 rfl (op_box hf H rfl rfl (by decide) fun b2 a w hf H => ?_)))
 refine wl0 rfl (op_box hf H rfl rfl (by decide) fun b3 a w hf H => ?_)
 refine pr 1 hf rfl rfl fun a hf => ?_
 refine wl_end (then_n (sq (sq (reg (pr 1 hf rfl rfl fun a hf => ?_)))))
 refine wl0 rfl (op_q hf (rq_loadB hf H TF.ls22 1 rfl rfl rfl) rfl (by decide) fun a hf => ?_)
 refine pr 1 hf rfl rfl fun a hf => ?_
 refine wl0 rfl (op_q hf (rq_loadB hf H TF.ls22 0 rfl rfl rfl) rfl (by decide) fun a hf => ?_)
 obtain ⟨y, hy, hF⟩ := bind_some hF
 refine wl0 rfl (op_call hf TF.cl131 rfl (by decide) (laws_eqStringS_ok (S := fun _ => True) (mk_list (rep_true (α := List ByteArray) (H.get 3 rfl))) (mk_list (rep_true (α := List ByteArray) (H.get 1 rfl))) hy) fun v w a hp hf => ?_)
 obtain ⟨hb, hp⟩ := hp
 obtain rfl := VR_bool hp
 have H := H.keep hb
 refine pr 1 hf rfl rfl fun a hf => ?_
 refine wl_end (then_n (iteB hF (fun hc hF => cd_t hf rfl hc ?_) fun hc hF => cd_f hf rfl hc ?_))
 ·refine sq (reg (pr 1 hf rfl rfl fun a hf => ?_))
  refine wl_end (then_n (wp_ret (then_r (?_))))
  obtain rfl := Option.some.inj hF
  refine ret_1 (fn := Tryz.f69) (r := .tmp 4) hf rfl (rv_tmp hf rfl) ?_
  exact ⟨_, rfl, H.bel, mk_bool⟩
 ·refine wp_skip (then_n (sq (sq (reg (pr 1 hf rfl rfl fun a hf => ?_)))))
  refine wl0 rfl (op_q hf (rq_loadB hf H TF.ls32 1 rfl rfl rfl) rfl (by decide) fun a hf => ?_)
  refine pr 1 hf rfl rfl fun a hf => ?_
  refine wl0 rfl (op_q hf (rq_loadB hf H TF.ls32 0 rfl rfl rfl) rfl (by decide) fun a hf => ?_)
  obtain ⟨y2, hy2, hF⟩ := bind_some hF
  refine wl0 rfl (op_call hf TF.cl132 rfl (by decide) (laws_eqFiberS_ok (S := fun _ => True) (mk_list (rep_true (α := List Fiber) (H.get 2 rfl))) (mk_list (rep_true (α := List Fiber) (H.get 0 rfl))) hy2) fun v2 w a hp2 hf => ?_)
  obtain ⟨hb2, hp2⟩ := hp2
  obtain rfl := VR_bool hp2
  have H := H.keep hb2
  refine pr 1 hf rfl rfl fun a hf => ?_
  have hf := hf.prune [16] rfl
  refine wl_end (then_n (iteB hF (fun hc2 hF => cd_t hf rfl hc2 ?_) fun hc2 hF => cd_f hf rfl hc2 ?_))
  ·refine sq (reg (pr 1 hf rfl rfl fun a hf => ?_))
   refine wl_end (then_n (wp_ret (then_r (?_))))
   obtain rfl := Option.some.inj hF
   refine ret_1 (fn := Tryz.f69) (r := .tmp 4) hf rfl (rv_tmp hf rfl) ?_
   exact ⟨_, rfl, H.bel, mk_bool⟩
  ·refine wp_skip (then_n (sq (reg (pr 1 hf rfl rfl fun a hf => ?_))))
   refine wl_end (then_n (wp_ret (?_)))
   obtain rfl := Option.some.inj hF
   refine ret_1 (fn := Tryz.f69) (r := .tmp 4) hf rfl (rv_tmp hf rfl) ?_
   exact ⟨_, rfl, H.bel, mk_bool⟩

/- loop.example/g00897/laws.eqIntS -/
set_option maxHeartbeats 1000000 in
theorem laws_eqIntS_ok {fu : Nat} {w0 : World} {S : Nat → Prop} {v0_ : Value} {v1_ : Value} {a' : List Int} {b' : List Int} {r : Bool} (h0 : VR w0 S v0_ a') (h1 : VR w0 S v1_ b') (hF : laws_eqIntS fu a' b' = some r) :
    Calls Tryz.prog 24 [v0_, v1_].toArray w0 fun e w' => ∃ v, e = .returned v ∧ (Below w0.heap.size w0 w' ∧ VR w' (St ⟨w0, []⟩ S [] [] [] true) v r) := by
 obtain ⟨A, c, rfl, hl⟩ := VR_list h0
 obtain ⟨A2, c2, rfl, hl2⟩ := VR_list h1
 have H := Mem.start ⟨w0, []⟩ S
 have H := H.pushArg (MP.val [(.slice A a'.length c)] a') hl
 have H := H.pushArg (MP.val [(.slice A2 b'.length c2)] b') hl2
 refine enter Tryz.func24 rfl rfl (nle rfl) rfl fun a hf => ?_
 rw [laws_eqIntS] at hF
 refine sq (reg (pr 1 hf rfl rfl fun a hf => ?_))
 refine wl_end (then_n (sq (sq (reg (pr 5 hf rfl rfl fun a hf => ?_)))))
 refine wl_end (then_n (iteB hF (fun hc hF => cd_t hf rfl hc ?_) fun hc hF => cd_f hf rfl hc ?_))
 ·refine sq (reg (pr 1 hf rfl rfl fun a hf => ?_))
  refine wl_end (then_n (wp_ret (then_r (?_))))
  obtain rfl := Option.some.inj hF
  refine ret_1 (fn := Tryz.f24) (r := .tmp 4) hf rfl (rv_tmp hf rfl) ?_
  exact ⟨_, rfl, H.bel, mk_bool⟩
 ·refine wp_skip (then_n (sq (sq (reg (pr 1 hf rfl rfl fun a hf => ?_)))))
  refine wl_end (then_n ?_)
  obtain ⟨out', hB1, hF⟩ := bind_some hF
  have hf := hf.prune [0, 1, 5] rfl
  have H := H.let [] [] [] [0, 1] rfl rfl rfl rfl
  refine loopC (fun (s : Int) (a : Act) (w : World) => match s with | i => Fr a 26 [(0, (.slice A a'.length c)), (1, (.slice A2 b'.length c2)), (5, (.int .i64 i))] ∧ Mem ⟨w0, []⟩ S [] [] [] [(false, MP.val [(.slice A2 b'.length c2)] (b' : List Int)), (false, MP.val [(.slice A a'.length c)] (a' : List Int))] w) (fun k (s : Int) => laws_eqIntS_L1 fu a' b' k s = some out') (fun s => out' = Out.next s) 0 fu hB1 ⟨hf, H⟩ (fun s h => by cases h) ?_ ?_
  ·rintro fk i a w hR1 hI
   replace hR1 : laws_eqIntS_L1 fu a' b' (fk + 1) i = some out' := hR1
   rw [laws_eqIntS_L1] at hR1
   obtain ⟨hf, H⟩ := hI
   refine sq (sq (reg (pr 4 hf rfl rfl fun a hf => ?_)))
   refine wl_end (then_n (iteB hR1 (fun hc2 hR1 => cd_t hf rfl hc2 ?_) fun hc2 hR1 => cd_f hf rfl hc2 ?_))
   ·refine wp_skip (then_n (sq (wp_block (sq (drawn [] (bs := [false, false, false, false, false, false, false, false, false]) (fuel := 9) (Checked.mixed Tryz.checked) rfl rfl fun w hb => ?_)))))
    have H := H.keep hb
    refine tp 0 rfl rfl hf (by kernel_rfl) (fun _ => trivial) rfl fun a hf => ?_
    refine tp 1 rfl rfl hf (by kernel_rfl) (fun _ => trivial) rfl fun a hf => ?_
    obtain ⟨e, he, hR1⟩ := bind_some hR1
    obtain ⟨p, o, cs, hx, hr, H⟩ := pre_iaddr H Tryz.underlying44 TF.sz3 1 rfl he
    refine tP 2 rfl rfl rfl rfl hf (by kernel_rfl) (fun _ => trivial) (fun w => rq_iaddrE hf rfl rfl rfl hx w) fun a hf => ?_
    obtain rfl := hr
    refine strT (H.let [] [] [] [0] rfl rfl rfl rfl) (fun w H => trivial) fun hS => ?_
    refine tS 3 [] rfl rfl rfl rfl hf (by kernel_rfl) (by kernel_rfl) hS (fun w H => rq_loadI hf H TF.ls3 0 0 rfl rfl rfl) fun a hf => ?_
    refine tp 4 rfl rfl hf (by kernel_rfl) (fun _ => hS) rfl fun a hf => ?_
    refine tp 5 rfl rfl hf (by kernel_rfl) (fun _ => hS) rfl fun a hf => ?_
    obtain ⟨e2, he2, hR1⟩ := bind_some hR1
    obtain ⟨p2, o2, cs2, hx2, hr2, H⟩ := pre_iaddr H Tryz.underlying44 TF.sz3 1 rfl he2
    refine tP 6 rfl rfl rfl rfl hf (by kernel_rfl) (fun _ => hS) (fun w => rq_iaddrE hf rfl rfl rfl hx2 w) fun a hf => ?_
    obtain rfl := hr2
    refine strT (H.let [] [] [] [0, 1] rfl rfl rfl rfl) (fun w H => H.let [] [] [] [1] rfl rfl rfl rfl) fun hS => ?_
    refine tS 7 [] rfl rfl rfl rfl hf (by kernel_rfl) (by kernel_rfl) hS (fun w H => rq_loadI hf H TF.ls3 0 0 rfl rfl rfl) fun a hf => ?_
    refine tp 8 rfl rfl hf (by kernel_rfl) (fun _ => hS) rfl fun a hf => ?_
    refine dn (by kernel_rfl) ?_
    refine then_n (iteB hR1 (fun hc3 hR1 => cd_t hf rfl hc3 ?_) fun hc3 hR1 => cd_f hf rfl hc3 ?_)
    ·refine sq (reg (pr 1 hf rfl rfl fun a hf => ?_))
     have hf := hf.prune [4] rfl
     refine wl_end (then_n (wp_ret (blk_r (then_r (then_r (blk_r (then_r (then_r (?_)))))))))
     obtain rfl := Option.some.inj hR1
     replace hF := on_ret hF
     obtain rfl := Option.some.inj hF
     refine ret_1 (fn := Tryz.f24) (r := .tmp 4) hf rfl (rv_tmp hf rfl) ?_
     exact ⟨_, rfl, H.bel, mk_bool⟩
    ·refine wp_skip (blk_n (then_n (reg (pr 3 hf rfl rfl fun a hf => ?_))))
     have hf := hf.prune [0, 1, 5] rfl
     refine wl_end ?_
     have hf := hf.prune [0, 1, 5] rfl
     have H := H.let [] [] [] [2, 3] rfl rfl rfl rfl
     exact then_n ⟨w64 (i + 1), hR1, hf, H⟩
   ·refine wp_exit (then_x (then_x (blk_e (?_))))
    have hf := hf.prune [0, 1, 5] rfl
    have H := H.let [] [] [] [0, 1] rfl rfl rfl rfl
    exact ⟨i, (Option.some.inj hR1).symm, hf, H⟩
  rintro a w ⟨i2, rfl, hf, H⟩
  replace hF := on_next hF
  refine then_n (sq (reg (pr 1 hf rfl rfl fun a hf => ?_)))
  refine wl_end (then_n (wp_ret (?_)))
  obtain rfl := Option.some.inj hF
  refine ret_1 (fn := Tryz.f24) (r := .tmp 4) hf rfl (rv_tmp hf rfl) ?_
  exact ⟨_, rfl, H.bel, mk_bool⟩

/- loop.example/g00897/laws.eqRoute -/
set_option maxHeartbeats 1000000 in
theorem laws_eqRoute_ok {fu : Nat} {w0 : World} {S : Nat → Prop} {v0_ : Value} {v1_ : Value} {a' : Route} {b' : Route} {r : Bool} (h0 : VR w0 S v0_ a') (h1 : VR w0 S v1_ b') (hF : laws_eqRoute fu a' b' = some r) :
    Calls Tryz.prog 190 [v0_, v1_].toArray w0 fun e w' => ∃ v, e = .returned v ∧ (Below w0.heap.size w0 w' ∧ VR w' (St ⟨w0, []⟩ S [] [] [] true) v r) := by
 obtain ⟨A, c, rfl, hl⟩ := Route_open h0
 obtain ⟨A2, c2, rfl, hl2⟩ := Route_open h1
 have H := Mem.start ⟨w0, []⟩ S
 have H := H.pushArg (MP.val [(.slice A a'.Fibers.length c)] a'.Fibers) hl
 have H := H.pushArg (MP.val [(.slice A2 b'.Fibers.length c2)] b'.Fibers) hl2
 refine enter Tryz.func190 rfl rfl (nle rfl) rfl fun a hf => ?_
 rw [laws_eqRoute] at hF
 refine sq (reg (wl0 rfl (op_box hf H rfl rfl (by decide) fun b2 a w hf H => ?_)))
 refine wl0 rfl (op_box hf H rfl rfl (by decide) fun b3 a w hf H => ?_)
 refine pr 1 hf rfl rfl fun a hf => ?_
 refine wl_end (then_n (sq (sq (reg (pr 1 hf rfl rfl fun a hf => ?_)))))
 refine wl0 rfl (op_q hf (rq_loadB hf H TF.ls3 1 rfl rfl rfl) rfl (by decide) fun a hf => ?_)
 refine pr 1 hf rfl rfl fun a hf => ?_
 refine wl0 rfl (op_q hf (rq_loadB hf H TF.ls3 0 rfl rfl rfl) rfl (by decide) fun a hf => ?_)
 refine pr 1 hf rfl rfl fun a hf => ?_
 refine wl_end (then_n (iteB hF (fun hc hF => cd_t hf rfl hc ?_) fun hc hF => cd_f hf rfl hc ?_))
 ·refine sq (reg (pr 1 hf rfl rfl fun a hf => ?_))
  refine wl_end (then_n (wp_ret (then_r (?_))))
  obtain rfl := Option.some.inj hF
  refine ret_1 (fn := Tryz.f190) (r := .tmp 4) hf rfl (rv_tmp hf rfl) ?_
  exact ⟨_, rfl, H.bel, mk_bool⟩
 ·refine wp_skip (then_n (sq (sq (reg (pr 1 hf rfl rfl fun a hf => ?_)))))
  refine wl0 rfl (op_q hf (rq_loadB hf H TF.ls44 1 rfl rfl rfl) rfl (by decide) fun a hf => ?_)
  refine pr 1 hf rfl rfl fun a hf => ?_
  refine wl0 rfl (op_q hf (rq_loadB hf H TF.ls44 0 rfl rfl rfl) rfl (by decide) fun a hf => ?_)
  obtain ⟨y, hy, hF⟩ := bind_some hF
  refine wl0 rfl (op_call hf TF.cl24 rfl (by decide) (laws_eqIntS_ok (S := fun _ => True) (mk_list (rep_true (α := List Int) (H.get 1 rfl))) (mk_list (rep_true (α := List Int) (H.get 0 rfl))) hy) fun v w a hp hf => ?_)
  obtain ⟨hb, hp⟩ := hp
  obtain rfl := VR_bool hp
  have H := H.keep hb
  refine pr 1 hf rfl rfl fun a hf => ?_
  have hf := hf.prune [15] rfl
  refine wl_end (then_n (iteB hF (fun hc2 hF => cd_t hf rfl hc2 ?_) fun hc2 hF => cd_f hf rfl hc2 ?_))
  ·refine sq (reg (pr 1 hf rfl rfl fun a hf => ?_))
   refine wl_end (then_n (wp_ret (then_r (?_))))
   obtain rfl := Option.some.inj hF
   refine ret_1 (fn := Tryz.f190) (r := .tmp 4) hf rfl (rv_tmp hf rfl) ?_
   exact ⟨_, rfl, H.bel, mk_bool⟩
  ·refine wp_skip (then_n (sq (reg (pr 1 hf rfl rfl fun a hf => ?_))))
   refine wl_end (then_n (wp_ret (?_)))
   obtain rfl := Option.some.inj hF
   refine ret_1 (fn := Tryz.f190) (r := .tmp 4) hf rfl (rv_tmp hf rfl) ?_
   exact ⟨_, rfl, H.bel, mk_bool⟩

/- loop.example/g00897/laws.eqBlock -/
set_option maxHeartbeats 1000000 in
theorem laws_eqBlock_ok {fu : Nat} {w0 : World} {S : Nat → Prop} {v0_ : Value} {v1_ : Value} {a' : Block} {b' : Block} {r : Bool} (h0 : VR w0 S v0_ a') (h1 : VR w0 S v1_ b') (hF : laws_eqBlock fu a' b' = some r) :
    Calls Tryz.prog 191 [v0_, v1_].toArray w0 fun e w' => ∃ v, e = .returned v ∧ (Below w0.heap.size w0 w' ∧ VR w' (St ⟨w0, []⟩ S [] [] [] true) v r) := by
 obtain rfl := Block_open h0
 obtain rfl := Block_open h1
 have H := Mem.start ⟨w0, []⟩ S
 refine enter Tryz.func191 rfl rfl (nle rfl) rfl fun a hf => ?_
 rw [laws_eqBlock] at hF
 refine sq (reg (wl0 rfl (op_box hf H rfl rfl (by decide) fun b2 a w hf H => ?_)))
 refine wl0 rfl (op_box hf H rfl rfl (by decide) fun b3 a w hf H => ?_)
 refine pr 1 hf rfl rfl fun a hf => ?_
 refine wl_end (then_n (sq (sq (reg (pr 1 hf rfl rfl fun a hf => ?_)))))
 refine wl0 rfl (op_q hf (rq_loadB hf H TF.ls3 1 rfl rfl rfl) rfl (by decide) fun a hf => ?_)
 refine pr 1 hf rfl rfl fun a hf => ?_
 refine wl0 rfl (op_q hf (rq_loadB hf H TF.ls3 0 rfl rfl rfl) rfl (by decide) fun a hf => ?_)
 refine pr 1 hf rfl rfl fun a hf => ?_
 refine wl_end (then_n (iteB hF (fun hc hF => cd_t hf rfl hc ?_) fun hc hF => cd_f hf rfl hc ?_))
 ·refine sq (reg (pr 1 hf rfl rfl fun a hf => ?_))
  refine wl_end (then_n (wp_ret (then_r (?_))))
  obtain rfl := Option.some.inj hF
  refine ret_1 (fn := Tryz.f191) (r := .tmp 4) hf rfl (rv_tmp hf rfl) ?_
  exact ⟨_, rfl, H.bel, mk_bool⟩
 ·refine wp_skip (then_n (sq (sq (reg (pr 1 hf rfl rfl fun a hf => ?_)))))
  refine wl0 rfl (op_q hf (rq_loadB hf H TF.ls3 1 rfl rfl rfl) rfl (by decide) fun a hf => ?_)
  refine pr 1 hf rfl rfl fun a hf => ?_
  refine wl0 rfl (op_q hf (rq_loadB hf H TF.ls3 0 rfl rfl rfl) rfl (by decide) fun a hf => ?_)
  refine pr 1 hf rfl rfl fun a hf => ?_
  have hf := hf.prune [14] rfl
  refine wl_end (then_n (iteB hF (fun hc2 hF => cd_t hf rfl hc2 ?_) fun hc2 hF => cd_f hf rfl hc2 ?_))
  ·refine sq (reg (pr 1 hf rfl rfl fun a hf => ?_))
   refine wl_end (then_n (wp_ret (then_r (?_))))
   obtain rfl := Option.some.inj hF
   refine ret_1 (fn := Tryz.f191) (r := .tmp 4) hf rfl (rv_tmp hf rfl) ?_
   exact ⟨_, rfl, H.bel, mk_bool⟩
  ·refine wp_skip (then_n (sq (reg (pr 1 hf rfl rfl fun a hf => ?_))))
   refine wl_end (then_n (wp_ret (?_)))
   obtain rfl := Option.some.inj hF
   refine ret_1 (fn := Tryz.f191) (r := .tmp 4) hf rfl (rv_tmp hf rfl) ?_
   exact ⟨_, rfl, H.bel, mk_bool⟩

/- loop.example/g00897/laws.eqLight -/
set_option maxHeartbeats 1000000 in
theorem laws_eqLight_ok {fu : Nat} {w0 : World} {S : Nat → Prop} {v0_ : Value} {v1_ : Value} {a' : Light} {b' : Light} {r : Bool} (h0 : VR w0 S v0_ a') (h1 : VR w0 S v1_ b') (hF : laws_eqLight fu a' b' = some r) :
    Calls Tryz.prog 133 [v0_, v1_].toArray w0 fun e w' => ∃ v, e = .returned v ∧ (Below w0.heap.size w0 w' ∧ VR w' (St ⟨w0, []⟩ S [] [] [] true) v r) := by
 obtain ⟨A, c, rfl, hl⟩ := Light_open h0
 obtain ⟨A2, c2, rfl, hl2⟩ := Light_open h1
 have H := Mem.start ⟨w0, []⟩ S
 have H := H.pushArg (MP.val [(.slice A a'.Route.Fibers.length c)] a'.Route.Fibers) hl
 have H := H.pushArg (MP.val [(.slice A2 b'.Route.Fibers.length c2)] b'.Route.Fibers) hl2
 refine enter Tryz.func133 rfl rfl (nle rfl) rfl fun a hf => ?_
 rw [laws_eqLight] at hF
 refine sq (reg (wl0 rfl (op_box hf H rfl rfl (by decide) fun b2 a w hf H => ?_)))
 refine wl0 rfl (op_box hf H rfl rfl (by decide) fun b3 a w hf H => ?_)
 refine pr 1 hf rfl rfl fun a hf => ?_
 refine wl_end (then_n (sq (sq (reg (pr 1 hf rfl rfl fun a hf => ?_)))))
 refine wl0 rfl (op_q hf (rq_loadB hf H TF.ls3 1 rfl rfl rfl) rfl (by decide) fun a hf => ?_)
 refine pr 1 hf rfl rfl fun a hf => ?_
 refine wl0 rfl (op_q hf (rq_loadB hf H TF.ls3 0 rfl rfl rfl) rfl (by decide) fun a hf => ?_)
 refine pr 1 hf rfl rfl fun a hf => ?_
 refine wl_end (then_n (iteB hF (fun hc hF => cd_t hf rfl hc ?_) fun hc hF => cd_f hf rfl hc ?_))
 ·refine sq (reg (pr 1 hf rfl rfl fun a hf => ?_))
  refine wl_end (then_n (wp_ret (then_r (?_))))
  obtain rfl := Option.some.inj hF
  refine ret_1 (fn := Tryz.f133) (r := .tmp 4) hf rfl (rv_tmp hf rfl) ?_
  exact ⟨_, rfl, H.bel, mk_bool⟩
 ·refine wp_skip (then_n (sq (sq (reg (pr 1 hf rfl rfl fun a hf => ?_)))))
  refine wl0 rfl (op_q hf (rq_loadBN hf H TF.la108 1 rfl rfl rfl rfl) rfl (by decide) fun a hf => ?_)
  refine pr 1 hf rfl rfl fun a hf => ?_
  refine wl0 rfl (op_q hf (rq_loadBN hf H TF.la108 0 rfl rfl rfl rfl) rfl (by decide) fun a hf => ?_)
  obtain ⟨y, hy, hF⟩ := bind_some hF
  refine wl0 rfl (op_call hf TF.cl190 rfl (by decide) (laws_eqRoute_ok (S := fun _ => True) (Route_mkv (x := a'.Route) (rep_true (α := List Int) (H.get 1 rfl))) (Route_mkv (x := b'.Route) (rep_true (α := List Int) (H.get 0 rfl))) hy) fun v w a hp hf => ?_)
  obtain ⟨hb, hp⟩ := hp
  obtain rfl := VR_bool hp
  have H := H.keep hb
  refine pr 1 hf rfl rfl fun a hf => ?_
  have hf := hf.prune [2, 3, 15] rfl
  refine wl_end (then_n (iteB hF (fun hc2 hF => cd_t hf rfl hc2 ?_) fun hc2 hF => cd_f hf rfl hc2 ?_))
  ·refine sq (reg (pr 1 hf rfl rfl fun a hf => ?_))
   refine wl_end (then_n (wp_ret (then_r (?_))))
   obtain rfl := Option.some.inj hF
   refine ret_1 (fn := Tryz.f133) (r := .tmp 4) hf rfl (rv_tmp hf rfl) ?_
   exact ⟨_, rfl, H.bel, mk_bool⟩
  ·refine wp_skip (then_n (sq (sq (reg (pr 1 hf rfl rfl fun a hf => ?_)))))
   refine wl0 rfl (op_q hf (rq_loadBN hf H TF.la110 1 rfl rfl rfl rfl) rfl (by decide) fun a hf => ?_)
   refine pr 1 hf rfl rfl fun a hf => ?_
   refine wl0 rfl (op_q hf (rq_loadBN hf H TF.la110 0 rfl rfl rfl rfl) rfl (by decide) fun a hf => ?_)
   obtain ⟨y2, hy2, hF⟩ := bind_some hF
   refine wl0 rfl (op_call hf TF.cl191 rfl (by decide) (laws_eqBlock_ok (S := fun _ => True) Block_mkv Block_mkv hy2) fun v2 w a hp2 hf => ?_)
   obtain ⟨hb2, hp2⟩ := hp2
   obtain rfl := VR_bool hp2
   have H := H.keep hb2
   refine pr 1 hf rfl rfl fun a hf => ?_
   refine wl_end (then_n (iteB hF (fun hc3 hF => cd_t hf rfl hc3 ?_) fun hc3 hF => cd_f hf rfl hc3 ?_))
   ·refine sq (reg (pr 1 hf rfl rfl fun a hf => ?_))
    refine wl_end (then_n (wp_ret (then_r (?_))))
    obtain rfl := Option.some.inj hF
    refine ret_1 (fn := Tryz.f133) (r := .tmp 4) hf rfl (rv_tmp hf rfl) ?_
    exact ⟨_, rfl, H.bel, mk_bool⟩
   ·refine wp_skip (then_n (sq (reg (pr 1 hf rfl rfl fun a hf => ?_))))
    refine wl_end (then_n (wp_ret (?_)))
    obtain rfl := Option.some.inj hF
    refine ret_1 (fn := Tryz.f133) (r := .tmp 4) hf rfl (rv_tmp hf rfl) ?_
    exact ⟨_, rfl, H.bel, mk_bool⟩

/- loop.example/g00897/laws.eqLightS -/
set_option maxHeartbeats 1000000 in
theorem laws_eqLightS_ok {fu : Nat} {w0 : World} {S : Nat → Prop} {v0_ : Value} {v1_ : Value} {a' : List Light} {b' : List Light} {r : Bool} (h0 : VR w0 S v0_ a') (h1 : VR w0 S v1_ b') (hF : laws_eqLightS fu a' b' = some r) :
    Calls Tryz.prog 70 [v0_, v1_].toArray w0 fun e w' => ∃ v, e = .returned v ∧ (Below w0.heap.size w0 w' ∧ VR w' (St ⟨w0, []⟩ S [] [] [] true) v r) := by
 obtain ⟨A, c, rfl, hl⟩ := VR_list h0
 obtain ⟨A2, c2, rfl, hl2⟩ := VR_list h1
 have H := Mem.start ⟨w0, []⟩ S
 have H := H.pushArg (MP.val [(.slice A a'.length c)] a') hl
 have H := H.pushArg (MP.val [(.slice A2 b'.length c2)] b') hl2
 refine enter Tryz.func70 rfl rfl (nle rfl) rfl fun a hf => ?_
 rw [laws_eqLightS] at hF
 refine sq (reg (pr 1 hf rfl rfl fun a hf => ?_))
 refine wl_end (then_n (sq (sq (reg (pr 5 hf rfl rfl fun a hf => ?_)))))
 refine wl_end (then_n (iteB hF (fun hc hF => cd_t hf rfl hc ?_) fun hc hF => cd_f hf rfl hc ?_))
 ·refine sq (reg (pr 1 hf rfl rfl fun a hf => ?_))
  refine wl_end (then_n (wp_ret (then_r (?_))))
  obtain rfl := Option.some.inj hF
  refine ret_1 (fn := Tryz.f70) (r := .tmp 4) hf rfl (rv_tmp hf rfl) ?_
  exact ⟨_, rfl, H.bel, mk_bool⟩
 ·refine wp_skip (then_n (sq (sq (reg (pr 1 hf rfl rfl fun a hf => ?_)))))
  refine wl_end (then_n ?_)
  obtain ⟨out', hB1, hF⟩ := bind_some hF
  have hf := hf.prune [0, 1, 5] rfl
  have H := H.let [] [] [] [0, 1] rfl rfl rfl rfl
  refine loopC (fun (s : Int) (a : Act) (w : World) => match s with | i => Fr a 27 [(0, (.slice A a'.length c)), (1, (.slice A2 b'.length c2)), (5, (.int .i64 i))] ∧ Mem ⟨w0, []⟩ S [] [] [] [(false, MP.val [(.slice A2 b'.length c2)] (b' : List Light)), (false, MP.val [(.slice A a'.length c)] (a' : List Light))] w) (fun k (s : Int) => laws_eqLightS_L1 fu a' b' k s = some out') (fun s => out' = Out.next s) 0 fu hB1 ⟨hf, H⟩ (fun s h => by cases h) ?_ ?_
  ·rintro fk i a w hR1 hI
   replace hR1 : laws_eqLightS_L1 fu a' b' (fk + 1) i = some out' := hR1
   rw [laws_eqLightS_L1] at hR1
   obtain ⟨hf, H⟩ := hI
   refine sq (sq (reg (pr 4 hf rfl rfl fun a hf => ?_)))
   refine wl_end (then_n (iteB hR1 (fun hc2 hR1 => cd_t hf rfl hc2 ?_) fun hc2 hR1 => cd_f hf rfl hc2 ?_))
   ·refine wp_skip (then_n (sq (wp_block (sq (drawn [] (bs := [false, false, false, false, false, false, false, false, false, false]) (fuel := 10) (Checked.mixed Tryz.checked) rfl rfl fun w hb => ?_)))))
    have H := H.keep hb
    refine tp 0 rfl rfl hf (by kernel_rfl) (fun _ => trivial) rfl fun a hf => ?_
    refine tp 1 rfl rfl hf (by kernel_rfl) (fun _ => trivial) rfl fun a hf => ?_
    obtain ⟨e, he, hR1⟩ := bind_some hR1
    obtain ⟨p, o, cs, hx, hr, H⟩ := pre_iaddr H Tryz.underlying35 TF.sz112 1 rfl he
    refine tP 2 rfl rfl rfl rfl hf (by kernel_rfl) (fun _ => trivial) (fun w => rq_iaddrE hf rfl rfl rfl hx w) fun a hf => ?_
    obtain ⟨A3, c3, rfl, hl3⟩ := Light_cells hr
    have H := H.push (false, MP.val [(.slice A3 e.Route.Fibers.length c3)] e.Route.Fibers) hl3
    refine strT (H.let [] [] [] [1] rfl rfl rfl rfl) (fun w H => trivial) fun hS => ?_
    refine tS 3 [] rfl rfl rfl rfl hf (by kernel_rfl) (by kernel_rfl) hS (fun w H => rq_loadIN hf H TF.la112 0 0 rfl rfl rfl rfl) fun a hf => ?_
    refine tp 4 rfl rfl hf (by kernel_rfl) (fun _ => hS) rfl fun a hf => ?_
    refine tp 5 rfl rfl hf (by kernel_rfl) (fun _ => hS) rfl fun a hf => ?_
    obtain ⟨e2, he2, hR1⟩ := bind_some hR1
    obtain ⟨p2, o2, cs2, hx2, hr2, H⟩ := pre_iaddr H Tryz.underlying35 TF.sz112 2 rfl he2
    refine tP 6 rfl rfl rfl rfl hf (by kernel_rfl) (fun _ => hS) (fun w => rq_iaddrE hf rfl rfl rfl hx2 w) fun a hf => ?_
    obtain ⟨A4, c4, rfl, hl4⟩ := Light_cells hr2
    have H := H.push (false, MP.val [(.slice A4 e2.Route.Fibers.length c4)] e2.Route.Fibers) hl4
    refine strT (H.let [] [] [] [1, 3] rfl rfl rfl rfl) (fun w H => H.let [] [] [] [1] rfl rfl rfl rfl) fun hS => ?_
    refine tS 7 [] rfl rfl rfl rfl hf (by kernel_rfl) (by kernel_rfl) hS (fun w H => rq_loadIN hf H TF.la112 0 0 rfl rfl rfl rfl) fun a hf => ?_
    obtain ⟨y, hy, hR1⟩ := bind_some hR1
    refine n1 8 (by kernel_rfl) rfl rfl (op_call hf TF.cl133 rfl (by decide) (laws_eqLight_ok (S := fun _ => True) (Light_mkv (x := e) (rep_true (α := List Int) (H.get 2 rfl))) (Light_mkv (x := e2) (rep_true (α := List Int) (H.get 0 rfl))) hy) fun v w a hp hf => ?_)
    obtain ⟨hb, hp⟩ := hp
    obtain rfl := VR_bool hp
    have H := H.keep hb
    have hS := H.let [] [] [] [1, 3] rfl rfl rfl rfl
    refine ⟨fun _ => hS, ?_⟩
    refine tp 9 rfl rfl hf (by kernel_rfl) (fun _ => hS) rfl fun a hf => ?_
    refine dn (by kernel_rfl) ?_
    have hf := hf.prune [0, 1, 5, 26] rfl
    refine then_n (iteB hR1 (fun hc3 hR1 => cd_t hf rfl hc3 ?_) fun hc3 hR1 => cd_f hf rfl hc3 ?_)
    ·refine sq (reg (pr 1 hf rfl rfl fun a hf => ?_))
     refine wl_end (then_n (wp_ret (blk_r (then_r (then_r (blk_r (then_r (then_r (?_)))))))))
     obtain rfl := Option.some.inj hR1
     replace hF := on_ret hF
     obtain rfl := Option.some.inj hF
     refine ret_1 (fn := Tryz.f70) (r := .tmp 4) hf rfl (rv_tmp hf rfl) ?_
     exact ⟨_, rfl, H.bel, mk_bool⟩
    ·refine wp_skip (blk_n (then_n (reg (pr 3 hf rfl rfl fun a hf => ?_))))
     refine wl_end ?_
     have hf := hf.prune [0, 1, 5] rfl
     have H := H.let [] [] [] [4, 5] rfl rfl rfl rfl
     exact then_n ⟨w64 (i + 1), hR1, hf, H⟩
   ·refine wp_exit (then_x (then_x (blk_e (?_))))
    have hf := hf.prune [0, 1, 5] rfl
    have H := H.let [] [] [] [0, 1] rfl rfl rfl rfl
    exact ⟨i, (Option.some.inj hR1).symm, hf, H⟩
  rintro a w ⟨i2, rfl, hf, H⟩
  replace hF := on_next hF
  refine then_n (sq (reg (pr 1 hf rfl rfl fun a hf => ?_)))
  refine wl_end (then_n (wp_ret (?_)))
  obtain rfl := Option.some.inj hF
  refine ret_1 (fn := Tryz.f70) (r := .tmp 4) hf rfl (rv_tmp hf rfl) ?_
  exact ⟨_, rfl, H.bel, mk_bool⟩

/- loop.example/g00897/laws.eqPlan -/
set_option maxHeartbeats 1000000 in
theorem laws_eqPlan_ok {fu : Nat} {w0 : World} {S : Nat → Prop} {v0_ : Value} {v1_ : Value} {a' : Plan} {b' : Plan} {r : Bool} (h0 : VR w0 S v0_ a') (h1 : VR w0 S v1_ b') (hF : laws_eqPlan fu a' b' = some r) :
    Calls Tryz.prog 19 [v0_, v1_].toArray w0 fun e w' => ∃ v, e = .returned v ∧ (Below w0.heap.size w0 w' ∧ VR w' (St ⟨w0, []⟩ S [] [] [] true) v r) := by
 obtain ⟨A, c, A2, c2, A3, c3, rfl, hl, hl2, hl3⟩ := Plan_open h0
 obtain ⟨A4, c4, A5, c5, A6, c6, rfl, hl4, hl5, hl6⟩ := Plan_open h1
 have H := Mem.start ⟨w0, []⟩ S
 have H := H.pushArg (MP.val [(.slice A a'.Network.Nodes.length c)] a'.Network.Nodes) hl
 have H := H.pushArg (MP.val [(.slice A2 a'.Network.Fibers.length c2)] a'.Network.Fibers) hl2
 have H := H.pushArg (MP.val [(.slice A3 a'.Lights.length c3)] a'.Lights) hl3
 have H := H.pushArg (MP.val [(.slice A4 b'.Network.Nodes.length c4)] b'.Network.Nodes) hl4
 have H := H.pushArg (MP.val [(.slice A5 b'.Network.Fibers.length c5)] b'.Network.Fibers) hl5
 have H := H.pushArg (MP.val [(.slice A6 b'.Lights.length c6)] b'.Lights) hl6
 refine enter Tryz.func19 rfl rfl (nle rfl) rfl fun a hf => ?_
 rw [laws_eqPlan] at hF
 refine sq (reg (wl0 rfl (op_box hf H rfl rfl (by decide) fun b2 a w hf H => ?_)))
 refine wl0 rfl (op_box hf H rfl rfl (by decide) fun b3 a w hf H => ?_)
 refine pr 1 hf rfl rfl fun a hf => ?_
 refine wl_end (then_n (sq (sq (reg (pr 1 hf rfl rfl fun a hf => ?_)))))
 refine wl0 rfl (op_q hf (rq_loadBN hf H TF.la34 1 rfl rfl rfl rfl) rfl (by decide) fun a hf => ?_)
 refine pr 1 hf rfl rfl fun a hf => ?_
 refine wl0 rfl (op_q hf (rq_loadBN hf H TF.la34 0 rfl rfl rfl rfl) rfl (by decide) fun a hf => ?_)
 obtain ⟨y, hy, hF⟩ := bind_some hF
 refine wl0 rfl (op_call hf TF.cl69 rfl (by decide) (laws_eqNetwork_ok (S := fun _ => True) (Network_mkv (x := a'.Network) (rep_true (α := List ByteArray) (H.get 5 rfl)) (rep_true (α := List Fiber) (H.get 4 rfl))) (Network_mkv (x := b'.Network) (rep_true (α := List ByteArray) (H.get 2 rfl)) (rep_true (α := List Fiber) (H.get 1 rfl))) hy) fun v w a hp hf => ?_)
 obtain ⟨hb, hp⟩ := hp
 obtain rfl := VR_bool hp
 have H := H.keep hb
 refine pr 1 hf rfl rfl fun a hf => ?_
 refine wl_end (then_n (iteB hF (fun hc hF => cd_t hf rfl hc ?_) fun hc hF => cd_f hf rfl hc ?_))
 ·refine sq (reg (pr 1 hf rfl rfl fun a hf => ?_))
  refine wl_end (then_n (wp_ret (then_r (?_))))
  obtain rfl := Option.some.inj hF
  refine ret_1 (fn := Tryz.f19) (r := .tmp 4) hf rfl (rv_tmp hf rfl) ?_
  exact ⟨_, rfl, H.bel, mk_bool⟩
 ·refine wp_skip (then_n (sq (sq (reg (pr 1 hf rfl rfl fun a hf => ?_)))))
  refine wl0 rfl (op_q hf (rq_loadB hf H TF.ls35 1 rfl rfl rfl) rfl (by decide) fun a hf => ?_)
  refine pr 1 hf rfl rfl fun a hf => ?_
  refine wl0 rfl (op_q hf (rq_loadB hf H TF.ls35 0 rfl rfl rfl) rfl (by decide) fun a hf => ?_)
  obtain ⟨y2, hy2, hF⟩ := bind_some hF
  refine wl0 rfl (op_call hf TF.cl70 rfl (by decide) (laws_eqLightS_ok (S := fun _ => True) (mk_list (rep_true (α := List Light) (H.get 3 rfl))) (mk_list (rep_true (α := List Light) (H.get 0 rfl))) hy2) fun v2 w a hp2 hf => ?_)
  obtain ⟨hb2, hp2⟩ := hp2
  obtain rfl := VR_bool hp2
  have H := H.keep hb2
  refine pr 1 hf rfl rfl fun a hf => ?_
  have hf := hf.prune [16] rfl
  refine wl_end (then_n (iteB hF (fun hc2 hF => cd_t hf rfl hc2 ?_) fun hc2 hF => cd_f hf rfl hc2 ?_))
  ·refine sq (reg (pr 1 hf rfl rfl fun a hf => ?_))
   refine wl_end (then_n (wp_ret (then_r (?_))))
   obtain rfl := Option.some.inj hF
   refine ret_1 (fn := Tryz.f19) (r := .tmp 4) hf rfl (rv_tmp hf rfl) ?_
   exact ⟨_, rfl, H.bel, mk_bool⟩
  ·refine wp_skip (then_n (sq (reg (pr 1 hf rfl rfl fun a hf => ?_))))
   refine wl_end (then_n (wp_ret (?_)))
   obtain rfl := Option.some.inj hF
   refine ret_1 (fn := Tryz.f19) (r := .tmp 4) hf rfl (rv_tmp hf rfl) ?_
   exact ⟨_, rfl, H.bel, mk_bool⟩
end AT

