/- The Go functions do what is told of them, by program (gen.py). -/
import Derived.Test.YtokhhjepjbhhpaaGreatWC1
set_option linter.unusedVariables false
set_option linter.unusedSimpArgs false
set_option maxRecDepth 100000
namespace AT
open Go Go.RowKit Go.Proofs

/- loop.example/g00897/spec.l9Used -/
set_option maxHeartbeats 1000000 in
theorem spec_l9Used_ok {fu : Nat} {w0 : World} {S : Nat → Prop} {v0_ : Value} {v1_ : Value} {p : Plan} {fiber : Int} {r : Int} (h0 : VR w0 S v0_ p) (h1 : VR w0 S v1_ fiber) (hF : spec_l9Used fu p fiber = some r) :
    Calls Tryz.prog 75 [v0_, v1_].toArray w0 fun e w' => ∃ v, e = .returned v ∧ (Below w0.heap.size w0 w' ∧ VR w' (St ⟨w0, []⟩ S [] [] [] true) v r) := by
 obtain ⟨A, c, A2, c2, A3, c3, rfl, hl, hl2, hl3⟩ := Plan_open h0
 obtain rfl := VR_int h1
 have H := Mem.start ⟨w0, []⟩ S
 have H := H.pushArg (MP.val [(.slice A p.Network.Nodes.length c)] p.Network.Nodes) hl
 have H := H.pushArg (MP.val [(.slice A2 p.Network.Fibers.length c2)] p.Network.Fibers) hl2
 have H := H.pushArg (MP.val [(.slice A3 p.Lights.length c3)] p.Lights) hl3
 refine enter Tryz.func75 rfl rfl (nle rfl) rfl fun a hf => ?_
 rw [spec_l9Used] at hF
 refine sq (reg (wl0 rfl (op_box hf H rfl rfl (by decide) fun b' a w hf H => ?_)))
 refine pr 1 hf rfl rfl fun a hf => ?_
 refine wl_end (then_n (sq (reg (pr 1 hf rfl rfl fun a hf => ?_))))
 refine wl_end (then_n (sq (sq (reg (pr 1 hf rfl rfl fun a hf => ?_)))))
 refine wl_end (then_n ?_)
 obtain ⟨out2, hB1, hF⟩ := bind_some hF
 have hf := hf.prune [1, 2, 5, 6] rfl
 have H := H.let [true] [] [] [0, 1, 2] rfl rfl rfl rfl
 refine loopC (fun (s : Int × Int) (a : Act) (w : World) => match s with | (out', i) => Fr a 33 [(1, (.int .i64 fiber)), (2, (.pointer (some ⟨b', 0, none⟩))), (5, (.int .i64 out')), (6, (.int .i64 i))] ∧ Mem ⟨w0, []⟩ S [⟨b', 37, [(.slice A p.Network.Nodes.length c), (.slice A2 p.Network.Fibers.length c2), (.slice A3 p.Lights.length c3)]⟩] [] [] [(false, MP.val [(.slice A3 p.Lights.length c3)] (p.Lights : List Light)), (false, MP.val [(.slice A2 p.Network.Fibers.length c2)] (p.Network.Fibers : List Fiber)), (false, MP.val [(.slice A p.Network.Nodes.length c)] (p.Network.Nodes : List ByteArray))] w) (fun k (s : Int × Int) => spec_l9Used_L1 fu p fiber k s.1 s.2 = some out2) (fun s => out2 = s) (0, 0) fu hB1 ⟨hf, H⟩ (fun s h => by cases h) ?_ ?_
 ·rintro fk ⟨out', i⟩ a w hR1 hI
  replace hR1 : spec_l9Used_L1 fu p fiber (fk + 1) out' i = some out2 := hR1
  rw [spec_l9Used_L1] at hR1
  obtain ⟨hf, H⟩ := hI
  refine sq (sq (reg (pr 2 hf rfl rfl fun a hf => ?_)))
  refine wl0 rfl (op_q hf (rq_loadB hf H TF.ls35 0 rfl rfl rfl) rfl (by decide) fun a hf => ?_)
  refine pr 2 hf rfl rfl fun a hf => ?_
  refine wl_end (then_n (iteB hR1 (fun hc hR1 => cd_t hf rfl hc ?_) fun hc hR1 => cd_f hf rfl hc ?_))
  ·refine wp_skip (then_n (sq (wp_block (sq (reg (pr 1 hf rfl rfl fun a hf => ?_))))))
   refine wl0 rfl (op_q hf (rq_loadB hf H TF.ls35 0 rfl rfl rfl) rfl (by decide) fun a hf => ?_)
   refine pr 1 hf rfl rfl fun a hf => ?_
   obtain ⟨e, he, hR1⟩ := bind_some hR1
   refine wl0 rfl (op_iaddr hf H Tryz.underlying35 TF.sz112 0 rfl rfl rfl he (by decide) fun p2 o cs a hf hr H => ?_)
   obtain ⟨A4, c4, rfl, hl4⟩ := Light_cells hr
   have H := H.push (false, MP.val [(.slice A4 e.Route.Fibers.length c4)] e.Route.Fibers) hl4
   refine pr 2 hf rfl rfl fun a hf => ?_
   refine wl0 rfl (op_q hf (rq_loadI hf H TF.ls44 1 2 rfl rfl rfl) rfl (by decide) fun a hf => ?_)
   refine pr 1 hf rfl rfl fun a hf => ?_
   obtain ⟨y, hy, hR1⟩ := bind_some hR1
   refine wl0 rfl (op_call hf TF.cl140 rfl (by decide) (spec_l1Has_ok (S := fun _ => True) (mk_list (rep_true (α := List Int) (H.get 0 rfl))) mk_int hy) fun v w a hp hf => ?_)
   obtain ⟨hb, hp⟩ := hp
   obtain rfl := VR_bool hp
   have H := H.keep hb
   have hf := hf.prune [1, 2, 5, 6, 22] rfl
   refine wl_end (then_n (iteB hR1 (fun hc2 hR1 => cd_t hf rfl hc2 ?_) fun hc2 hR1 => cd_f hf rfl hc2 ?_))
   ·refine reg (pr 2 hf rfl rfl fun a hf => ?_)
    refine wl0 rfl (op_q hf (rq_loadB hf H TF.ls35 0 rfl rfl rfl) rfl (by decide) fun a hf => ?_)
    refine pr 1 hf rfl rfl fun a hf => ?_
    obtain ⟨e2, he2, hR1⟩ := bind_some hR1
    refine wl0 rfl (op_iaddr hf H Tryz.underlying35 TF.sz112 2 rfl rfl rfl he2 (by decide) fun p3 o2 cs2 a hf hr2 H => ?_)
    obtain ⟨A5, c5, rfl, hl5⟩ := Light_cells hr2
    have H := H.push (false, MP.val [(.slice A5 e2.Route.Fibers.length c5)] e2.Route.Fibers) hl5
    refine pr 1 hf rfl rfl fun a hf => ?_
    refine wl0 rfl (op_q hf (rq_loadIN hf H TF.la110 1 3 rfl rfl rfl rfl) rfl (by decide) fun a hf => ?_)
    obtain ⟨y2, hy2, hR1⟩ := bind_some hR1
    refine wl0 rfl (op_call hf TF.cl141 rfl (by decide) (spec_l8Bits_ok (S := fun _ => True) Block_mkv hy2) fun v2 w a hp2 hf => ?_)
    obtain ⟨hb2, hp2⟩ := hp2
    obtain rfl := VR_int hp2
    have H := H.keep hb2
    refine pr 2 hf rfl rfl fun a hf => ?_
    refine wl_end (blk_n (then_n (reg (pr 3 hf rfl rfl fun a hf => ?_))))
    refine wl_end ?_
    have hf := hf.prune [1, 2, 5, 6] rfl
    have H := H.let [true] [] [] [4, 5, 6] rfl rfl rfl rfl
    exact then_n ⟨(bor out' y2, w64 (i + 1)), hR1, hf, H⟩
   ·refine wp_skip (blk_n (then_n (reg (pr 3 hf rfl rfl fun a hf => ?_))))
    refine wl_end ?_
    have hf := hf.prune [1, 2, 5, 6] rfl
    have H := H.let [true] [] [] [2, 3, 4] rfl rfl rfl rfl
    exact then_n ⟨(out', w64 (i + 1)), hR1, hf, H⟩
  ·refine wp_exit (then_x (then_x (blk_e (?_))))
   have hf := hf.prune [1, 2, 5, 6] rfl
   have H := H.let [true] [] [] [0, 1, 2] rfl rfl rfl rfl
   exact ⟨(out', i), (Option.some.inj hR1).symm, hf, H⟩
 rintro a w ⟨⟨out3, i2⟩, rfl, hf, H⟩
 dsimp only at hF
 refine then_n (sq (reg (pr 2 hf rfl rfl fun a hf => ?_)))
 refine wl_end (then_n (wp_ret (?_)))
 obtain rfl := Option.some.inj hF
 refine ret_1 (fn := Tryz.f75) (r := .tmp 4) hf rfl (rv_tmp hf rfl) ?_
 exact ⟨_, rfl, H.bel, mk_int⟩

/- loop.example/g00897/spec.l8Mask -/
set_option maxHeartbeats 1000000 in
theorem spec_l8Mask_ok {fu : Nat} {w0 : World} {S : Nat → Prop} {v0_ : Value} {mask : Int} {r : Bool} (h0 : VR w0 S v0_ mask) (hF : spec_l8Mask fu mask = some r) :
    Calls Tryz.prog 137 [v0_].toArray w0 fun e w' => ∃ v, e = .returned v ∧ (Below w0.heap.size w0 w' ∧ VR w' (St ⟨w0, []⟩ S [] [] [] true) v r) := by
 obtain rfl := VR_int h0
 have H := Mem.start ⟨w0, []⟩ S
 refine enter Tryz.func137 rfl rfl (nle rfl) rfl fun a hf => ?_
 rw [spec_l8Mask] at hF
 refine sq (reg (pr 1 hf rfl rfl fun a hf => ?_))
 refine wl_end (then_n (sq (reg (pr 1 hf rfl rfl fun a hf => ?_))))
 obtain ⟨y, hy, hF⟩ := bind_some hF
 refine wl0 rfl (op_call hf TF.cl83 rfl (by decide) (spec_l1In_ok (S := fun _ => True) mk_int mk_int mk_int hy) fun v w a hp hf => ?_)
 obtain ⟨hb, hp⟩ := hp
 obtain rfl := VR_bool hp
 have H := H.keep hb
 refine pr 1 hf rfl rfl fun a hf => ?_
 refine wl_end (then_n (wp_ret (?_)))
 obtain rfl := Option.some.inj hF
 refine ret_1 (fn := Tryz.f137) (r := .tmp 2) hf rfl (rv_tmp hf rfl) ?_
 exact ⟨_, rfl, H.bel, mk_bool⟩

/- loop.example/g00897/spec.l8Count -/
set_option maxHeartbeats 1000000 in
theorem spec_l8Count_ok {fu : Nat} {w0 : World} {S : Nat → Prop} {v0_ : Value} {mask : Int} {r : Int} (h0 : VR w0 S v0_ mask) (hF : spec_l8Count fu mask = some r) :
    Calls Tryz.prog 138 [v0_].toArray w0 fun e w' => ∃ v, e = .returned v ∧ (Below w0.heap.size w0 w' ∧ VR w' (St ⟨w0, []⟩ S [] [] [] true) v r) := by
 obtain rfl := VR_int h0
 have H := Mem.start ⟨w0, []⟩ S
 refine enter Tryz.func138 rfl rfl (nle rfl) rfl fun a hf => ?_
 rw [spec_l8Count] at hF
 refine sq (reg (pr 1 hf rfl rfl fun a hf => ?_))
 refine wl_end (then_n (sq (reg (pr 1 hf rfl rfl fun a hf => ?_))))
 refine wl_end (then_n (sq (sq (reg (pr 1 hf rfl rfl fun a hf => ?_)))))
 refine wl_end (then_n ?_)
 obtain ⟨out', hB1, hF⟩ := bind_some hF
 have hf := hf.prune [0, 3, 4] rfl
 have H := H.let [] [] [] [] rfl rfl rfl rfl
 refine loopC (fun (s : Int × Int) (a : Act) (w : World) => match s with | (n', s') => Fr a 17 [(0, (.int .i64 mask)), (3, (.int .i64 n')), (4, (.int .i64 s'))] ∧ Mem ⟨w0, []⟩ S [] [] [] [] w) (fun k (s : Int × Int) => spec_l8Count_L1 fu mask k s.1 s.2 = some out') (fun s => out' = s) (0, 0) fu hB1 ⟨hf, H⟩ (fun s h => by cases h) ?_ ?_
 ·rintro fk ⟨n', s'⟩ a w hR1 hI
  replace hR1 : spec_l8Count_L1 fu mask (fk + 1) n' s' = some out' := hR1
  rw [spec_l8Count_L1] at hR1
  obtain ⟨hf, H⟩ := hI
  refine sq (sq (reg (pr 2 hf rfl rfl fun a hf => ?_)))
  refine wl_end (then_n (iteB hR1 (fun hc hR1 => cd_t hf rfl hc ?_) fun hc hR1 => cd_f hf rfl hc ?_))
  ·refine wp_skip (then_n (sq (wp_block (reg (pr 3 hf rfl rfl fun a hf => ?_)))))
   refine wl0 rfl (op_q hf (rq_conv u64w Tryz.underlying3 Tryz.underlying172 hf rfl) rfl (by decide) fun a hf => ?_)
   obtain ⟨q, hq, hR1⟩ := bind_some hR1
   refine wl0 rfl (op_q hf (rq_shr hf rfl rfl hq) rfl (by decide) fun a hf => ?_)
   refine pr 3 hf rfl rfl fun a hf => ?_
   refine wl_end (blk_n (then_n (reg (pr 3 hf rfl rfl fun a hf => ?_))))
   refine wl_end ?_
   have hf := hf.prune [0, 3, 4] rfl
   have H := H.let [] [] [] [] rfl rfl rfl rfl
   exact then_n ⟨(w64 (n' + (band q 1)), w64 (s' + 1)), hR1, hf, H⟩
  ·refine wp_exit (then_x (then_x (blk_e (?_))))
   have hf := hf.prune [0, 3, 4] rfl
   have H := H.let [] [] [] [] rfl rfl rfl rfl
   exact ⟨(n', s'), (Option.some.inj hR1).symm, hf, H⟩
 rintro a w ⟨⟨n2, s2⟩, rfl, hf, H⟩
 dsimp only at hF
 refine then_n (sq (reg (pr 2 hf rfl rfl fun a hf => ?_)))
 refine wl_end (then_n (wp_ret (?_)))
 obtain rfl := Option.some.inj hF
 refine ret_1 (fn := Tryz.f138) (r := .tmp 2) hf rfl (rv_tmp hf rfl) ?_
 exact ⟨_, rfl, H.bel, mk_int⟩

/- loop.example/g00897/spec.l8Runs -/
set_option maxHeartbeats 1000000 in
theorem spec_l8Runs_ok {fu : Nat} {w0 : World} {S : Nat → Prop} {v0_ : Value} {mask : Int} {r : List Block} (h0 : VR w0 S v0_ mask) (hF : spec_l8Runs fu mask = some r) :
    Calls Tryz.prog 196 [v0_].toArray w0 fun e w' => ∃ v, e = .returned v ∧ (Below w0.heap.size w0 w' ∧ ∃ F0, VO w' F0 v r ∧ New w0 w' F0) := by
 obtain rfl := VR_int h0
 have H := Mem.start ⟨w0, []⟩ S
 refine enter Tryz.func196 rfl rfl (nle rfl) rfl fun a hf => ?_
 rw [spec_l8Runs] at hF
 refine sq (reg (pr 1 hf rfl rfl fun a hf => ?_))
 refine wl_end (then_n (sq (reg (wl0 rfl (op_bslice hf H (.sh true) rfl 110 ([] : List Block) [] rfl (fun w => by kernel_rfl) rfl (by decide) rfl trivial el0 (by decide) fun A a w hf H => ?_)))))
 refine pr 1 hf rfl rfl fun a hf => ?_
 refine wl_end (then_n (sq (reg (pr 1 hf rfl rfl fun a hf => ?_))))
 refine wl_end (then_n (sq (sq (reg (pr 1 hf rfl rfl fun a hf => ?_)))))
 refine wl_end (then_n ?_)
 obtain ⟨out2, hB1, hF⟩ := bind_some hF
 have hf := hf.prune [0, 3, 4, 5] rfl
 have H := H.let [] [true] [] [] rfl rfl rfl rfl
 refine loopC (fun (s : Int × Int × List Block) (a : Act) (w : World) => match s with | (count, s', out') => ∃ (A2 : Option Addr) (c : Nat) (E : Go.TypeId), Fr a 34 [(0, (.int .i64 mask)), (3, (.slice A2 out'.length c)), (4, (.int .i64 count)), (5, (.int .i64 s'))] ∧ Mem ⟨w0, []⟩ S [] [⟨.sh true, E, A2, c, (out' : List Block)⟩] [] [] w) (fun k (s : Int × Int × List Block) => spec_l8Runs_L1 fu mask k s.1 s.2.1 s.2.2 = some out2) (fun s => out2 = s) (0, 0, ([] : List Block)) fu hB1 ⟨A, 0, 110, hf, H⟩ (fun s h => by cases h) ?_ ?_
 ·rintro fk ⟨count, s', out'⟩ a w hR1 hI
  replace hR1 : spec_l8Runs_L1 fu mask (fk + 1) count s' out' = some out2 := hR1
  rw [spec_l8Runs_L1] at hR1
  obtain ⟨A2, c, E, hf, H⟩ := hI
  refine sq (sq (reg (pr 2 hf rfl rfl fun a hf => ?_)))
  refine wl_end (then_n (iteB hR1 (fun hc hR1 => cd_t hf rfl hc ?_) fun hc hR1 => cd_f hf rfl hc ?_))
  ·refine wp_skip (then_n (sq (wp_block (sq (sq ?_)))))
   obtain ⟨c2, hGc2, hR1⟩ := bind_some hR1
   have fh := hf.prune [0, 3, 4, 5] rfl
   have Hm := H.let [] [true] [] [] rfl rfl rfl rfl
   refine midF 20 (.bool c2) fh Hm ?_ fun a w hf H => ?_
   ·refine reg (pr 3 hf rfl rfl fun a hf => ?_)
    refine iteB hGc2 (fun hc2 hGc2 => ?_) fun hc2 hGc2 => ?_
    ·have hf := hf.lit 13 rfl hc2
     refine pr 2 hf rfl rfl fun a hf => ?_
     refine wlg hf rfl rfl rfl (op_q hf (rq_conv u64w Tryz.underlying3 Tryz.underlying172 hf rfl) rfl (by decide) fun a hf => ?_)
     obtain ⟨q, hq, hGc2⟩ := bind_some hGc2
     refine wlg hf rfl rfl rfl (op_q hf (rq_shr hf rfl rfl hq) rfl (by decide) fun a hf => ?_)
     refine pr 3 hf rfl rfl fun a hf => ?_
     obtain rfl := Option.some.inj hGc2
     have hf := hf.prune [20, 0, 3, 4, 5] rfl
     have H := H.let [] [true] [] [] rfl rfl rfl rfl
     exact wl_end ⟨hf, H⟩
    ·have hf := hf.lit 13 rfl hc2
     refine pr 7 hf rfl rfl fun a hf => ?_
     obtain rfl := Option.some.inj hGc2
     have hf := hf.prune [20, 0, 3, 4, 5] rfl
     have H := H.let [] [true] [] [] rfl rfl rfl rfl
     exact wl_end ⟨hf, H⟩
   refine then_n (iteB hR1 (fun hc3 hR1 => cd_t hf rfl hc3 ?_) fun hc3 hR1 => cd_f hf rfl hc3 ?_)
   ·refine sq (reg (pr 3 hf rfl rfl fun a hf => ?_))
    refine wl_end (then_n (wp_exit (then_x (blk_e (?_)))))
    refine then_n (reg (pr 3 hf rfl rfl fun a hf => ?_))
    refine wl_end ?_
    have hf := hf.prune [0, 3, 4, 5] rfl
    have H := H.let [] [true] [] [] rfl rfl rfl rfl
    exact then_n ⟨(w64 (count + 1), w64 (s' + 1), out'), hR1, A2, c, E, hf, H⟩
   ·refine wp_skip (then_n (sq (sq (reg (pr 2 hf rfl rfl fun a hf => ?_)))))
    refine wl_end (then_n (iteB hR1 (fun hc4 hR1 => cd_t hf rfl hc4 ?_) fun hc4 hR1 => cd_f hf rfl hc4 ?_))
    ·refine reg (pr 5 hf rfl rfl fun a hf => ?_)
     refine wl0 rfl (op_q hf (rq_build hf (cs := [(.int .i64 (w64 (s' - count))), (.int .i64 count)]) rfl (fun w => by kernel_rfl)) rfl (by decide) fun a hf => ?_)
     refine wl0 rfl (op_bslice hf H (.sh true) rfl 110 ([({ First := w64 (s' - count), Count := count } : Block)] : List Block) [(.int .i64 (w64 (s' - count))), (.int .i64 count)] rfl (fun w => by kernel_rfl) rfl (by decide) rfl trivial (el1 (y := ({ First := w64 (s' - count), Count := count } : Block)) ((Block_mk (x := ({ First := w64 (s' - count), Count := count } : Block))))) (by decide) fun A3 a w hf H => ?_)
     obtain ⟨l, hl, hR1⟩ := bind_some hR1
     refine wl0 rfl (op_appR hf H Tryz.underlying128 TF.ai110 rfl (by decide) 1 0 rfl rfl rfl rfl (.inr rfl) hl (by decide) fun E2 A4 c3 a w hf H => ?_)
     refine pr 1 hf rfl rfl fun a hf => ?_
     refine wl_end (then_n (reg (pr 1 hf rfl rfl fun a hf => ?_)))
     refine wl_end (blk_n (then_n (reg (pr 3 hf rfl rfl fun a hf => ?_))))
     have hf := hf.prune [0, 3, 4, 5] rfl
     refine wl_end ?_
     have hf := hf.prune [0, 3, 4, 5] rfl
     have H := H.let [] [false, true] [] [] rfl rfl rfl rfl
     exact then_n ⟨(0, w64 (s' + 1), l), hR1, A4, c3, E2, hf, H⟩
    ·refine wp_skip (then_n (reg (pr 1 hf rfl rfl fun a hf => ?_)))
     refine wl_end (blk_n (then_n (reg (pr 3 hf rfl rfl fun a hf => ?_))))
     refine wl_end ?_
     have hf := hf.prune [0, 3, 4, 5] rfl
     have H := H.let [] [true] [] [] rfl rfl rfl rfl
     exact then_n ⟨(0, w64 (s' + 1), out'), hR1, A2, c, E, hf, H⟩
  ·refine wp_exit (then_x (then_x (blk_e (?_))))
   have hf := hf.prune [0, 3, 4, 5] rfl
   have H := H.let [] [true] [] [] rfl rfl rfl rfl
   exact ⟨(count, s', out'), (Option.some.inj hR1).symm, A2, c, E, hf, H⟩
 rintro a w ⟨⟨count2, s2, out3⟩, rfl, A5, c4, E3, hf, H⟩
 dsimp only at hF
 refine then_n (sq (reg (pr 2 hf rfl rfl fun a hf => ?_)))
 refine wl_end (then_n (wp_ret (?_)))
 have H := H.rowOwn 0 rfl rfl
 obtain ⟨F, H⟩ := H.freezeOwn 0 rfl
 have H := H.lend 0 rfl
 obtain rfl := Option.some.inj hF
 refine ret_1 (fn := Tryz.f196) (r := .tmp 2) hf rfl (rv_tmp hf rfl) ?_
 have hN := H.ends (X := [(⟨F, MP.own F [(.slice A5 out3.length c4)] (out3 : List Block)⟩ : DI)])
 simp only [List.flatMap_cons, List.flatMap_nil, List.append_nil, List.append_assoc] at hN
 exact ⟨_, rfl, H.bel, F, (mko_list (H.ownAt 0 rfl)), hN⟩

/- loop.example/g00897/spec.l1Most -/
set_option maxHeartbeats 1000000 in
theorem spec_l1Most_ok {fu : Nat} {w0 : World} {S : Nat → Prop} {v0_ : Value} {v1_ : Value} {a' : Int} {b' : Int} {r : Int} (h0 : VR w0 S v0_ a') (h1 : VR w0 S v1_ b') (hF : spec_l1Most fu a' b' = some r) :
    Calls Tryz.prog 76 [v0_, v1_].toArray w0 fun e w' => ∃ v, e = .returned v ∧ (Below w0.heap.size w0 w' ∧ VR w' (St ⟨w0, []⟩ S [] [] [] true) v r) := by
 obtain rfl := VR_int h0
 obtain rfl := VR_int h1
 have H := Mem.start ⟨w0, []⟩ S
 refine enter Tryz.func76 rfl rfl (nle rfl) rfl fun a hf => ?_
 rw [spec_l1Most] at hF
 refine sq (reg (pr 1 hf rfl rfl fun a hf => ?_))
 refine wl_end (then_n (sq (sq (reg (pr 3 hf rfl rfl fun a hf => ?_)))))
 refine wl_end (then_n (iteB hF (fun hc hF => cd_t hf rfl hc ?_) fun hc hF => cd_f hf rfl hc ?_))
 ·refine sq (reg (pr 2 hf rfl rfl fun a hf => ?_))
  refine wl_end (then_n (wp_ret (then_r (?_))))
  obtain rfl := Option.some.inj hF
  refine ret_1 (fn := Tryz.f76) (r := .tmp 4) hf rfl (rv_tmp hf rfl) ?_
  exact ⟨_, rfl, H.bel, mk_int⟩
 ·refine wp_skip (then_n (sq (reg (pr 2 hf rfl rfl fun a hf => ?_))))
  refine wl_end (then_n (wp_ret (?_)))
  obtain rfl := Option.some.inj hF
  refine ret_1 (fn := Tryz.f76) (r := .tmp 4) hf rfl (rv_tmp hf rfl) ?_
  exact ⟨_, rfl, H.bel, mk_int⟩

/- loop.example/g00897/spec.l8Longest -/
set_option maxHeartbeats 1000000 in
theorem spec_l8Longest_ok {fu : Nat} {w0 : World} {S : Nat → Prop} {v0_ : Value} {mask : Int} {r : Int} (h0 : VR w0 S v0_ mask) (hF : spec_l8Longest fu mask = some r) :
    Calls Tryz.prog 139 [v0_].toArray w0 fun e w' => ∃ v, e = .returned v ∧ (Below w0.heap.size w0 w' ∧ VR w' (St ⟨w0, []⟩ S [] [] [] true) v r) := by
 obtain rfl := VR_int h0
 have H := Mem.start ⟨w0, []⟩ S
 refine enter Tryz.func139 rfl rfl (nle rfl) rfl fun a hf => ?_
 rw [spec_l8Longest] at hF
 refine sq (reg (pr 1 hf rfl rfl fun a hf => ?_))
 refine wl_end (then_n (sq (reg (pr 1 hf rfl rfl fun a hf => ?_))))
 obtain ⟨y, hy, hF⟩ := bind_some hF
 refine wl0 rfl (op_call hf TF.cl196 rfl (by decide) (spec_l8Runs_ok (S := fun _ => True) mk_int hy) fun v w a hp hf => ?_)
 obtain ⟨hb, F, hp2, hN⟩ := hp
 obtain ⟨A, c, rfl, hl⟩ := VO_list hp2
 have H := H.addOwn hb (X := [(⟨F, MP.own F [(.slice A y.length c)] (y : List Block)⟩ : DI)]) (by simpa using hN.1) (ps1 hl ps0) (by simpa using hN.2)
 have H := H.lend 0 rfl
 refine pr 1 hf rfl rfl fun a hf => ?_
 refine wl_end (then_n (sq (reg (pr 1 hf rfl rfl fun a hf => ?_))))
 refine wl_end (then_n (sq (sq (reg (pr 1 hf rfl rfl fun a hf => ?_)))))
 refine wl_end (then_n ?_)
 obtain ⟨out', hB1, hF⟩ := bind_some hF
 have hf := hf.prune [3, 4, 5] rfl
 have H := H.let [] [] [true] [0] rfl rfl rfl rfl
 refine loopC (fun (s : Int × Int) (a : Act) (w : World) => match s with | (most, i) => Fr a 22 [(3, (.slice A y.length c)), (4, (.int .i64 most)), (5, (.int .i64 i))] ∧ Mem ⟨w0, []⟩ S [] [] [⟨F, MP.own F [(.slice A y.length c)] (y : List Block)⟩] [(true, MP.val [(.slice A y.length c)] (y : List Block))] w) (fun k (s : Int × Int) => spec_l8Longest_L1 fu y k s.1 s.2 = some out') (fun s => out' = s) (0, 0) fu hB1 ⟨hf, H⟩ (fun s h => by cases h) ?_ ?_
 ·rintro fk ⟨most, i⟩ a w hR1 hI
  replace hR1 : spec_l8Longest_L1 fu y (fk + 1) most i = some out' := hR1
  rw [spec_l8Longest_L1] at hR1
  obtain ⟨hf, H⟩ := hI
  refine sq (sq (reg (pr 4 hf rfl rfl fun a hf => ?_)))
  refine wl_end (then_n (iteB hR1 (fun hc hR1 => cd_t hf rfl hc ?_) fun hc hR1 => cd_f hf rfl hc ?_))
  ·refine wp_skip (then_n (sq (wp_block (reg (pr 3 hf rfl rfl fun a hf => ?_)))))
   obtain ⟨e, he, hR1⟩ := bind_some hR1
   refine wl0 rfl (op_iaddr hf H Tryz.underlying128 TF.sz110 0 rfl rfl rfl he (by decide) fun p o cs a hf hr H => ?_)
   obtain rfl := Block_cells hr
   refine pr 1 hf rfl rfl fun a hf => ?_
   refine wl0 rfl (op_q hf (rq_loadI hf H TF.ls3 0 1 rfl rfl rfl) rfl (by decide) fun a hf => ?_)
   obtain ⟨y2, hy2, hR1⟩ := bind_some hR1
   refine wl0 rfl (op_call hf TF.cl76 rfl (by decide) (spec_l1Most_ok (S := fun _ => True) mk_int mk_int hy2) fun v2 w a hp3 hf => ?_)
   obtain ⟨hb2, hp3⟩ := hp3
   obtain rfl := VR_int hp3
   have H := H.keep hb2
   refine pr 1 hf rfl rfl fun a hf => ?_
   refine wl_end (blk_n (then_n (reg (pr 3 hf rfl rfl fun a hf => ?_))))
   have hf := hf.prune [3, 4, 5] rfl
   refine wl_end ?_
   have hf := hf.prune [3, 4, 5] rfl
   have H := H.let [] [] [true] [1] rfl rfl rfl rfl
   exact then_n ⟨(y2, w64 (i + 1)), hR1, hf, H⟩
  ·refine wp_exit (then_x (then_x (blk_e (?_))))
   have hf := hf.prune [3, 4, 5] rfl
   have H := H.let [] [] [true] [0] rfl rfl rfl rfl
   exact ⟨(most, i), (Option.some.inj hR1).symm, hf, H⟩
 rintro a w ⟨⟨most2, i2⟩, rfl, hf, H⟩
 dsimp only at hF
 refine then_n (sq (reg (pr 2 hf rfl rfl fun a hf => ?_)))
 refine wl_end (then_n (wp_ret (?_)))
 obtain rfl := Option.some.inj hF
 refine ret_1 (fn := Tryz.f139) (r := .tmp 2) hf rfl (rv_tmp hf rfl) ?_
 exact ⟨_, rfl, H.bel, mk_int⟩

/- loop.example/g00897/spec.SpectrumUse -/
set_option maxHeartbeats 1000000 in
theorem spec_SpectrumUse_ok {fu : Nat} {w0 : World} {S : Nat → Prop} {v0_ : Value} {mask : Int} {r : Int × Int × Int × Bool} (h0 : VR w0 S v0_ mask) (hF : spec_SpectrumUse fu mask = some r) :
    Calls Tryz.prog 74 [v0_].toArray w0 fun e w' => ∃ v, e = .returned v ∧ (Below w0.heap.size w0 w' ∧ ∃ u0 u1 u2 u3, v = .tuple #[u0, u1, u2, u3] ∧ VR w' (St ⟨w0, []⟩ S [] [] [] true) u0 r.1 ∧ VR w' (St ⟨w0, []⟩ S [] [] [] true) u1 r.2.1 ∧ VR w' (St ⟨w0, []⟩ S [] [] [] true) u2 r.2.2.1 ∧ VR w' (St ⟨w0, []⟩ S [] [] [] true) u3 r.2.2.2) := by
 obtain rfl := VR_int h0
 have H := Mem.start ⟨w0, []⟩ S
 refine enter Tryz.func74 rfl rfl (nle rfl) rfl fun a hf => ?_
 rw [spec_SpectrumUse] at hF
 refine sq (reg (pr 4 hf rfl rfl fun a hf => ?_))
 refine wl_end (then_n (sq (sq (reg (pr 1 hf rfl rfl fun a hf => ?_)))))
 obtain ⟨y, hy, hF⟩ := bind_some hF
 refine wl0 rfl (op_call hf TF.cl137 rfl (by decide) (spec_l8Mask_ok (S := fun _ => True) mk_int hy) fun v w a hp hf => ?_)
 obtain ⟨hb, hp⟩ := hp
 obtain rfl := VR_bool hp
 have H := H.keep hb
 refine pr 1 hf rfl rfl fun a hf => ?_
 refine wl_end (then_n (iteB hF (fun hc hF => cd_t hf rfl hc ?_) fun hc hF => cd_f hf rfl hc ?_))
 ·refine sq (reg (pr 4 hf rfl rfl fun a hf => ?_))
  refine wl_end (then_n (wp_ret (then_r (?_))))
  obtain rfl := Option.some.inj hF
  refine ret_4 (fn := Tryz.f74) (r := .tmp 2) (s := .tmp 3) (t := .tmp 4) (x3 := .tmp 5) hf rfl (rv_tmp hf rfl) (rv_tmp hf rfl) (rv_tmp hf rfl) (rv_tmp hf rfl) ?_
  exact ⟨_, rfl, H.bel, _, _, _, _, rfl, mk_int, mk_int, mk_int, mk_bool⟩
 ·refine wp_skip (then_n (sq (reg (pr 1 hf rfl rfl fun a hf => ?_))))
  obtain ⟨y2, hy2, hF⟩ := bind_some hF
  refine wl0 rfl (op_call hf TF.cl138 rfl (by decide) (spec_l8Count_ok (S := fun _ => True) mk_int hy2) fun v2 w a hp2 hf => ?_)
  obtain ⟨hb2, hp2⟩ := hp2
  obtain rfl := VR_int hp2
  have H := H.keep hb2
  refine pr 1 hf rfl rfl fun a hf => ?_
  obtain ⟨y3, hy3, hF⟩ := bind_some hF
  refine wl0 rfl (op_call hf TF.cl139 rfl (by decide) (spec_l8Longest_ok (S := fun _ => True) mk_int hy3) fun v3 w a hp3 hf => ?_)
  obtain ⟨hb3, hp3⟩ := hp3
  obtain rfl := VR_int hp3
  have H := H.keep hb3
  refine pr 2 hf rfl rfl fun a hf => ?_
  refine wl_end (then_n (sq (reg (pr 3 hf rfl rfl fun a hf => ?_))))
  have hf := hf.prune [6, 7, 8] rfl
  refine wl_end (then_n (sq (sq (reg (pr 2 hf rfl rfl fun a hf => ?_)))))
  refine wl_end (then_n (iteB hF (fun hc2 hF => cd_t hf rfl hc2 ?_) fun hc2 hF => cd_f hf rfl hc2 ?_))
  ·refine sq (reg (pr 6 hf rfl rfl fun a hf => ?_))
   refine wl_end (then_n (wp_ret (then_r (?_))))
   obtain rfl := Option.some.inj hF
   refine ret_4 (fn := Tryz.f74) (r := .tmp 2) (s := .tmp 3) (t := .tmp 4) (x3 := .tmp 5) hf rfl (rv_tmp hf rfl) (rv_tmp hf rfl) (rv_tmp hf rfl) (rv_tmp hf rfl) ?_
   exact ⟨_, rfl, H.bel, _, _, _, _, rfl, mk_int, mk_int, mk_int, mk_bool⟩
  ·refine wp_skip (then_n (sq (drawn [] (bs := [false, false, false, false, false, false, false, false, false, false, false, false, false, false]) (fuel := 14) (Checked.mixed Tryz.checked) rfl rfl fun w hb => ?_)))
   have H := H.keep hb
   refine tp 0 rfl rfl hf (by kernel_rfl) (fun _ => trivial) rfl fun a hf => ?_
   refine tp 1 rfl rfl hf (by kernel_rfl) (fun _ => trivial) rfl fun a hf => ?_
   refine tp 2 rfl rfl hf (by kernel_rfl) (fun _ => trivial) rfl fun a hf => ?_
   refine tp 3 rfl rfl hf (by kernel_rfl) (fun _ => trivial) rfl fun a hf => ?_
   refine tp 4 rfl rfl hf (by kernel_rfl) (fun _ => trivial) rfl fun a hf => ?_
   refine tp 5 rfl rfl hf (by kernel_rfl) (fun _ => trivial) rfl fun a hf => ?_
   refine tp 6 rfl rfl hf (by kernel_rfl) (fun _ => trivial) rfl fun a hf => ?_
   refine tp 7 rfl rfl hf (by kernel_rfl) (fun _ => trivial) rfl fun a hf => ?_
   obtain ⟨q, hq, hF⟩ := bind_some hF
   refine tP 8 rfl rfl rfl rfl hf (by kernel_rfl) (fun _ => trivial) (fun w => rq_quo hf rfl rfl hq) fun a hf => ?_
   refine tp 9 rfl rfl hf (by kernel_rfl) (fun _ => trivial) rfl fun a hf => ?_
   refine tp 10 rfl rfl hf (by kernel_rfl) (fun _ => trivial) rfl fun a hf => ?_
   refine tp 11 rfl rfl hf (by kernel_rfl) (fun _ => trivial) rfl fun a hf => ?_
   refine tp 12 rfl rfl hf (by kernel_rfl) (fun _ => trivial) rfl fun a hf => ?_
   refine tp 13 rfl rfl hf (by kernel_rfl) (fun _ => trivial) rfl fun a hf => ?_
   refine dn (by kernel_rfl) ?_
   have hf := hf.prune [2, 3, 4, 5] rfl
   refine then_n (wp_ret (?_))
   obtain rfl := Option.some.inj hF
   refine ret_4 (fn := Tryz.f74) (r := .tmp 2) (s := .tmp 3) (t := .tmp 4) (x3 := .tmp 5) hf rfl (rv_tmp hf rfl) (rv_tmp hf rfl) (rv_tmp hf rfl) (rv_tmp hf rfl) ?_
   exact ⟨_, rfl, H.bel, _, _, _, _, rfl, mk_int, mk_int, mk_int, mk_bool⟩

/- loop.example/g00897/spec.FragmentationOf -/
set_option maxHeartbeats 1000000 in
theorem spec_FragmentationOf_ok {fu : Nat} {w0 : World} {S : Nat → Prop} {v0_ : Value} {p : Plan} {r : List Int × Int × Bool} (h0 : VR w0 S v0_ p) (hF : spec_FragmentationOf fu p = some r) :
    Calls Tryz.prog 22 [v0_].toArray w0 fun e w' => ∃ v, e = .returned v ∧ (Below w0.heap.size w0 w' ∧ ∃ F0, ∃ u0 u1 u2, v = .tuple #[u0, u1, u2] ∧ VO w' F0 u0 r.1 ∧ VR w' (St ⟨w0, []⟩ S [] [] [] true) u1 r.2.1 ∧ VR w' (St ⟨w0, []⟩ S [] [] [] true) u2 r.2.2 ∧ New w0 w' F0) := by
 obtain ⟨A, c, A2, c2, A3, c3, rfl, hl, hl2, hl3⟩ := Plan_open h0
 have H := Mem.start ⟨w0, []⟩ S
 have H := H.pushArg (MP.val [(.slice A p.Network.Nodes.length c)] p.Network.Nodes) hl
 have H := H.pushArg (MP.val [(.slice A2 p.Network.Fibers.length c2)] p.Network.Fibers) hl2
 have H := H.pushArg (MP.val [(.slice A3 p.Lights.length c3)] p.Lights) hl3
 refine enter Tryz.func22 rfl rfl (nle rfl) rfl fun a hf => ?_
 rw [spec_FragmentationOf] at hF
 refine sq (reg (wl0 rfl (op_box hf H rfl rfl (by decide) fun b' a w hf H => ?_)))
 refine pr 3 hf rfl rfl fun a hf => ?_
 refine wl_end (then_n (sq (reg (wl0 rfl (op_bslice hf H (.sh true) rfl 3 ([] : List Int) [] rfl (fun w => by kernel_rfl) rfl (by decide) rfl trivial el0 (by decide) fun A4 a w hf H => ?_)))))
 refine pr 1 hf rfl rfl fun a hf => ?_
 refine wl_end (then_n (sq (sq (reg (wl0 rfl (op_q hf (rq_loadBN hf H TF.la37 0 rfl rfl rfl rfl) rfl (by decide) fun a hf => ?_))))))
 obtain ⟨y, hy, hF⟩ := bind_some hF
 refine wl0 rfl (op_call hf TF.cl62 rfl (by decide) (spec_l9Good_ok (S := fun _ => True) (Plan_mkv (x := p) (rep_true (α := List ByteArray) (H.get 2 rfl)) (rep_true (α := List Fiber) (H.get 1 rfl)) (rep_true (α := List Light) (H.get 0 rfl))) hy) fun v w a hp hf => ?_)
 obtain ⟨hb, hp⟩ := hp
 obtain rfl := VR_bool hp
 have H := H.keep hb
 refine pr 1 hf rfl rfl fun a hf => ?_
 refine wl_end (then_n (iteB hF (fun hc hF => cd_t hf rfl hc ?_) fun hc hF => cd_f hf rfl hc ?_))
 ·refine sq (reg (pr 4 hf rfl rfl fun a hf => ?_))
  refine wl_end (then_n (wp_ret (then_r (?_))))
  have H := H.rowOwn 0 rfl rfl
  obtain ⟨F, H⟩ := H.freezeOwn 0 rfl
  have H := H.lend 0 rfl
  obtain rfl := Option.some.inj hF
  refine ret_3 (fn := Tryz.f22) (r := .tmp 2) (s := .tmp 3) (t := .tmp 4) hf rfl (rv_tmp hf rfl) (rv_tmp hf rfl) (rv_tmp hf rfl) ?_
  have hN := H.ends (X := [(⟨F, MP.own F [(.slice A4 0 0)] (([] : List Int) : List Int)⟩ : DI)])
  simp only [List.flatMap_cons, List.flatMap_nil, List.append_nil, List.append_assoc] at hN
  exact ⟨_, rfl, H.bel, F, _, _, _, rfl, (mko_list (H.ownAt 0 rfl)), mk_int, mk_bool, hN⟩
 ·refine wp_skip (then_n (sq (reg (pr 1 hf rfl rfl fun a hf => ?_))))
  refine wl_end (then_n (sq (sq (reg (pr 1 hf rfl rfl fun a hf => ?_)))))
  refine wl_end (then_n ?_)
  obtain ⟨out2, hB1, hF⟩ := bind_some hF
  have hf := hf.prune [1, 5, 6, 7] rfl
  have H := H.let [true] [true] [] [0, 1, 2] rfl rfl rfl rfl
  refine loopC (fun (s : List Int × Int × Int) (a : Act) (w : World) => match s with | (out', most, f) => ∃ (A5 : Option Addr) (c4 : Nat) (E : Go.TypeId), Fr a 43 [(1, (.pointer (some ⟨b', 0, none⟩))), (5, (.slice A5 out'.length c4)), (6, (.int .i64 most)), (7, (.int .i64 f))] ∧ Mem ⟨w0, []⟩ S [⟨b', 37, [(.slice A p.Network.Nodes.length c), (.slice A2 p.Network.Fibers.length c2), (.slice A3 p.Lights.length c3)]⟩] [⟨.sh true, E, A5, c4, (out' : List Int)⟩] [] [(false, MP.val [(.slice A3 p.Lights.length c3)] (p.Lights : List Light)), (false, MP.val [(.slice A2 p.Network.Fibers.length c2)] (p.Network.Fibers : List Fiber)), (false, MP.val [(.slice A p.Network.Nodes.length c)] (p.Network.Nodes : List ByteArray))] w) (fun k (s : List Int × Int × Int) => spec_FragmentationOf_L1 fu p k s.1 s.2.1 s.2.2 = some out2) (fun s => out2 = s) (([] : List Int), 0, 0) fu hB1 ⟨A4, 0, 3, hf, H⟩ (fun s h => by cases h) ?_ ?_
  ·rintro fk ⟨out', most, f⟩ a w hR1 hI
   replace hR1 : spec_FragmentationOf_L1 fu p (fk + 1) out' most f = some out2 := hR1
   rw [spec_FragmentationOf_L1] at hR1
   obtain ⟨A5, c4, E, hf, H⟩ := hI
   refine sq (sq (reg (pr 3 hf rfl rfl fun a hf => ?_)))
   refine wl0 rfl (op_q hf (rq_loadB hf H TF.ls32 0 rfl rfl rfl) rfl (by decide) fun a hf => ?_)
   refine pr 2 hf rfl rfl fun a hf => ?_
   refine wl_end (then_n (iteB hR1 (fun hc2 hR1 => cd_t hf rfl hc2 ?_) fun hc2 hR1 => cd_f hf rfl hc2 ?_))
   ·refine wp_skip (then_n (sq (wp_block (sq (reg (wl0 rfl (op_q hf (rq_loadBN hf H TF.la37 0 rfl rfl rfl rfl) rfl (by decide) fun a hf => ?_)))))))
    refine pr 1 hf rfl rfl fun a hf => ?_
    obtain ⟨y2, hy2, hR1⟩ := bind_some hR1
    refine wl0 rfl (op_call hf TF.cl75 rfl (by decide) (spec_l9Used_ok (S := fun _ => True) (Plan_mkv (x := p) (rep_true (α := List ByteArray) (H.get 2 rfl)) (rep_true (α := List Fiber) (H.get 1 rfl)) (rep_true (α := List Light) (H.get 0 rfl))) mk_int hy2) fun v2 w a hp2 hf => ?_)
    obtain ⟨hb2, hp2⟩ := hp2
    obtain rfl := VR_int hp2
    have H := H.keep hb2
    obtain ⟨y3, hy3, hR1⟩ := bind_some hR1
    refine wl0 rfl (op_call hf TF.cl74 rfl (by decide) (spec_SpectrumUse_ok (S := fun _ => True) mk_int hy3) fun v3 w a hp3 hf => ?_)
    obtain ⟨hb3, v4, v5, v6, v7, rfl, hp4, hp5, hp6, hp7⟩ := hp3
    obtain rfl := VR_int hp4
    obtain rfl := VR_int hp5
    obtain rfl := VR_int hp6
    obtain rfl := VR_bool hp7
    have H := H.keep hb3
    refine pr 9 hf rfl rfl fun a hf => ?_
    have hf := hf.prune [1, 5, 6, 7, 10] rfl
    refine wl_end (then_n (sq (reg (pr 2 hf rfl rfl fun a hf => ?_))))
    refine wl0 rfl (op_bslice hf H (.sh true) rfl 3 ([y3.2.2.1] : List Int) [(.int .i64 y3.2.2.1)] rfl (fun w => by kernel_rfl) rfl (by decide) rfl trivial (el1 (y := y3.2.2.1) (rfl)) (by decide) fun A6 a w hf H => ?_)
    obtain ⟨l, hl, hR1⟩ := bind_some hR1
    refine wl0 rfl (op_appR hf H Tryz.underlying44 TF.ai3 rfl (by decide) 1 0 rfl rfl rfl rfl (.inr rfl) hl (by decide) fun E2 A7 c5 a w hf H => ?_)
    refine pr 1 hf rfl rfl fun a hf => ?_
    refine wl_end (then_n (reg (pr 2 hf rfl rfl fun a hf => ?_)))
    obtain ⟨y4, hy4, hR1⟩ := bind_some hR1
    refine wl0 rfl (op_call hf TF.cl76 rfl (by decide) (spec_l1Most_ok (S := fun _ => True) mk_int mk_int hy4) fun v8 w a hp8 hf => ?_)
    obtain ⟨hb4, hp8⟩ := hp8
    obtain rfl := VR_int hp8
    have H := H.keep hb4
    refine pr 1 hf rfl rfl fun a hf => ?_
    refine wl_end (blk_n (then_n (reg (pr 3 hf rfl rfl fun a hf => ?_))))
    refine wl_end ?_
    have hf := hf.prune [1, 5, 6, 7] rfl
    have H := H.let [true] [false, true] [] [0, 1, 2] rfl rfl rfl rfl
    exact then_n ⟨(l, y4, w64 (f + 1)), hR1, A7, c5, E2, hf, H⟩
   ·refine wp_exit (then_x (then_x (blk_e (?_))))
    have hf := hf.prune [1, 5, 6, 7] rfl
    have H := H.let [true] [true] [] [0, 1, 2] rfl rfl rfl rfl
    exact ⟨(out', most, f), (Option.some.inj hR1).symm, A5, c4, E, hf, H⟩
  rintro a w ⟨⟨out3, most2, f2⟩, rfl, A8, c6, E3, hf, H⟩
  dsimp only at hF
  refine then_n (sq (reg (pr 5 hf rfl rfl fun a hf => ?_)))
  refine wl_end (then_n (wp_ret (?_)))
  have H := H.rowOwn 0 rfl rfl
  obtain ⟨F2, H⟩ := H.freezeOwn 0 rfl
  have H := H.lend 0 rfl
  obtain rfl := Option.some.inj hF
  refine ret_3 (fn := Tryz.f22) (r := .tmp 2) (s := .tmp 3) (t := .tmp 4) hf rfl (rv_tmp hf rfl) (rv_tmp hf rfl) (rv_tmp hf rfl) ?_
  have hN := H.ends (X := [(⟨F2, MP.own F2 [(.slice A8 out3.length c6)] (out3 : List Int)⟩ : DI)])
  simp only [List.flatMap_cons, List.flatMap_nil, List.append_nil, List.append_assoc] at hN
  exact ⟨_, rfl, H.bel, F2, _, _, _, rfl, (mko_list (H.ownAt 0 rfl)), mk_int, mk_bool, hN⟩

/- loop.example/g00897/impl.fiberMasks -/
set_option maxHeartbeats 1000000 in
theorem impl_fiberMasks_ok {fu : Nat} {w0 : World} {S : Nat → Prop} {v0_ : Value} {p : Plan} {r : List Int} (h0 : VR w0 S v0_ p) (hF : impl_fiberMasks fu p = some r) :
    Calls Tryz.prog 77 [v0_].toArray w0 fun e w' => ∃ v, e = .returned v ∧ (Below w0.heap.size w0 w' ∧ ∃ F0, VO w' F0 v r ∧ New w0 w' F0) := by
 obtain ⟨A, c, A2, c2, A3, c3, rfl, hl, hl2, hl3⟩ := Plan_open h0
 have H := Mem.start ⟨w0, []⟩ S
 have H := H.pushArg (MP.val [(.slice A p.Network.Nodes.length c)] p.Network.Nodes) hl
 have H := H.pushArg (MP.val [(.slice A2 p.Network.Fibers.length c2)] p.Network.Fibers) hl2
 have H := H.pushArg (MP.val [(.slice A3 p.Lights.length c3)] p.Lights) hl3
 refine enter Tryz.func77 rfl rfl (nle rfl) rfl fun a hf => ?_
 rw [impl_fiberMasks] at hF
 refine sq (reg (wl0 rfl (op_box hf H rfl rfl (by decide) fun b' a w hf H => ?_)))
 refine pr 1 hf rfl rfl fun a hf => ?_
 refine wl_end (then_n (sq (reg (pr 2 hf rfl rfl fun a hf => ?_))))
 refine wl0 rfl (op_q hf (rq_loadB hf H TF.ls32 0 rfl rfl rfl) rfl (by decide) fun a hf => ?_)
 refine pr 1 hf rfl rfl fun a hf => ?_
 obtain ⟨l, hl, hF⟩ := bind_some hF
 refine wl0 rfl (op_make (z0 := (0 : Int)) hf H Tryz.underlying44 TF.ai3 rfl (by decide) rfl rfl rfl hl (by decide) fun A4 c4 a w hf H => ?_)
 refine pr 1 hf rfl rfl fun a hf => ?_
 refine wl_end (then_n (sq (sq (reg (pr 1 hf rfl rfl fun a hf => ?_)))))
 refine wl0 rfl (op_q hf (rq_loadB hf H TF.ls35 0 rfl rfl rfl) rfl (by decide) fun a hf => ?_)
 refine pr 2 hf rfl rfl fun a hf => ?_
 refine wl_end (then_n ?_)
 obtain ⟨out2, hB1, hF⟩ := bind_some hF
 have hf := hf.prune [3, 14, 15, 16] rfl
 have H := H.let [false] [true] [] [0] rfl rfl rfl rfl
 refine loopC (fun (s : List Int × Int) (a : Act) (w : World) => match s with | (out', i) => ∃ (A5 : Option Addr) (c5 : Nat) (E : Go.TypeId), Fr a 40 [(3, (.slice A5 out'.length c5)), (14, (.slice A3 p.Lights.length c3)), (15, (.int .i64 (p.Lights.length : Int))), (16, (.int .i64 i))] ∧ Mem ⟨w0, []⟩ S [] [⟨.sh true, E, A5, c5, (out' : List Int)⟩] [] [(false, MP.val [(.slice A3 p.Lights.length c3)] (p.Lights : List Light))] w) (fun k (s : List Int × Int) => impl_fiberMasks_L1 fu p k s.1 s.2 = some out2) (fun s => out2 = s) (l, 0) fu hB1 ⟨A4, c4, 3, hf, H⟩ (fun s h => by cases h) ?_ ?_
 ·rintro fk ⟨out', i⟩ a w hR1 hI
  replace hR1 : impl_fiberMasks_L1 fu p (fk + 1) out' i = some out2 := hR1
  rw [impl_fiberMasks_L1] at hR1
  obtain ⟨A5, c5, E, hf, H⟩ := hI
  refine sq (reg (pr 1 hf rfl rfl fun a hf => ?_))
  refine wl_end (then_n (sq (iteB hR1 (fun hc hR1 => cd_t hf rfl hc ?_) fun hc hR1 => cd_f hf rfl hc ?_)))
  ·refine wp_skip (then_n (sq (wp_block (sq (reg ?_)))))
   obtain ⟨e, he, hR1⟩ := bind_some hR1
   refine wl0 rfl (op_iaddr hf H Tryz.underlying35 TF.sz112 0 rfl rfl rfl he (by decide) fun p2 o cs a hf hr H => ?_)
   obtain ⟨A6, c6, rfl, hl4⟩ := Light_cells hr
   have H := H.push (false, MP.val [(.slice A6 e.Route.Fibers.length c6)] e.Route.Fibers) hl4
   refine wl0 rfl (op_q hf (rq_loadIN hf H TF.la112 1 0 rfl rfl rfl rfl) rfl (by decide) fun a hf => ?_)
   refine wl0 rfl (op_alloc hf H TF.zv112 rfl (by decide) fun b2 a w hf H => ?_)
   refine wl0 rfl (op_storeB hf H 0 TF.sz112 rfl rfl rfl rfl rfl rfl (nle rfl) fun w H => ?_)
   refine wl_end (then_n (sq (reg (pr 2 hf rfl rfl fun a hf => ?_))))
   refine wl0 rfl (op_q hf (rq_loadB hf H TF.ls44 0 rfl rfl rfl) rfl (by decide) fun a hf => ?_)
   refine pr 2 hf rfl rfl fun a hf => ?_
   refine wl_end (then_n ?_)
   obtain ⟨out4, hB2, hR1⟩ := bind_some hR1
   have hf := hf.prune [3, 5, 14, 15, 16, 22, 23, 24] rfl
   have H := H.let [true] [true] [] [0, 2] rfl rfl rfl rfl
   refine loopC (fun (s : List Int × Int) (a : Act) (w : World) => match s with | (out3, i2) => ∃ (A7 : Option Addr) (c7 : Nat) (E2 : Go.TypeId), Fr a 40 [(3, (.slice A7 out3.length c7)), (5, (.pointer (some ⟨b2, 0, none⟩))), (14, (.slice A3 p.Lights.length c3)), (15, (.int .i64 (p.Lights.length : Int))), (16, (.int .i64 i)), (22, (.slice A6 e.Route.Fibers.length c6)), (23, (.int .i64 (e.Route.Fibers.length : Int))), (24, (.int .i64 i2))] ∧ Mem ⟨w0, []⟩ S [⟨b2, 112, [(.int .i64 e.Id), (.int .i64 e.Route.Start), (.slice A6 e.Route.Fibers.length c6), (.int .i64 e.Block.First), (.int .i64 e.Block.Count)]⟩] [⟨.sh true, E2, A7, c7, (out3 : List Int)⟩] [] [(false, MP.val [(.slice A6 e.Route.Fibers.length c6)] (e.Route.Fibers : List Int)), (false, MP.val [(.slice A3 p.Lights.length c3)] (p.Lights : List Light))] w) (fun k (s : List Int × Int) => impl_fiberMasks_L2 fu e k s.1 s.2 = some out4) (fun s => out4 = s) (out', 0) fu hB2 ⟨A5, c5, E, hf, H⟩ (fun s h => by cases h) ?_ ?_
   ·rintro fk ⟨out3, i2⟩ a w hR2 hI
    replace hR2 : impl_fiberMasks_L2 fu e (fk + 1) out3 i2 = some out4 := hR2
    rw [impl_fiberMasks_L2] at hR2
    obtain ⟨A7, c7, E2, hf, H⟩ := hI
    refine sq (reg (pr 1 hf rfl rfl fun a hf => ?_))
    refine wl_end (then_n (sq (iteB hR2 (fun hc2 hR2 => cd_t hf rfl hc2 ?_) fun hc2 hR2 => cd_f hf rfl hc2 ?_)))
    ·refine wp_skip (then_n (sq (wp_block (sq (reg ?_)))))
     obtain ⟨e2, he2, hR2⟩ := bind_some hR2
     refine wl0 rfl (op_iaddr hf H Tryz.underlying44 TF.sz3 0 rfl rfl rfl he2 (by decide) fun p3 o2 cs2 a hf hr2 H => ?_)
     obtain rfl := hr2
     refine wl0 rfl (op_q hf (rq_loadI hf H TF.ls3 0 0 rfl rfl rfl) rfl (by decide) fun a hf => ?_)
     refine pr 1 hf rfl rfl fun a hf => ?_
     refine wl_end (then_n (drawn [9] (bs := [false, false, false, false, false, false, false, false, false, false]) (fuel := 10) (Checked.mixed Tryz.checked) rfl rfl fun w hb => ?_))
     have H := H.keep hb
     refine tp 0 rfl rfl hf (by kernel_rfl) (fun _ => trivial) rfl fun a hf => ?_
     refine tp 1 rfl rfl hf (by kernel_rfl) (fun _ => trivial) rfl fun a hf => ?_
     obtain ⟨e3, he3, hR2⟩ := bind_some hR2
     obtain ⟨p4, o3, hA, hx⟩ := pre_iaddrR H Tryz.underlying44 TF.sz3 0 rfl he3
     refine tP 2 rfl rfl rfl rfl hf (by kernel_rfl) (fun _ => trivial) (fun w => rq_iaddrE hf rfl rfl rfl hx w) fun a hf => ?_
     refine strT (H.let [false] [true] [] [] rfl rfl rfl rfl) (fun w H => trivial) fun hS => ?_
     refine tS 3 [3, 7, 8, 9] rfl rfl rfl rfl hf (by kernel_rfl) (by kernel_rfl) hS (fun w H => rq_loadRow (off := 0) hf H TF.ls3 0 rfl rfl hA he3 (fun w T cs h => by obtain rfl := h; rfl)) fun a hf => ?_
     refine tp 4 rfl rfl hf (by kernel_rfl) (fun _ => hS) rfl fun a hf => ?_
     refine strT (H.let [true] [true] [] [] rfl rfl rfl rfl) (fun w H => H.let [false] [true] [] [] rfl rfl rfl rfl) fun hS => ?_
     refine tS 5 [5, 6, 7, 8, 9] rfl rfl rfl rfl hf (by kernel_rfl) (by kernel_rfl) hS (fun w H => rq_loadBN hf H TF.la110 0 rfl rfl rfl rfl) fun a hf => ?_
     obtain ⟨y, hy, hR2⟩ := bind_some hR2
     refine n1 6 (by kernel_rfl) rfl rfl (op_call hf TF.cl128 rfl (by decide) (impl_maskOf_ok (S := fun _ => True) Block_mkv hy) fun v w a hp hf => ?_)
     obtain ⟨hb, hp⟩ := hp
     obtain rfl := VR_int hp
     have H := H.keep hb
     have hS := H.let [true] [true] [] [] rfl rfl rfl rfl
     refine ⟨fun _ => hS, ?_⟩
     refine tp 7 rfl rfl hf (by kernel_rfl) (fun _ => hS) rfl fun a hf => ?_
     obtain ⟨e4, he4, hR2⟩ := bind_some hR2
     refine n1 8 (by kernel_rfl) rfl rfl (op_iaddrR hf H Tryz.underlying44 TF.sz3 0 rfl rfl rfl he4 (by decide) fun p5 o4 cs3 a hf hA2 hr3 hk => ?_)
     obtain rfl := hr3
     have hS := H.let [true] [true] [] [] rfl rfl rfl rfl
     refine ⟨fun _ => hS, ?_⟩
     refine n1 9 (by kernel_rfl) rfl rfl (op_storeR (e' := bor e3 y) (o := o4) (off := 0) hf H TF.sz3 0 rfl rfl rfl rfl rfl (nle rfl) rfl hA2 he4 (st_full rfl) fun w H => ?_)
     replace hf : Fr a 40 [(3, (.slice A7 out3.length c7)), (5, (.pointer (some ⟨b2, 0, none⟩))), (7, (.int .i64 e2)), (14, (.slice A3 p.Lights.length c3)), (15, (.int .i64 (p.Lights.length : Int))), (16, (.int .i64 i)), (22, (.slice A6 e.Route.Fibers.length c6)), (23, (.int .i64 (e.Route.Fibers.length : Int))), (24, (.int .i64 i2)), (25, (.bool (decide (i2 < (e.Route.Fibers.length : Int))))), (26, (.pointer (some ⟨p3, o2 + 0, none⟩))), (27, (.int .i64 e2)), (28, (.slice A7 out3.length c7)), (29, (.int .i64 e2)), (30, (.pointer (some ⟨p4, o3 + 0, none⟩))), (31, (.int .i64 e3)), (32, (.pointer (some ⟨b2, 3, none⟩))), (33, (.agg #[(.int .i64 e.Block.First), (.int .i64 e.Block.Count)])), (34, (.int .i64 y)), (35, (.int .i64 (bor e3 y))), (36, (.pointer (some ⟨p5, o4 + 0, none⟩)))] := hf.prune [3, 5, 7, 14, 15, 16, 22, 23, 24, 25, 26, 27, 28, 29, 30, 31, 32, 33, 34, 35, 36] rfl
     replace hf : Fr a 40 [(3, (.slice A7 (out3.set (e2).toNat (bor e3 y)).length c7)), (5, (.pointer (some ⟨b2, 0, none⟩))), (7, (.int .i64 e2)), (14, (.slice A3 p.Lights.length c3)), (15, (.int .i64 (p.Lights.length : Int))), (16, (.int .i64 i)), (22, (.slice A6 e.Route.Fibers.length c6)), (23, (.int .i64 (e.Route.Fibers.length : Int))), (24, (.int .i64 i2)), (25, (.bool (decide (i2 < (e.Route.Fibers.length : Int))))), (26, (.pointer (some ⟨p3, o2 + 0, none⟩))), (27, (.int .i64 e2)), (28, (.slice A7 (out3.set (e2).toNat (bor e3 y)).length c7)), (29, (.int .i64 e2)), (30, (.pointer (some ⟨p4, o3 + 0, none⟩))), (31, (.int .i64 e3)), (32, (.pointer (some ⟨b2, 3, none⟩))), (33, (.agg #[(.int .i64 e.Block.First), (.int .i64 e.Block.Count)])), (34, (.int .i64 y)), (35, (.int .i64 (bor e3 y))), (36, (.pointer (some ⟨p5, o4 + 0, none⟩)))] := by simpa only [List.length_set, Nat.add_zero] using hf
     refine ⟨fun h => absurd h (by decide), ?_⟩
     refine dn (by kernel_rfl) ?_
     have hf := hf.prune [3, 5, 14, 15, 16, 22, 23, 24] rfl
     refine blk_n (then_n (reg (pr 2 hf rfl rfl fun a hf => ?_)))
     refine wl_end ?_
     have hf := hf.prune [3, 5, 14, 15, 16, 22, 23, 24] rfl
     have H := H.let [true] [true] [] [1, 2] rfl rfl rfl rfl
     exact then_n ⟨(out3.set (e2).toNat (bor e3 y), w64 (i2 + 1)), hR2, A7, c7, E2, hf, H⟩
    ·refine wp_exit (then_x (then_x (blk_e (?_))))
     have hf := hf.prune [3, 5, 14, 15, 16, 22, 23, 24] rfl
     have H := H.let [true] [true] [] [0, 1] rfl rfl rfl rfl
     exact ⟨(out3, i2), (Option.some.inj hR2).symm, A7, c7, E2, hf, H⟩
   rintro a w ⟨⟨out5, i3⟩, rfl, A8, c8, E3, hf, H⟩
   dsimp only at hR1
   refine blk_n (then_n (reg (pr 2 hf rfl rfl fun a hf => ?_)))
   refine wl_end ?_
   have hf := hf.prune [3, 14, 15, 16] rfl
   have H := H.let [false] [true] [] [1] rfl rfl rfl rfl
   exact then_n ⟨(out5, w64 (i + 1)), hR1, A8, c8, E3, hf, H⟩
  ·refine wp_exit (then_x (then_x (blk_e (?_))))
   have hf := hf.prune [3, 14, 15, 16] rfl
   have H := H.let [] [true] [] [0] rfl rfl rfl rfl
   exact ⟨(out', i), (Option.some.inj hR1).symm, A5, c5, E, hf, H⟩
 rintro a w ⟨⟨out6, i4⟩, rfl, A9, c9, E4, hf, H⟩
 dsimp only at hF
 refine then_n (sq (reg (pr 2 hf rfl rfl fun a hf => ?_)))
 refine wl_end (then_n (wp_ret (?_)))
 have H := H.rowOwn 0 rfl rfl
 obtain ⟨F, H⟩ := H.freezeOwn 0 rfl
 have H := H.lend 0 rfl
 obtain rfl := Option.some.inj hF
 refine ret_1 (fn := Tryz.f77) (r := .tmp 2) hf rfl (rv_tmp hf rfl) ?_
 have hN := H.ends (X := [(⟨F, MP.own F [(.slice A9 out6.length c9)] (out6 : List Int)⟩ : DI)])
 simp only [List.flatMap_cons, List.flatMap_nil, List.append_nil, List.append_assoc] at hN
 exact ⟨_, rfl, H.bel, F, (mko_list (H.ownAt 0 rfl)), hN⟩

/- loop.example/g00897/impl.isMask -/
set_option maxHeartbeats 1000000 in
theorem impl_isMask_ok {fu : Nat} {w0 : World} {S : Nat → Prop} {v0_ : Value} {mask : Int} {r : Bool} (h0 : VR w0 S v0_ mask) (hF : impl_isMask fu mask = some r) :
    Calls Tryz.prog 142 [v0_].toArray w0 fun e w' => ∃ v, e = .returned v ∧ (Below w0.heap.size w0 w' ∧ VR w' (St ⟨w0, []⟩ S [] [] [] true) v r) := by
 obtain rfl := VR_int h0
 have H := Mem.start ⟨w0, []⟩ S
 refine enter Tryz.func142 rfl rfl (nle rfl) rfl fun a hf => ?_
 rw [impl_isMask] at hF
 refine sq (reg (pr 1 hf rfl rfl fun a hf => ?_))
 refine wl_end (then_n (sq (reg (pr 1 hf rfl rfl fun a hf => ?_))))
 obtain ⟨y, hy, hF⟩ := bind_some hF
 refine wl0 rfl (op_call hf TF.cl85 rfl (by decide) (impl_within_ok (S := fun _ => True) mk_int mk_int mk_int hy) fun v w a hp hf => ?_)
 obtain ⟨hb, hp⟩ := hp
 obtain rfl := VR_bool hp
 have H := H.keep hb
 refine pr 1 hf rfl rfl fun a hf => ?_
 refine wl_end (then_n (wp_ret (?_)))
 obtain rfl := Option.some.inj hF
 refine ret_1 (fn := Tryz.f142) (r := .tmp 2) hf rfl (rv_tmp hf rfl) ?_
 exact ⟨_, rfl, H.bel, mk_bool⟩

/- math/bits.OnesCount64 -/
set_option maxHeartbeats 1000000 in
theorem math_bits_OnesCount64_ok {fu : Nat} {w0 : World} {S : Nat → Prop} {v0_ : Value} {x1 : U64} {r : Int} (h0 : VR w0 S v0_ x1) (hF : math_bits_OnesCount64 fu x1 = some r) :
    Calls Tryz.prog 198 [v0_].toArray w0 fun e w' => ∃ v, e = .returned v ∧ (Below w0.heap.size w0 w' ∧ VR w' (St ⟨w0, []⟩ S [] [] [] true) v r) := by
 obtain rfl := VR_u64 h0
 have H := Mem.start ⟨w0, []⟩ S
 refine enter Tryz.func198 rfl rfl (nle rfl) rfl fun a hf => ?_
 rw [math_bits_OnesCount64] at hF
 refine sq (reg (pr 1 hf rfl rfl fun a hf => ?_))
 refine wl_end (then_n (sq (reg (pr 1 hf rfl rfl fun a hf => ?_))))
 obtain ⟨q, hq, hF⟩ := bind_some hF
 refine wl0 rfl (op_q hf (rq_shrK rfl hf rfl rfl hq) rfl (by decide) fun a hf => ?_)
 refine wl0 rfl (op_q hf (rq_andu64 hf rfl rfl) rfl (by decide) fun a hf => ?_)
 refine pr 1 hf rfl rfl fun a hf => ?_
 refine wl0 rfl (op_q hf (rq_andu64 hf rfl rfl) rfl (by decide) fun a hf => ?_)
 refine wl0 rfl (op_q hf (rq_addK u64w hf rfl rfl) rfl (by decide) fun a hf => ?_)
 refine pr 1 hf rfl rfl fun a hf => ?_
 refine wl_end (then_n (sq (reg (pr 1 hf rfl rfl fun a hf => ?_))))
 obtain ⟨q2, hq2, hF⟩ := bind_some hF
 refine wl0 rfl (op_q hf (rq_shrK rfl hf rfl rfl hq2) rfl (by decide) fun a hf => ?_)
 refine wl0 rfl (op_q hf (rq_andu64 hf rfl rfl) rfl (by decide) fun a hf => ?_)
 refine pr 1 hf rfl rfl fun a hf => ?_
 refine wl0 rfl (op_q hf (rq_andu64 hf rfl rfl) rfl (by decide) fun a hf => ?_)
 refine wl0 rfl (op_q hf (rq_addK u64w hf rfl rfl) rfl (by decide) fun a hf => ?_)
 refine pr 1 hf rfl rfl fun a hf => ?_
 have hf := hf.prune [0] rfl
 refine wl_end (then_n (sq (reg (pr 1 hf rfl rfl fun a hf => ?_))))
 obtain ⟨q3, hq3, hF⟩ := bind_some hF
 refine wl0 rfl (op_q hf (rq_shrK rfl hf rfl rfl hq3) rfl (by decide) fun a hf => ?_)
 refine pr 1 hf rfl rfl fun a hf => ?_
 refine wl0 rfl (op_q hf (rq_addK u64w hf rfl rfl) rfl (by decide) fun a hf => ?_)
 refine wl0 rfl (op_q hf (rq_andu64 hf rfl rfl) rfl (by decide) fun a hf => ?_)
 refine pr 1 hf rfl rfl fun a hf => ?_
 refine wl_end (then_n (sq (reg (pr 2 hf rfl rfl fun a hf => ?_))))
 obtain ⟨q4, hq4, hF⟩ := bind_some hF
 refine wl0 rfl (op_q hf (rq_shrK rfl hf rfl rfl hq4) rfl (by decide) fun a hf => ?_)
 refine wl0 rfl (op_q hf (rq_addK u64w hf rfl rfl) rfl (by decide) fun a hf => ?_)
 refine pr 1 hf rfl rfl fun a hf => ?_
 refine wl_end (then_n (sq (reg (pr 2 hf rfl rfl fun a hf => ?_))))
 obtain ⟨q5, hq5, hF⟩ := bind_some hF
 refine wl0 rfl (op_q hf (rq_shrK rfl hf rfl rfl hq5) rfl (by decide) fun a hf => ?_)
 refine wl0 rfl (op_q hf (rq_addK u64w hf rfl rfl) rfl (by decide) fun a hf => ?_)
 refine pr 1 hf rfl rfl fun a hf => ?_
 have hf := hf.prune [0] rfl
 refine wl_end (then_n (sq (reg (pr 2 hf rfl rfl fun a hf => ?_))))
 obtain ⟨q6, hq6, hF⟩ := bind_some hF
 refine wl0 rfl (op_q hf (rq_shrK rfl hf rfl rfl hq6) rfl (by decide) fun a hf => ?_)
 refine wl0 rfl (op_q hf (rq_addK u64w hf rfl rfl) rfl (by decide) fun a hf => ?_)
 refine pr 1 hf rfl rfl fun a hf => ?_
 refine wl_end (then_n (sq (reg (pr 1 hf rfl rfl fun a hf => ?_))))
 refine wl0 rfl (op_q hf (rq_conv i64w Tryz.underlying214 Tryz.underlying3 hf rfl) rfl (by decide) fun a hf => ?_)
 refine pr 2 hf rfl rfl fun a hf => ?_
 refine wl_end (then_n (wp_ret (?_)))
 obtain rfl := Option.some.inj hF
 refine ret_1 (fn := Tryz.f198) (r := .tmp 2) hf rfl (rv_tmp hf rfl) ?_
 exact ⟨_, rfl, H.bel, mk_int⟩

/- math/bits.OnesCount -/
set_option maxHeartbeats 1000000 in
theorem math_bits_OnesCount_ok {fu : Nat} {w0 : World} {S : Nat → Prop} {v0_ : Value} {x1 : U64} {r : Int} (h0 : VR w0 S v0_ x1) (hF : math_bits_OnesCount fu x1 = some r) :
    Calls Tryz.prog 143 [v0_].toArray w0 fun e w' => ∃ v, e = .returned v ∧ (Below w0.heap.size w0 w' ∧ VR w' (St ⟨w0, []⟩ S [] [] [] true) v r) := by
 obtain rfl := VR_u64 h0
 have H := Mem.start ⟨w0, []⟩ S
 refine enter Tryz.func143 rfl rfl (nle rfl) rfl fun a hf => ?_
 rw [math_bits_OnesCount] at hF
 refine sq (reg (pr 1 hf rfl rfl fun a hf => ?_))
 refine wl_end (then_n (sq (cd_f hf rfl rfl (wp_skip (then_n (sq (reg (pr 1 hf rfl rfl fun a hf => ?_))))))))
 obtain ⟨y, hy, hF⟩ := bind_some hF
 refine wl0 rfl (op_call hf TF.cl198 rfl (by decide) (math_bits_OnesCount64_ok (S := fun _ => True) mk_u64 hy) fun v w a hp hf => ?_)
 obtain ⟨hb, hp⟩ := hp
 obtain rfl := VR_int hp
 have H := H.keep hb
 refine pr 1 hf rfl rfl fun a hf => ?_
 refine wl_end (then_n (wp_ret (?_)))
 obtain rfl := Option.some.inj hF
 refine ret_1 (fn := Tryz.f143) (r := .tmp 2) hf rfl (rv_tmp hf rfl) ?_
 exact ⟨_, rfl, H.bel, mk_int⟩

/- loop.example/g00897/impl.freeRuns -/
set_option maxHeartbeats 1000000 in
theorem impl_freeRuns_ok {fu : Nat} {w0 : World} {S : Nat → Prop} {v0_ : Value} {mask : Int} {r : List Block} (h0 : VR w0 S v0_ mask) (hF : impl_freeRuns fu mask = some r) :
    Calls Tryz.prog 144 [v0_].toArray w0 fun e w' => ∃ v, e = .returned v ∧ (Below w0.heap.size w0 w' ∧ ∃ F0, VO w' F0 v r ∧ New w0 w' F0) := by
 obtain rfl := VR_int h0
 have H := Mem.start ⟨w0, []⟩ S
 refine enter Tryz.func144 rfl rfl (nle rfl) rfl fun a hf => ?_
 rw [impl_freeRuns] at hF
 refine sq (reg (pr 1 hf rfl rfl fun a hf => ?_))
 refine wl_end (then_n (sq (reg (wl0 rfl (op_bslice hf H (.sh true) rfl 110 ([] : List Block) [] rfl (fun w => by kernel_rfl) rfl (by decide) rfl trivial el0 (by decide) fun A a w hf H => ?_)))))
 refine pr 1 hf rfl rfl fun a hf => ?_
 refine wl_end (then_n (sq (sq (reg (pr 1 hf rfl rfl fun a hf => ?_)))))
 refine wl_end (then_n ?_)
 obtain ⟨out2, hB1, hF⟩ := bind_some hF
 have hf := hf.prune [0, 3, 4] rfl
 have H := H.let [] [true] [] [] rfl rfl rfl rfl
 refine loopC (fun (s : List Block × Int) (a : Act) (w : World) => match s with | (out', s') => ∃ (A2 : Option Addr) (c : Nat) (E : Go.TypeId), Fr a 35 [(0, (.int .i64 mask)), (3, (.slice A2 out'.length c)), (4, (.int .i64 s'))] ∧ Mem ⟨w0, []⟩ S [] [⟨.sh true, E, A2, c, (out' : List Block)⟩] [] [] w) (fun k (s : List Block × Int) => impl_freeRuns_L1 fu mask k s.1 s.2 = some out2) (fun s => out2 = s) (([] : List Block), 0) fu hB1 ⟨A, 0, 110, hf, H⟩ (fun s h => by cases h) ?_ ?_
 ·rintro fk ⟨out', s'⟩ a w hR1 hI
  replace hR1 : impl_freeRuns_L1 fu mask (fk + 1) out' s' = some out2 := hR1
  rw [impl_freeRuns_L1] at hR1
  obtain ⟨A2, c, E, hf, H⟩ := hI
  refine sq (sq (reg (pr 2 hf rfl rfl fun a hf => ?_)))
  refine wl_end (then_n (iteB hR1 (fun hc hR1 => cd_t hf rfl hc ?_) fun hc hR1 => cd_f hf rfl hc ?_))
  ·refine wp_skip (then_n (sq (wp_block (sq (reg (pr 2 hf rfl rfl fun a hf => ?_))))))
   refine wl_end (then_n (sq ?_))
   obtain ⟨out3, hB2, hR1⟩ := bind_some hR1
   have hf := hf.prune [0, 3, 4, 5] rfl
   have H := H.let [] [true] [] [] rfl rfl rfl rfl
   refine loopC (fun (s : Int) (a : Act) (w : World) => match s with | s2 => Fr a 35 [(0, (.int .i64 mask)), (3, (.slice A2 out'.length c)), (4, (.int .i64 s2)), (5, (.int .i64 s'))] ∧ Mem ⟨w0, []⟩ S [] [⟨.sh true, E, A2, c, (out' : List Block)⟩] [] [] w) (fun k (s : Int) => impl_freeRuns_L2 fu mask k s = some out3) (fun s => out3 = s) s' fu hB2 ⟨hf, H⟩ (fun s h => by cases h) ?_ ?_
   ·rintro fk s2 a w hR2 hI
    replace hR2 : impl_freeRuns_L2 fu mask (fk + 1) s2 = some out3 := hR2
    rw [impl_freeRuns_L2] at hR2
    obtain ⟨hf, H⟩ := hI
    refine sq (sq ?_)
    obtain ⟨c2, hGc2, hR2⟩ := bind_some hR2
    have fh := hf.prune [0, 3, 4, 5] rfl
    have Hm := H.let [] [true] [] [] rfl rfl rfl rfl
    refine midF 20 (.bool c2) fh Hm ?_ fun a w hf H => ?_
    ·refine reg (pr 3 hf rfl rfl fun a hf => ?_)
     refine iteB hGc2 (fun hc2 hGc2 => ?_) fun hc2 hGc2 => ?_
     ·have hf := hf.lit 14 rfl hc2
      refine pr 2 hf rfl rfl fun a hf => ?_
      obtain ⟨q, hq, hGc2⟩ := bind_some hGc2
      refine wlg hf rfl rfl rfl (op_q hf (rq_shr hf rfl rfl hq) rfl (by decide) fun a hf => ?_)
      refine pr 3 hf rfl rfl fun a hf => ?_
      obtain rfl := Option.some.inj hGc2
      have hf := hf.prune [20, 0, 3, 4, 5] rfl
      have H := H.let [] [true] [] [] rfl rfl rfl rfl
      exact wl_end ⟨hf, H⟩
     ·have hf := hf.lit 14 rfl hc2
      refine pr 6 hf rfl rfl fun a hf => ?_
      obtain rfl := Option.some.inj hGc2
      have hf := hf.prune [20, 0, 3, 4, 5] rfl
      have H := H.let [] [true] [] [] rfl rfl rfl rfl
      exact wl_end ⟨hf, H⟩
    refine then_n (iteB hR2 (fun hc3 hR2 => cd_t hf rfl hc3 ?_) fun hc3 hR2 => cd_f hf rfl hc3 ?_)
    ·refine wp_skip (then_n (wp_block (reg (pr 3 hf rfl rfl fun a hf => ?_))))
     refine wl_end (blk_n ?_)
     have hf := hf.prune [0, 3, 4, 5] rfl
     have H := H.let [] [true] [] [] rfl rfl rfl rfl
     exact then_n ⟨w64 (s2 + 1), hR2, hf, H⟩
    ·refine wp_exit (then_x (then_x (blk_e (?_))))
     have hf := hf.prune [0, 3, 4, 5] rfl
     have H := H.let [] [true] [] [] rfl rfl rfl rfl
     exact ⟨s2, (Option.some.inj hR2).symm, hf, H⟩
   rintro a w ⟨out3, rfl, hf, H⟩
   refine then_n (sq (reg (pr 3 hf rfl rfl fun a hf => ?_)))
   refine wl_end (then_n (iteB hR1 (fun hc4 hR1 => cd_t hf rfl hc4 ?_) fun hc4 hR1 => cd_f hf rfl hc4 ?_))
   ·refine reg (pr 5 hf rfl rfl fun a hf => ?_)
    refine wl0 rfl (op_q hf (rq_build hf (cs := [(.int .i64 s'), (.int .i64 (w64 (out3 - s')))]) rfl (fun w => by kernel_rfl)) rfl (by decide) fun a hf => ?_)
    refine wl0 rfl (op_bslice hf H (.sh true) rfl 110 ([({ First := s', Count := w64 (out3 - s') } : Block)] : List Block) [(.int .i64 s'), (.int .i64 (w64 (out3 - s')))] rfl (fun w => by kernel_rfl) rfl (by decide) rfl trivial (el1 (y := ({ First := s', Count := w64 (out3 - s') } : Block)) ((Block_mk (x := ({ First := s', Count := w64 (out3 - s') } : Block))))) (by decide) fun A3 a w hf H => ?_)
    obtain ⟨l, hl, hR1⟩ := bind_some hR1
    refine wl0 rfl (op_appR hf H Tryz.underlying128 TF.ai110 rfl (by decide) 1 0 rfl rfl rfl rfl (.inr rfl) hl (by decide) fun E2 A4 c3 a w hf H => ?_)
    refine pr 1 hf rfl rfl fun a hf => ?_
    refine wl_end (blk_n (then_n (reg (pr 3 hf rfl rfl fun a hf => ?_))))
    have hf := hf.prune [0, 3, 4] rfl
    refine wl_end ?_
    have hf := hf.prune [0, 3, 4] rfl
    have H := H.let [] [false, true] [] [] rfl rfl rfl rfl
    exact then_n ⟨(l, w64 (out3 + 1)), hR1, A4, c3, E2, hf, H⟩
   ·refine wp_skip (blk_n (then_n (reg (pr 3 hf rfl rfl fun a hf => ?_))))
    refine wl_end ?_
    have hf := hf.prune [0, 3, 4] rfl
    have H := H.let [] [true] [] [] rfl rfl rfl rfl
    exact then_n ⟨(out', w64 (out3 + 1)), hR1, A2, c, E, hf, H⟩
  ·refine wp_exit (then_x (then_x (blk_e (?_))))
   have hf := hf.prune [0, 3, 4] rfl
   have H := H.let [] [true] [] [] rfl rfl rfl rfl
   exact ⟨(out', s'), (Option.some.inj hR1).symm, A2, c, E, hf, H⟩
 rintro a w ⟨⟨out4, s4⟩, rfl, A5, c4, E3, hf, H⟩
 dsimp only at hF
 refine then_n (sq (reg (pr 2 hf rfl rfl fun a hf => ?_)))
 refine wl_end (then_n (wp_ret (?_)))
 have H := H.rowOwn 0 rfl rfl
 obtain ⟨F, H⟩ := H.freezeOwn 0 rfl
 have H := H.lend 0 rfl
 obtain rfl := Option.some.inj hF
 refine ret_1 (fn := Tryz.f144) (r := .tmp 2) hf rfl (rv_tmp hf rfl) ?_
 have hN := H.ends (X := [(⟨F, MP.own F [(.slice A5 out4.length c4)] (out4 : List Block)⟩ : DI)])
 simp only [List.flatMap_cons, List.flatMap_nil, List.append_nil, List.append_assoc] at hN
 exact ⟨_, rfl, H.bel, F, (mko_list (H.ownAt 0 rfl)), hN⟩

/- loop.example/g00897/impl.SpectrumUse -/
set_option maxHeartbeats 1000000 in
theorem impl_SpectrumUse_ok {fu : Nat} {w0 : World} {S : Nat → Prop} {v0_ : Value} {mask : Int} {r : Int × Int × Int × Bool} (h0 : VR w0 S v0_ mask) (hF : impl_SpectrumUse fu mask = some r) :
    Calls Tryz.prog 78 [v0_].toArray w0 fun e w' => ∃ v, e = .returned v ∧ (Below w0.heap.size w0 w' ∧ ∃ u0 u1 u2 u3, v = .tuple #[u0, u1, u2, u3] ∧ VR w' (St ⟨w0, []⟩ S [] [] [] true) u0 r.1 ∧ VR w' (St ⟨w0, []⟩ S [] [] [] true) u1 r.2.1 ∧ VR w' (St ⟨w0, []⟩ S [] [] [] true) u2 r.2.2.1 ∧ VR w' (St ⟨w0, []⟩ S [] [] [] true) u3 r.2.2.2) := by
 obtain rfl := VR_int h0
 have H := Mem.start ⟨w0, []⟩ S
 refine enter Tryz.func78 rfl rfl (nle rfl) rfl fun a hf => ?_
 rw [impl_SpectrumUse] at hF
 refine sq (reg (pr 4 hf rfl rfl fun a hf => ?_))
 refine wl_end (then_n (sq (sq (reg (pr 1 hf rfl rfl fun a hf => ?_)))))
 obtain ⟨y, hy, hF⟩ := bind_some hF
 refine wl0 rfl (op_call hf TF.cl142 rfl (by decide) (impl_isMask_ok (S := fun _ => True) mk_int hy) fun v w a hp hf => ?_)
 obtain ⟨hb, hp⟩ := hp
 obtain rfl := VR_bool hp
 have H := H.keep hb
 refine pr 1 hf rfl rfl fun a hf => ?_
 refine wl_end (then_n (iteB hF (fun hc hF => cd_t hf rfl hc ?_) fun hc hF => cd_f hf rfl hc ?_))
 ·refine sq (reg (pr 4 hf rfl rfl fun a hf => ?_))
  refine wl_end (then_n (wp_ret (then_r (?_))))
  obtain rfl := Option.some.inj hF
  refine ret_4 (fn := Tryz.f78) (r := .tmp 2) (s := .tmp 3) (t := .tmp 4) (x3 := .tmp 5) hf rfl (rv_tmp hf rfl) (rv_tmp hf rfl) (rv_tmp hf rfl) (rv_tmp hf rfl) ?_
  exact ⟨_, rfl, H.bel, _, _, _, _, rfl, mk_int, mk_int, mk_int, mk_bool⟩
 ·refine wp_skip (then_n (sq (reg (pr 1 hf rfl rfl fun a hf => ?_))))
  refine wl0 rfl (op_q hf (rq_conv u64w Tryz.underlying3 Tryz.underlying172 hf rfl) rfl (by decide) fun a hf => ?_)
  obtain ⟨y2, hy2, hF⟩ := bind_some hF
  refine wl0 rfl (op_call hf TF.cl143 rfl (by decide) (math_bits_OnesCount_ok (S := fun _ => True) (mk_u64 (x := (⟨wu64 mask⟩ : U64))) hy2) fun v2 w a hp2 hf => ?_)
  obtain ⟨hb2, hp2⟩ := hp2
  obtain rfl := VR_int hp2
  have H := H.keep hb2
  refine pr 3 hf rfl rfl fun a hf => ?_
  refine wl_end (then_n (sq (sq (reg (pr 1 hf rfl rfl fun a hf => ?_)))))
  obtain ⟨y3, hy3, hF⟩ := bind_some hF
  refine wl0 rfl (op_call hf TF.cl144 rfl (by decide) (impl_freeRuns_ok (S := fun _ => True) mk_int hy3) fun v3 w a hp3 hf => ?_)
  obtain ⟨hb3, F, hp4, hN⟩ := hp3
  obtain ⟨A, c, rfl, hl⟩ := VO_list hp4
  have H := H.addOwn hb3 (X := [(⟨F, MP.own F [(.slice A y3.length c)] (y3 : List Block)⟩ : DI)]) (by simpa using hN.1) (ps1 hl ps0) (by simpa using hN.2)
  have H := H.lend 0 rfl
  refine pr 2 hf rfl rfl fun a hf => ?_
  refine wl_end (then_n ?_)
  obtain ⟨out', hB1, hF⟩ := bind_some hF
  have hf := hf.prune [6, 7, 8, 19, 20, 21] rfl
  have H := H.let [] [] [true] [0] rfl rfl rfl rfl
  refine loopC (fun (s : Int × Int) (a : Act) (w : World) => match s with | (longest, i) => Fr a 45 [(6, (.int .i64 y2)), (7, (.int .i64 longest)), (8, (.int .i64 0)), (19, (.slice A y3.length c)), (20, (.int .i64 (y3.length : Int))), (21, (.int .i64 i))] ∧ Mem ⟨w0, []⟩ S [] [] [⟨F, MP.own F [(.slice A y3.length c)] (y3 : List Block)⟩] [(true, MP.val [(.slice A y3.length c)] (y3 : List Block))] w) (fun k (s : Int × Int) => impl_SpectrumUse_L1 fu y3 k s.1 s.2 = some out') (fun s => out' = s) (0, 0) fu hB1 ⟨hf, H⟩ (fun s h => by cases h) ?_ ?_
  ·rintro fk ⟨longest, i⟩ a w hR1 hI
   replace hR1 : impl_SpectrumUse_L1 fu y3 (fk + 1) longest i = some out' := hR1
   rw [impl_SpectrumUse_L1] at hR1
   obtain ⟨hf, H⟩ := hI
   refine sq (reg (pr 1 hf rfl rfl fun a hf => ?_))
   refine wl_end (then_n (sq (iteB hR1 (fun hc2 hR1 => cd_t hf rfl hc2 ?_) fun hc2 hR1 => cd_f hf rfl hc2 ?_)))
   ·refine wp_skip (then_n (sq (wp_block (sq (reg ?_)))))
    obtain ⟨e, he, hR1⟩ := bind_some hR1
    refine wl0 rfl (op_iaddr hf H Tryz.underlying128 TF.sz110 0 rfl rfl rfl he (by decide) fun p o cs a hf hr H => ?_)
    obtain rfl := Block_cells hr
    refine wl0 rfl (op_q hf (rq_loadIN hf H TF.la110 0 0 rfl rfl rfl rfl) rfl (by decide) fun a hf => ?_)
    refine wl0 rfl (op_alloc hf H TF.zv110 rfl (by decide) fun b' a w hf H => ?_)
    refine wl0 rfl (op_storeB hf H 0 TF.sz110 rfl rfl rfl rfl rfl rfl (nle rfl) fun w H => ?_)
    refine wl_end (then_n (reg (pr 2 hf rfl rfl fun a hf => ?_)))
    refine wl0 rfl (op_q hf (rq_loadB hf H TF.ls3 0 rfl rfl rfl) rfl (by decide) fun a hf => ?_)
    refine pr 2 hf rfl rfl fun a hf => ?_
    refine wl_end (blk_n (then_n (reg (pr 2 hf rfl rfl fun a hf => ?_))))
    refine wl_end ?_
    have hf := hf.prune [6, 7, 8, 19, 20, 21] rfl
    have H := H.let [false] [] [true] [1] rfl rfl rfl rfl
    exact then_n ⟨(gmax longest e.Count, w64 (i + 1)), hR1, hf, H⟩
   ·refine wp_exit (then_x (then_x (blk_e (?_))))
    have hf := hf.prune [6, 7, 8, 19, 20, 21] rfl
    have H := H.let [] [] [true] [0] rfl rfl rfl rfl
    exact ⟨(longest, i), (Option.some.inj hR1).symm, hf, H⟩
  rintro a w ⟨⟨longest2, i2⟩, rfl, hf, H⟩
  dsimp only at hF
  refine then_n (sq (sq (reg (pr 3 hf rfl rfl fun a hf => ?_))))
  refine wl_end (then_n (sq (reg (pr 2 hf rfl rfl fun a hf => ?_))))
  refine wl_end (then_n (iteB hF (fun hc3 hF => cd_t hf rfl hc3 ?_) fun hc3 hF => cd_f hf rfl hc3 ?_))
  ·refine reg (pr 6 hf rfl rfl fun a hf => ?_)
   obtain ⟨q, hq, hF⟩ := bind_some hF
   refine wl0 rfl (op_q hf (rq_quo hf rfl rfl hq) rfl (by decide) fun a hf => ?_)
   refine pr 2 hf rfl rfl fun a hf => ?_
   have hf := hf.prune [6, 7, 8] rfl
   refine wl_end (then_n (sq (reg (pr 7 hf rfl rfl fun a hf => ?_))))
   refine wl_end (then_n (wp_ret (?_)))
   obtain rfl := Option.some.inj hF
   refine ret_4 (fn := Tryz.f78) (r := .tmp 2) (s := .tmp 3) (t := .tmp 4) (x3 := .tmp 5) hf rfl (rv_tmp hf rfl) (rv_tmp hf rfl) (rv_tmp hf rfl) (rv_tmp hf rfl) ?_
   exact ⟨_, rfl, H.bel, _, _, _, _, rfl, mk_int, mk_int, mk_int, mk_bool⟩
  ·refine wp_skip (then_n (sq (reg (pr 7 hf rfl rfl fun a hf => ?_))))
   have hf := hf.prune [2, 3, 4, 5] rfl
   refine wl_end (then_n (wp_ret (?_)))
   obtain rfl := Option.some.inj hF
   refine ret_4 (fn := Tryz.f78) (r := .tmp 2) (s := .tmp 3) (t := .tmp 4) (x3 := .tmp 5) hf rfl (rv_tmp hf rfl) (rv_tmp hf rfl) (rv_tmp hf rfl) (rv_tmp hf rfl) ?_
   exact ⟨_, rfl, H.bel, _, _, _, _, rfl, mk_int, mk_int, mk_int, mk_bool⟩

/- loop.example/g00897/impl.FragmentationOf -/
set_option maxHeartbeats 1000000 in
theorem impl_FragmentationOf_ok {fu : Nat} {w0 : World} {S : Nat → Prop} {v0_ : Value} {p : Plan} {r : List Int × Int × Bool} (h0 : VR w0 S v0_ p) (hF : impl_FragmentationOf fu p = some r) :
    Calls Tryz.prog 23 [v0_].toArray w0 fun e w' => ∃ v, e = .returned v ∧ (Below w0.heap.size w0 w' ∧ ∃ F0, ∃ u0 u1 u2, v = .tuple #[u0, u1, u2] ∧ VO w' F0 u0 r.1 ∧ VR w' (St ⟨w0, []⟩ S [] [] [] true) u1 r.2.1 ∧ VR w' (St ⟨w0, []⟩ S [] [] [] true) u2 r.2.2 ∧ New w0 w' F0) := by
 obtain ⟨A, c, A2, c2, A3, c3, rfl, hl, hl2, hl3⟩ := Plan_open h0
 have H := Mem.start ⟨w0, []⟩ S
 have H := H.pushArg (MP.val [(.slice A p.Network.Nodes.length c)] p.Network.Nodes) hl
 have H := H.pushArg (MP.val [(.slice A2 p.Network.Fibers.length c2)] p.Network.Fibers) hl2
 have H := H.pushArg (MP.val [(.slice A3 p.Lights.length c3)] p.Lights) hl3
 refine enter Tryz.func23 rfl rfl (nle rfl) rfl fun a hf => ?_
 rw [impl_FragmentationOf] at hF
 refine sq (reg (wl0 rfl (op_box hf H rfl rfl (by decide) fun b' a w hf H => ?_)))
 refine pr 3 hf rfl rfl fun a hf => ?_
 refine wl_end (then_n (sq (sq (reg (wl0 rfl (op_q hf (rq_loadBN hf H TF.la37 0 rfl rfl rfl rfl) rfl (by decide) fun a hf => ?_))))))
 obtain ⟨y, hy, hF⟩ := bind_some hF
 refine wl0 rfl (op_call hf TF.cl72 rfl (by decide) (impl_IsValidPlan_ok (S := fun _ => True) (Plan_mkv (x := p) (rep_true (α := List ByteArray) (H.get 2 rfl)) (rep_true (α := List Fiber) (H.get 1 rfl)) (rep_true (α := List Light) (H.get 0 rfl))) hy) fun v w a hp hf => ?_)
 obtain ⟨hb, hp⟩ := hp
 obtain rfl := VR_bool hp
 have H := H.keep hb
 refine pr 1 hf rfl rfl fun a hf => ?_
 refine wl_end (then_n (iteB hF (fun hc hF => cd_t hf rfl hc ?_) fun hc hF => cd_f hf rfl hc ?_))
 ·refine sq (reg (pr 3 hf rfl rfl fun a hf => ?_))
  refine wl_end (then_n (wp_ret (then_r (?_))))
  have H := H.ownNil (Int)
  have H := H.lend 0 rfl
  obtain rfl := Option.some.inj hF
  refine ret_3 (fn := Tryz.f23) (r := .tmp 2) (s := .tmp 3) (t := .tmp 4) hf rfl (rv_tmp hf rfl) (rv_tmp hf rfl) (rv_tmp hf rfl) ?_
  have hN := H.ends (X := [(⟨[], MP.own [] [(.slice none 0 0)] ([] : List Int)⟩ : DI)])
  simp only [List.flatMap_cons, List.flatMap_nil, List.append_nil, List.append_assoc] at hN
  exact ⟨_, rfl, H.bel, [], _, _, _, rfl, (mko_list (H.ownAt 0 rfl)), mk_int, mk_bool, hN⟩
 ·refine wp_skip (then_n (sq (reg (wl0 rfl (op_bslice hf H (.sh true) rfl 3 ([] : List Int) [] rfl (fun w => by kernel_rfl) rfl (by decide) rfl trivial el0 (by decide) fun A4 a w hf H => ?_)))))
  refine pr 2 hf rfl rfl fun a hf => ?_
  refine wl_end (then_n (sq (sq (reg (wl0 rfl (op_q hf (rq_loadBN hf H TF.la37 0 rfl rfl rfl rfl) rfl (by decide) fun a hf => ?_))))))
  obtain ⟨y2, hy2, hF⟩ := bind_some hF
  refine wl0 rfl (op_call hf TF.cl77 rfl (by decide) (impl_fiberMasks_ok (S := fun _ => True) (Plan_mkv (x := p) (rep_true (α := List ByteArray) (H.get 2 rfl)) (rep_true (α := List Fiber) (H.get 1 rfl)) (rep_true (α := List Light) (H.get 0 rfl))) hy2) fun v2 w a hp2 hf => ?_)
  obtain ⟨hb2, F, hp3, hN⟩ := hp2
  obtain ⟨A5, c4, rfl, hl4⟩ := VO_list hp3
  have H := H.addOwn hb2 (X := [(⟨F, MP.own F [(.slice A5 y2.length c4)] (y2 : List Int)⟩ : DI)]) (by simpa using hN.1) (ps1 hl4 ps0) (by simpa using hN.2)
  have H := H.lend 0 rfl
  refine pr 2 hf rfl rfl fun a hf => ?_
  refine wl_end (then_n ?_)
  obtain ⟨out2, hB1, hF⟩ := bind_some hF
  have hf := hf.prune [5, 6, 18, 19, 20] rfl
  have H := H.let [false] [true] [true] [0] rfl rfl rfl rfl
  refine loopC (fun (s : List Int × Int × Int) (a : Act) (w : World) => match s with | (out', most, i) => ∃ (A6 : Option Addr) (c5 : Nat) (E : Go.TypeId), Fr a 41 [(5, (.slice A6 out'.length c5)), (6, (.int .i64 most)), (18, (.slice A5 y2.length c4)), (19, (.int .i64 (y2.length : Int))), (20, (.int .i64 i))] ∧ Mem ⟨w0, []⟩ S [] [⟨.sh true, E, A6, c5, (out' : List Int)⟩] [⟨F, MP.own F [(.slice A5 y2.length c4)] (y2 : List Int)⟩] [(true, MP.val [(.slice A5 y2.length c4)] (y2 : List Int))] w) (fun k (s : List Int × Int × Int) => impl_FragmentationOf_L1 fu y2 k s.1 s.2.1 s.2.2 = some out2) (fun s => out2 = s) (([] : List Int), 0, 0) fu hB1 ⟨A4, 0, 3, hf, H⟩ (fun s h => by cases h) ?_ ?_
  ·rintro fk ⟨out', most, i⟩ a w hR1 hI
   replace hR1 : impl_FragmentationOf_L1 fu y2 (fk + 1) out' most i = some out2 := hR1
   rw [impl_FragmentationOf_L1] at hR1
   obtain ⟨A6, c5, E, hf, H⟩ := hI
   refine sq (reg (pr 1 hf rfl rfl fun a hf => ?_))
   refine wl_end (then_n (sq (iteB hR1 (fun hc2 hR1 => cd_t hf rfl hc2 ?_) fun hc2 hR1 => cd_f hf rfl hc2 ?_)))
   ·refine wp_skip (then_n (sq (wp_block (sq (reg ?_)))))
    obtain ⟨e, he, hR1⟩ := bind_some hR1
    refine wl0 rfl (op_iaddr hf H Tryz.underlying44 TF.sz3 0 rfl rfl rfl he (by decide) fun p2 o cs a hf hr H => ?_)
    obtain rfl := hr
    refine wl0 rfl (op_q hf (rq_loadI hf H TF.ls3 0 0 rfl rfl rfl) rfl (by decide) fun a hf => ?_)
    refine pr 1 hf rfl rfl fun a hf => ?_
    refine wl_end (then_n (sq (reg (pr 1 hf rfl rfl fun a hf => ?_))))
    obtain ⟨y3, hy3, hR1⟩ := bind_some hR1
    refine wl0 rfl (op_call hf TF.cl78 rfl (by decide) (impl_SpectrumUse_ok (S := fun _ => True) mk_int hy3) fun v3 w a hp4 hf => ?_)
    obtain ⟨hb3, v4, v5, v6, v7, rfl, hp5, hp6, hp7, hp8⟩ := hp4
    obtain rfl := VR_int hp5
    obtain rfl := VR_int hp6
    obtain rfl := VR_int hp7
    obtain rfl := VR_bool hp8
    have H := H.keep hb3
    refine pr 9 hf rfl rfl fun a hf => ?_
    have hf := hf.prune [5, 6, 11, 18, 19, 20] rfl
    refine wl_end (then_n (reg (pr 2 hf rfl rfl fun a hf => ?_)))
    refine wl0 rfl (op_bslice hf H (.sh true) rfl 3 ([y3.2.2.1] : List Int) [(.int .i64 y3.2.2.1)] rfl (fun w => by kernel_rfl) rfl (by decide) rfl trivial (el1 (y := y3.2.2.1) (rfl)) (by decide) fun A7 a w hf H => ?_)
    obtain ⟨l, hl, hR1⟩ := bind_some hR1
    refine wl0 rfl (op_appR hf H Tryz.underlying44 TF.ai3 rfl (by decide) 1 0 rfl rfl rfl rfl (.inr rfl) hl (by decide) fun E2 A8 c6 a w hf H => ?_)
    refine pr 5 hf rfl rfl fun a hf => ?_
    refine wl_end (blk_n (then_n (reg (pr 2 hf rfl rfl fun a hf => ?_))))
    refine wl_end ?_
    have hf := hf.prune [5, 6, 18, 19, 20] rfl
    have H := H.let [] [false, true] [true] [1] rfl rfl rfl rfl
    exact then_n ⟨(l, gmax most y3.2.2.1, w64 (i + 1)), hR1, A8, c6, E2, hf, H⟩
   ·refine wp_exit (then_x (then_x (blk_e (?_))))
    have hf := hf.prune [5, 6, 18, 19, 20] rfl
    have H := H.let [] [true] [true] [0] rfl rfl rfl rfl
    exact ⟨(out', most, i), (Option.some.inj hR1).symm, A6, c5, E, hf, H⟩
  rintro a w ⟨⟨out3, most2, i2⟩, rfl, A9, c7, E3, hf, H⟩
  dsimp only at hF
  refine then_n (sq (reg (pr 5 hf rfl rfl fun a hf => ?_)))
  refine wl_end (then_n (wp_ret (?_)))
  have H := H.rowOwn 0 rfl rfl
  obtain ⟨F3, H⟩ := H.freezeOwn 0 rfl
  have H := H.lend 0 rfl
  obtain rfl := Option.some.inj hF
  refine ret_3 (fn := Tryz.f23) (r := .tmp 2) (s := .tmp 3) (t := .tmp 4) hf rfl (rv_tmp hf rfl) (rv_tmp hf rfl) (rv_tmp hf rfl) ?_
  have hN := H.ends (X := [(⟨F3, MP.own F3 [(.slice A9 out3.length c7)] (out3 : List Int)⟩ : DI)])
  simp only [List.flatMap_cons, List.flatMap_nil, List.append_nil, List.append_assoc] at hN
  exact ⟨_, rfl, H.bel, F3, _, _, _, rfl, (mko_list (H.ownAt 0 rfl)), mk_int, mk_bool, hN⟩

/- loop.example/g00897/laws.markText -/
set_option maxHeartbeats 1000000 in
theorem laws_markText_ok {fu : Nat} {w0 : World} {S : Nat → Prop} {v0_ : Value} {k' : Int} {r : ByteArray} (h0 : VR w0 S v0_ k') (hF : laws_markText fu k' = some r) :
    Calls Tryz.prog 199 [v0_].toArray w0 fun e w' => ∃ v, e = .returned v ∧ (Below w0.heap.size w0 w' ∧ VR w' (St ⟨w0, []⟩ S [] [] [] true) v r) := by
 obtain rfl := VR_int h0
 have H := Mem.start ⟨w0, []⟩ S
 refine enter Tryz.func199 rfl rfl (nle rfl) rfl fun a hf => ?_
 rw [laws_markText] at hF
 refine sq (reg (pr 1 hf rfl rfl fun a hf => ?_))
 refine wl_end (then_n (sq (sq (reg (pr 2 hf rfl rfl fun a hf => ?_)))))
 refine wl_end (then_n (iteB hF (fun hc hF => cd_t hf rfl hc ?_) fun hc hF => cd_f hf rfl hc ?_))
 ·refine sq (reg (pr 1 hf rfl rfl fun a hf => ?_))
  refine wl_end (then_n (wp_ret (then_r (?_))))
  obtain rfl := Option.some.inj hF
  refine ret_1 (fn := Tryz.f199) (r := .tmp 2) hf rfl (rv_tmp hf rfl) ?_
  exact ⟨_, rfl, H.bel, mk_str⟩
 ·refine wp_skip (then_n (sq (reg (pr 1 hf rfl rfl fun a hf => ?_))))
  refine wl_end (then_n (sq ?_))
  obtain ⟨out2, hB1, hF⟩ := bind_some hF
  have hf := hf.prune [0, 3] rfl
  have H := H.let [] [] [] [] rfl rfl rfl rfl
  refine loopC (fun (s : Int × ByteArray) (a : Act) (w : World) => match s with | (k2, out') => Fr a 20 [(0, (.int .i64 k2)), (3, (.string out'))] ∧ Mem ⟨w0, []⟩ S [] [] [] [] w) (fun k (s : Int × ByteArray) => laws_markText_L1 fu k s.1 s.2 = some out2) (fun s => out2 = s) (k', ByteArray.empty) fu hB1 ⟨hf, H⟩ (fun s h => by cases h) ?_ ?_
  ·rintro fk ⟨k2, out'⟩ a w hR1 hI
   replace hR1 : laws_markText_L1 fu (fk + 1) k2 out' = some out2 := hR1
   rw [laws_markText_L1] at hR1
   obtain ⟨hf, H⟩ := hI
   refine sq (sq (reg (pr 2 hf rfl rfl fun a hf => ?_)))
   refine wl_end (then_n (iteB hR1 (fun hc2 hR1 => cd_t hf rfl hc2 ?_) fun hc2 hR1 => cd_f hf rfl hc2 ?_))
   ·refine wp_skip (then_n (wp_block (sq (reg (pr 1 hf rfl rfl fun a hf => ?_)))))
    obtain ⟨q, hq, hR1⟩ := bind_some hR1
    refine wl0 rfl (op_q hf (rq_rem hf rfl rfl hq) rfl (by decide) fun a hf => ?_)
    refine pr 1 hf rfl rfl fun a hf => ?_
    refine wl0 rfl (op_q hf (rq_conv u8w Tryz.underlying3 Tryz.underlying5 hf rfl) rfl (by decide) fun a hf => ?_)
    refine wl0 rfl (op_bslice hf H (.sh true) rfl 5 ([(⟨wu8 (w64 (48 + q))⟩ : By)] : List By) [(.int .u8 (wu8 (w64 (48 + q))))] rfl (fun w => by kernel_rfl) rfl (by decide) rfl trivial (el1 (y := (⟨wu8 (w64 (48 + q))⟩ : By)) (rfl)) (by decide) fun A a w hf H => ?_)
    refine wl0 rfl (op_q hf (rq_convBS Tryz.underlying229 Tryz.underlying5 Tryz.underlying9 hf rfl (H.rowTrue 0 rfl)) rfl (by decide) fun a hf => ?_)
    refine pr 1 hf rfl rfl fun a hf => ?_
    obtain ⟨s', hs', hR1⟩ := bind_some hR1
    refine wl0 rfl (op_q hf (rq_scat hf rfl rfl hs') rfl (by decide) fun a hf => ?_)
    refine pr 1 hf rfl rfl fun a hf => ?_
    refine wl_end (then_n (reg (pr 1 hf rfl rfl fun a hf => ?_)))
    obtain ⟨q2, hq2, hR1⟩ := bind_some hR1
    refine wl0 rfl (op_q hf (rq_quo hf rfl rfl hq2) rfl (by decide) fun a hf => ?_)
    refine pr 1 hf rfl rfl fun a hf => ?_
    refine wl_end (blk_n ?_)
    have hf := hf.prune [0, 3] rfl
    have H := H.let [] [false] [] [] rfl rfl rfl rfl
    exact then_n ⟨(q2, s'), hR1, hf, H⟩
   ·refine wp_exit (then_x (then_x (blk_e (?_))))
    have hf := hf.prune [0, 3] rfl
    have H := H.let [] [] [] [] rfl rfl rfl rfl
    exact ⟨(k2, out'), (Option.some.inj hR1).symm, hf, H⟩
  rintro a w ⟨⟨k3, out3⟩, rfl, hf, H⟩
  dsimp only at hF
  refine then_n (sq (reg (pr 1 hf rfl rfl fun a hf => ?_)))
  obtain ⟨s2, hs2, hF⟩ := bind_some hF
  refine wl0 rfl (op_q hf (rq_scat hf rfl rfl hs2) rfl (by decide) fun a hf => ?_)
  refine pr 1 hf rfl rfl fun a hf => ?_
  refine wl_end (then_n (wp_ret (?_)))
  obtain rfl := Option.some.inj hF
  refine ret_1 (fn := Tryz.f199) (r := .tmp 2) hf rfl (rv_tmp hf rfl) ?_
  exact ⟨_, rfl, H.bel, mk_str⟩

/- loop.example/g00897/laws.markStringS -/
set_option maxHeartbeats 1000000 in
theorem laws_markStringS_ok {fu : Nat} {w0 : World} {S : Nat → Prop} {F : List Nat} {cs : List Value} {v1_ : Value} {a' : List ByteArray} {k' : Int} {r : Int × List ByteArray} (hO : GoTy.own w0 F cs a') (hn : F.Nodup) (h1 : VR w0 S v1_ k') (hF : laws_markStringS fu a' k' = some r) :
    Calls Tryz.prog 145 [(bif GoTy.agg (List ByteArray) then .agg cs.toArray else cs.headD undef), v1_].toArray w0 fun e w' => ∃ v, e = .returned v ∧ (Chg w0 w' F ∧ VR w' (fun _ => True) v r.1 ∧ ∃ F', GoTy.own w' F' cs r.2 ∧ Back w0 w' F F') := by
 obtain rfl := VR_int h1
 obtain ⟨A, c, rfl, hO⟩ := own_list hO
 have H := Mem.startG S hO hn
 obtain ⟨Fs, E, H, -⟩ := H.thaw rfl
 have H := H.rowSh 0 rfl
 refine enter Tryz.func145 rfl rfl (nle rfl) rfl fun a hf => ?_
 rw [laws_markStringS] at hF
 refine sq (reg (pr 1 hf rfl rfl fun a hf => ?_))
 refine wl_end (then_n (sq (sq (reg (pr 1 hf rfl rfl fun a hf => ?_)))))
 refine wl_end (then_n ?_)
 obtain ⟨out', hB1, hF⟩ := bind_some hF
 have hf := hf.prune [0, 1, 5] rfl
 have hf : Fr a 20 [(0, (.slice A a'.length c)), (1, (.int .i64 k')), (5, (.int .i64 0))] := by first | exact hf | (simp only [List.length_set] at hf; exact hf)
 have H := H.let [] [true] [] [] rfl rfl rfl rfl
 refine loopC (fun (s : List ByteArray × Int × Int) (a : Act) (w : World) => match s with | (a2, k2, i) => a2.length = a'.length ∧ Fr a 20 [(0, (.slice A a'.length c)), (1, (.int .i64 k2)), (5, (.int .i64 i))] ∧ Mem ⟨w0, F⟩ S [] [⟨.sh true, E, A, c, (a2 : List ByteArray)⟩] [] [] w) (fun k (s : List ByteArray × Int × Int) => laws_markStringS_L1 fu k s.1 s.2.1 s.2.2 = some out') (fun s => out' = s) (a', k', 0) fu hB1 ⟨rfl, hf, H⟩ (fun s h => by cases h) ?_ ?_
 ·rintro fk ⟨a2, k2, i⟩ a w hR1 hI
  replace hR1 : laws_markStringS_L1 fu (fk + 1) a2 k2 i = some out' := hR1
  rw [laws_markStringS_L1] at hR1
  obtain ⟨hlen, hf, H⟩ := hI
  have hf : Fr a 20 [(0, (.slice A a2.length c)), (1, (.int .i64 k2)), (5, (.int .i64 i))] := by rw [hlen]; exact hf
  refine sq (sq (reg (pr 4 hf rfl rfl fun a hf => ?_)))
  refine wl_end (then_n (iteB hR1 (fun hc hR1 => cd_t hf rfl hc ?_) fun hc hR1 => cd_f hf rfl hc ?_))
  ·refine wp_skip (then_n (sq (wp_block (sq (reg (pr 3 hf rfl rfl fun a hf => ?_))))))
   obtain ⟨y, hy, hR1⟩ := bind_some hR1
   refine wl0 rfl (op_call hf TF.cl199 rfl (by decide) (laws_markText_ok (S := fun _ => True) mk_int hy) fun v w a hp hf => ?_)
   obtain ⟨hb, hp⟩ := hp
   obtain rfl := VR_str hp
   have H := H.keep hb
   obtain ⟨e, he, hR1⟩ := bind_some hR1
   refine wl0 rfl (op_iaddrR hf H Tryz.underlying22 TF.sz9 0 rfl rfl rfl he (by decide) fun p o cs a hf hA hr hk => ?_)
   obtain rfl := hr
   refine wl0 rfl (op_storeR (e' := y) (o := o) (off := 0) hf H TF.sz9 0 rfl rfl rfl rfl rfl (nle rfl) rfl hA he (st_full rfl) fun w H => ?_)
   replace hf : Fr a 20 [(0, (.slice A a2.length c)), (1, (.int .i64 k2)), (5, (.int .i64 i)), (6, (.int .i64 i)), (7, (.slice A a2.length c)), (8, (.int .i64 (a2.length : Int))), (9, (.bool (decide (i < (a2.length : Int))))), (12, (.slice A a2.length c)), (13, (.int .i64 i)), (14, (.int .i64 k2)), (15, (.string y)), (16, (.pointer (some ⟨p, o + 0, none⟩)))] := hf.prune [0, 1, 5, 6, 7, 8, 9, 12, 13, 14, 15, 16] rfl
   replace hf : Fr a 20 [(0, (.slice A (a2.set (i).toNat y).length c)), (1, (.int .i64 k2)), (5, (.int .i64 i)), (6, (.int .i64 i)), (7, (.slice A (a2.set (i).toNat y).length c)), (8, (.int .i64 (a2.length : Int))), (9, (.bool (decide (i < (a2.length : Int))))), (12, (.slice A (a2.set (i).toNat y).length c)), (13, (.int .i64 i)), (14, (.int .i64 k2)), (15, (.string y)), (16, (.pointer (some ⟨p, o + 0, none⟩)))] := by simpa only [List.length_set, Nat.add_zero] using hf
   refine wl_end (then_n (reg (pr 3 hf rfl rfl fun a hf => ?_)))
   refine wl_end (blk_n (then_n (reg (pr 3 hf rfl rfl fun a hf => ?_))))
   have hf := hf.prune [0, 1, 5] rfl
   refine wl_end ?_
   have hf := hf.prune [0, 1, 5] rfl
   have hf : Fr a 20 [(0, (.slice A a'.length c)), (1, (.int .i64 (w64 (k2 + 1)))), (5, (.int .i64 (w64 (i + 1))))] := by first | exact hf | (simp only [List.length_set, hlen] at hf; exact hf)
   have H := H.let [] [true] [] [] rfl rfl rfl rfl
   exact then_n ⟨(a2.set (i).toNat y, w64 (k2 + 1), w64 (i + 1)), hR1, (by simp only [List.length_set, hlen]), hf, H⟩
  ·refine wp_exit (then_x (then_x (blk_e (?_))))
   have hf := hf.prune [0, 1, 5] rfl
   have hf : Fr a 20 [(0, (.slice A a'.length c)), (1, (.int .i64 k2)), (5, (.int .i64 i))] := by first | exact hf | (simp only [List.length_set, hlen] at hf; exact hf)
   have H := H.let [] [true] [] [] rfl rfl rfl rfl
   exact ⟨(a2, k2, i), (Option.some.inj hR1).symm, (by simp only [List.length_set, hlen]), hf, H⟩
 rintro a w ⟨⟨a3, k3, i2⟩, rfl, hlen, hf, H⟩
 try dsimp only at hlen
 have hf : Fr a 20 [(0, (.slice A a3.length c)), (1, (.int .i64 k3)), (5, (.int .i64 i2))] := by rw [hlen]; exact hf
 dsimp only at hF
 refine then_n (sq (reg (pr 2 hf rfl rfl fun a hf => ?_)))
 refine wl_end (then_n (wp_ret (?_)))
 have H := H.rowOwn 0 rfl rfl
 obtain ⟨F', H⟩ := H.freezeOwn 0 rfl
 rw [hlen] at H
 obtain rfl := Option.some.inj hF
 refine ret_1 (fn := Tryz.f145) (r := .tmp 4) hf rfl (rv_tmp hf rfl) ?_
 exact ⟨_, rfl, H.chg, mk_int, _, H.ownAt 0 rfl, H.back⟩

/- loop.example/g00897/laws.markFiberS -/
set_option maxHeartbeats 1000000 in
theorem laws_markFiberS_ok {fu : Nat} {w0 : World} {S : Nat → Prop} {F : List Nat} {cs : List Value} {v1_ : Value} {a' : List Fiber} {k' : Int} {r : Int × List Fiber} (hO : GoTy.own w0 F cs a') (hn : F.Nodup) (h1 : VR w0 S v1_ k') (hF : laws_markFiberS fu a' k' = some r) :
    Calls Tryz.prog 146 [(bif GoTy.agg (List Fiber) then .agg cs.toArray else cs.headD undef), v1_].toArray w0 fun e w' => ∃ v, e = .returned v ∧ (Chg w0 w' F ∧ VR w' (fun _ => True) v r.1 ∧ ∃ F', GoTy.own w' F' cs r.2 ∧ Back w0 w' F F') := by
 obtain rfl := VR_int h1
 obtain ⟨A, c, rfl, hO⟩ := own_list hO
 have H := Mem.startG S hO hn
 obtain ⟨Fs, E, H, -⟩ := H.thaw rfl
 have H := H.rowSh 0 rfl
 refine enter Tryz.func146 rfl rfl (nle rfl) rfl fun a hf => ?_
 rw [laws_markFiberS] at hF
 refine sq (reg (pr 1 hf rfl rfl fun a hf => ?_))
 refine wl_end (then_n (sq (sq (reg (pr 1 hf rfl rfl fun a hf => ?_)))))
 refine wl_end (then_n ?_)
 obtain ⟨out', hB1, hF⟩ := bind_some hF
 have hf := hf.prune [0, 1, 5] rfl
 have hf : Fr a 41 [(0, (.slice A a'.length c)), (1, (.int .i64 k')), (5, (.int .i64 0))] := by first | exact hf | (simp only [List.length_set] at hf; exact hf)
 have H := H.let [] [true] [] [] rfl rfl rfl rfl
 refine loopC (fun (s : List Fiber × Int × Int) (a : Act) (w : World) => match s with | (a2, k2, i) => a2.length = a'.length ∧ Fr a 41 [(0, (.slice A a'.length c)), (1, (.int .i64 k2)), (5, (.int .i64 i))] ∧ Mem ⟨w0, F⟩ S [] [⟨.sh true, E, A, c, (a2 : List Fiber)⟩] [] [] w) (fun k (s : List Fiber × Int × Int) => laws_markFiberS_L1 fu k s.1 s.2.1 s.2.2 = some out') (fun s => out' = s) (a', k', 0) fu hB1 ⟨rfl, hf, H⟩ (fun s h => by cases h) ?_ ?_
 ·rintro fk ⟨a2, k2, i⟩ a w hR1 hI
  replace hR1 : laws_markFiberS_L1 fu (fk + 1) a2 k2 i = some out' := hR1
  rw [laws_markFiberS_L1] at hR1
  obtain ⟨hlen, hf, H⟩ := hI
  have hf : Fr a 41 [(0, (.slice A a2.length c)), (1, (.int .i64 k2)), (5, (.int .i64 i))] := by rw [hlen]; exact hf
  refine sq (sq (reg (pr 4 hf rfl rfl fun a hf => ?_)))
  refine wl_end (then_n (iteB hR1 (fun hc hR1 => cd_t hf rfl hc ?_) fun hc hR1 => cd_f hf rfl hc ?_))
  ·refine wp_skip (then_n (sq (wp_block (sq (reg (pr 3 hf rfl rfl fun a hf => ?_))))))
   obtain ⟨e, he, hR1⟩ := bind_some hR1
   refine wl0 rfl (op_iaddrR hf H Tryz.underlying32 TF.sz120 0 rfl rfl rfl he (by decide) fun p o cs a hf hA hr hk => ?_)
   obtain rfl := Fiber_cells hr
   refine pr 1 hf rfl rfl fun a hf => ?_
   refine wl0 rfl (op_storeR (e' := ({ A := k2, B := e.B, Length := e.Length, Risk := e.Risk } : Fiber)) (o := o) (off := 0) hf H TF.sz3 0 rfl rfl rfl rfl rfl (nle rfl) rfl hA he (fun cs h => by obtain rfl := Fiber_cells h; exact Fiber_mk (x := ({ A := k2, B := e.B, Length := e.Length, Risk := e.Risk } : Fiber))) fun w H => ?_)
   replace hf : Fr a 41 [(0, (.slice A a2.length c)), (1, (.int .i64 k2)), (5, (.int .i64 i)), (6, (.int .i64 i)), (7, (.slice A a2.length c)), (8, (.int .i64 (a2.length : Int))), (9, (.bool (decide (i < (a2.length : Int))))), (12, (.slice A a2.length c)), (13, (.int .i64 i)), (14, (.int .i64 k2)), (15, (.pointer (some ⟨p, o + 0, none⟩))), (16, (.pointer (some ⟨p, o + 0, none⟩)))] := hf.prune [0, 1, 5, 6, 7, 8, 9, 12, 13, 14, 15, 16] rfl
   replace hf : Fr a 41 [(0, (.slice A (a2.set (i).toNat ({ A := k2, B := e.B, Length := e.Length, Risk := e.Risk } : Fiber)).length c)), (1, (.int .i64 k2)), (5, (.int .i64 i)), (6, (.int .i64 i)), (7, (.slice A (a2.set (i).toNat ({ A := k2, B := e.B, Length := e.Length, Risk := e.Risk } : Fiber)).length c)), (8, (.int .i64 (a2.length : Int))), (9, (.bool (decide (i < (a2.length : Int))))), (12, (.slice A (a2.set (i).toNat ({ A := k2, B := e.B, Length := e.Length, Risk := e.Risk } : Fiber)).length c)), (13, (.int .i64 i)), (14, (.int .i64 k2)), (15, (.pointer (some ⟨p, o + 0, none⟩))), (16, (.pointer (some ⟨p, o + 0, none⟩)))] := by simpa only [List.length_set, Nat.add_zero] using hf
   refine wl_end (then_n (sq (reg (pr 3 hf rfl rfl fun a hf => ?_))))
   refine wl_end (then_n (sq (reg (pr 3 hf rfl rfl fun a hf => ?_))))
   obtain ⟨e2, he2, hR1⟩ := bind_some hR1
   refine wl0 rfl (op_iaddrR hf H Tryz.underlying32 TF.sz120 0 rfl rfl rfl he2 (by decide) fun p2 o2 cs2 a hf hA2 hr2 hk2 => ?_)
   obtain rfl := Fiber_cells hr2
   refine pr 1 hf rfl rfl fun a hf => ?_
   refine wl0 rfl (op_storeR (e' := ({ A := e2.A, B := w64 (k2 + 1), Length := e2.Length, Risk := e2.Risk } : Fiber)) (o := o2) (off := 1) hf H TF.sz3 0 rfl rfl rfl rfl rfl (nle rfl) rfl hA2 he2 (fun cs h => by obtain rfl := Fiber_cells h; exact Fiber_mk (x := ({ A := e2.A, B := w64 (k2 + 1), Length := e2.Length, Risk := e2.Risk } : Fiber))) fun w H => ?_)
   replace hf : Fr a 41 [(0, (.slice A (a2.set (i).toNat ({ A := k2, B := e.B, Length := e.Length, Risk := e.Risk } : Fiber)).length c)), (1, (.int .i64 (w64 (k2 + 1)))), (5, (.int .i64 i)), (6, (.int .i64 i)), (7, (.slice A (a2.set (i).toNat ({ A := k2, B := e.B, Length := e.Length, Risk := e.Risk } : Fiber)).length c)), (8, (.int .i64 (a2.length : Int))), (9, (.bool (decide (i < (a2.length : Int))))), (12, (.slice A (a2.set (i).toNat ({ A := k2, B := e.B, Length := e.Length, Risk := e.Risk } : Fiber)).length c)), (13, (.int .i64 i)), (14, (.int .i64 k2)), (15, (.pointer (some ⟨p, o + 0, none⟩))), (16, (.pointer (some ⟨p, o + 0, none⟩))), (17, (.int .i64 k2)), (18, (.int .i64 (w64 (k2 + 1)))), (19, (.slice A (a2.set (i).toNat ({ A := k2, B := e.B, Length := e.Length, Risk := e.Risk } : Fiber)).length c)), (20, (.int .i64 i)), (21, (.int .i64 (w64 (k2 + 1)))), (22, (.pointer (some ⟨p2, o2 + 0, none⟩))), (23, (.pointer (some ⟨p2, o2 + 1, none⟩)))] := hf.prune [0, 1, 5, 6, 7, 8, 9, 12, 13, 14, 15, 16, 17, 18, 19, 20, 21, 22, 23] rfl
   replace hf : Fr a 41 [(0, (.slice A ((a2.set (i).toNat ({ A := k2, B := e.B, Length := e.Length, Risk := e.Risk } : Fiber)).set (i).toNat ({ A := e2.A, B := w64 (k2 + 1), Length := e2.Length, Risk := e2.Risk } : Fiber)).length c)), (1, (.int .i64 (w64 (k2 + 1)))), (5, (.int .i64 i)), (6, (.int .i64 i)), (7, (.slice A ((a2.set (i).toNat ({ A := k2, B := e.B, Length := e.Length, Risk := e.Risk } : Fiber)).set (i).toNat ({ A := e2.A, B := w64 (k2 + 1), Length := e2.Length, Risk := e2.Risk } : Fiber)).length c)), (8, (.int .i64 (a2.length : Int))), (9, (.bool (decide (i < (a2.length : Int))))), (12, (.slice A ((a2.set (i).toNat ({ A := k2, B := e.B, Length := e.Length, Risk := e.Risk } : Fiber)).set (i).toNat ({ A := e2.A, B := w64 (k2 + 1), Length := e2.Length, Risk := e2.Risk } : Fiber)).length c)), (13, (.int .i64 i)), (14, (.int .i64 k2)), (15, (.pointer (some ⟨p, o + 0, none⟩))), (16, (.pointer (some ⟨p, o + 0, none⟩))), (17, (.int .i64 k2)), (18, (.int .i64 (w64 (k2 + 1)))), (19, (.slice A ((a2.set (i).toNat ({ A := k2, B := e.B, Length := e.Length, Risk := e.Risk } : Fiber)).set (i).toNat ({ A := e2.A, B := w64 (k2 + 1), Length := e2.Length, Risk := e2.Risk } : Fiber)).length c)), (20, (.int .i64 i)), (21, (.int .i64 (w64 (k2 + 1)))), (22, (.pointer (some ⟨p2, o2 + 0, none⟩))), (23, (.pointer (some ⟨p2, o2 + 1, none⟩)))] := by simpa only [List.length_set, Nat.add_zero] using hf
   have hf := hf.prune [0, 1, 5] rfl
   refine wl_end (then_n (sq (reg (pr 3 hf rfl rfl fun a hf => ?_))))
   refine wl_end (then_n (sq (reg (pr 3 hf rfl rfl fun a hf => ?_))))
   obtain ⟨e3, he3, hR1⟩ := bind_some hR1
   refine wl0 rfl (op_iaddrR hf H Tryz.underlying32 TF.sz120 0 rfl rfl rfl he3 (by decide) fun p3 o3 cs3 a hf hA3 hr3 hk3 => ?_)
   obtain rfl := Fiber_cells hr3
   refine pr 1 hf rfl rfl fun a hf => ?_
   refine wl0 rfl (op_storeR (e' := ({ A := e3.A, B := e3.B, Length := w64 ((w64 (k2 + 1)) + 1), Risk := e3.Risk } : Fiber)) (o := o3) (off := 2) hf H TF.sz3 0 rfl rfl rfl rfl rfl (nle rfl) rfl hA3 he3 (fun cs h => by obtain rfl := Fiber_cells h; exact Fiber_mk (x := ({ A := e3.A, B := e3.B, Length := w64 ((w64 (k2 + 1)) + 1), Risk := e3.Risk } : Fiber))) fun w H => ?_)
   replace hf : Fr a 41 [(0, (.slice A ((a2.set (i).toNat ({ A := k2, B := e.B, Length := e.Length, Risk := e.Risk } : Fiber)).set (i).toNat ({ A := e2.A, B := w64 (k2 + 1), Length := e2.Length, Risk := e2.Risk } : Fiber)).length c)), (1, (.int .i64 (w64 ((w64 (k2 + 1)) + 1)))), (5, (.int .i64 i)), (24, (.int .i64 (w64 (k2 + 1)))), (25, (.int .i64 (w64 ((w64 (k2 + 1)) + 1)))), (26, (.slice A ((a2.set (i).toNat ({ A := k2, B := e.B, Length := e.Length, Risk := e.Risk } : Fiber)).set (i).toNat ({ A := e2.A, B := w64 (k2 + 1), Length := e2.Length, Risk := e2.Risk } : Fiber)).length c)), (27, (.int .i64 i)), (28, (.int .i64 (w64 ((w64 (k2 + 1)) + 1)))), (29, (.pointer (some ⟨p3, o3 + 0, none⟩))), (30, (.pointer (some ⟨p3, o3 + 2, none⟩)))] := hf.prune [0, 1, 5, 24, 25, 26, 27, 28, 29, 30] rfl
   replace hf : Fr a 41 [(0, (.slice A (((a2.set (i).toNat ({ A := k2, B := e.B, Length := e.Length, Risk := e.Risk } : Fiber)).set (i).toNat ({ A := e2.A, B := w64 (k2 + 1), Length := e2.Length, Risk := e2.Risk } : Fiber)).set (i).toNat ({ A := e3.A, B := e3.B, Length := w64 ((w64 (k2 + 1)) + 1), Risk := e3.Risk } : Fiber)).length c)), (1, (.int .i64 (w64 ((w64 (k2 + 1)) + 1)))), (5, (.int .i64 i)), (24, (.int .i64 (w64 (k2 + 1)))), (25, (.int .i64 (w64 ((w64 (k2 + 1)) + 1)))), (26, (.slice A (((a2.set (i).toNat ({ A := k2, B := e.B, Length := e.Length, Risk := e.Risk } : Fiber)).set (i).toNat ({ A := e2.A, B := w64 (k2 + 1), Length := e2.Length, Risk := e2.Risk } : Fiber)).set (i).toNat ({ A := e3.A, B := e3.B, Length := w64 ((w64 (k2 + 1)) + 1), Risk := e3.Risk } : Fiber)).length c)), (27, (.int .i64 i)), (28, (.int .i64 (w64 ((w64 (k2 + 1)) + 1)))), (29, (.pointer (some ⟨p3, o3 + 0, none⟩))), (30, (.pointer (some ⟨p3, o3 + 2, none⟩)))] := by simpa only [List.length_set, Nat.add_zero] using hf
   refine wl_end (then_n (sq (reg (pr 3 hf rfl rfl fun a hf => ?_))))
   refine wl_end (then_n (sq (reg (pr 3 hf rfl rfl fun a hf => ?_))))
   obtain ⟨e4, he4, hR1⟩ := bind_some hR1
   refine wl0 rfl (op_iaddrR hf H Tryz.underlying32 TF.sz120 0 rfl rfl rfl he4 (by decide) fun p4 o4 cs4 a hf hA4 hr4 hk4 => ?_)
   obtain rfl := Fiber_cells hr4
   refine pr 1 hf rfl rfl fun a hf => ?_
   refine wl0 rfl (op_storeR (e' := ({ A := e4.A, B := e4.B, Length := e4.Length, Risk := w64 ((w64 ((w64 (k2 + 1)) + 1)) + 1) } : Fiber)) (o := o4) (off := 3) hf H TF.sz3 0 rfl rfl rfl rfl rfl (nle rfl) rfl hA4 he4 (fun cs h => by obtain rfl := Fiber_cells h; exact Fiber_mk (x := ({ A := e4.A, B := e4.B, Length := e4.Length, Risk := w64 ((w64 ((w64 (k2 + 1)) + 1)) + 1) } : Fiber))) fun w H => ?_)
   replace hf : Fr a 41 [(0, (.slice A (((a2.set (i).toNat ({ A := k2, B := e.B, Length := e.Length, Risk := e.Risk } : Fiber)).set (i).toNat ({ A := e2.A, B := w64 (k2 + 1), Length := e2.Length, Risk := e2.Risk } : Fiber)).set (i).toNat ({ A := e3.A, B := e3.B, Length := w64 ((w64 (k2 + 1)) + 1), Risk := e3.Risk } : Fiber)).length c)), (1, (.int .i64 (w64 ((w64 ((w64 (k2 + 1)) + 1)) + 1)))), (5, (.int .i64 i)), (24, (.int .i64 (w64 (k2 + 1)))), (25, (.int .i64 (w64 ((w64 (k2 + 1)) + 1)))), (26, (.slice A (((a2.set (i).toNat ({ A := k2, B := e.B, Length := e.Length, Risk := e.Risk } : Fiber)).set (i).toNat ({ A := e2.A, B := w64 (k2 + 1), Length := e2.Length, Risk := e2.Risk } : Fiber)).set (i).toNat ({ A := e3.A, B := e3.B, Length := w64 ((w64 (k2 + 1)) + 1), Risk := e3.Risk } : Fiber)).length c)), (27, (.int .i64 i)), (28, (.int .i64 (w64 ((w64 (k2 + 1)) + 1)))), (29, (.pointer (some ⟨p3, o3 + 0, none⟩))), (30, (.pointer (some ⟨p3, o3 + 2, none⟩))), (31, (.int .i64 (w64 ((w64 (k2 + 1)) + 1)))), (32, (.int .i64 (w64 ((w64 ((w64 (k2 + 1)) + 1)) + 1)))), (33, (.slice A (((a2.set (i).toNat ({ A := k2, B := e.B, Length := e.Length, Risk := e.Risk } : Fiber)).set (i).toNat ({ A := e2.A, B := w64 (k2 + 1), Length := e2.Length, Risk := e2.Risk } : Fiber)).set (i).toNat ({ A := e3.A, B := e3.B, Length := w64 ((w64 (k2 + 1)) + 1), Risk := e3.Risk } : Fiber)).length c)), (34, (.int .i64 i)), (35, (.int .i64 (w64 ((w64 ((w64 (k2 + 1)) + 1)) + 1)))), (36, (.pointer (some ⟨p4, o4 + 0, none⟩))), (37, (.pointer (some ⟨p4, o4 + 3, none⟩)))] := hf.prune [0, 1, 5, 24, 25, 26, 27, 28, 29, 30, 31, 32, 33, 34, 35, 36, 37] rfl
   replace hf : Fr a 41 [(0, (.slice A ((((a2.set (i).toNat ({ A := k2, B := e.B, Length := e.Length, Risk := e.Risk } : Fiber)).set (i).toNat ({ A := e2.A, B := w64 (k2 + 1), Length := e2.Length, Risk := e2.Risk } : Fiber)).set (i).toNat ({ A := e3.A, B := e3.B, Length := w64 ((w64 (k2 + 1)) + 1), Risk := e3.Risk } : Fiber)).set (i).toNat ({ A := e4.A, B := e4.B, Length := e4.Length, Risk := w64 ((w64 ((w64 (k2 + 1)) + 1)) + 1) } : Fiber)).length c)), (1, (.int .i64 (w64 ((w64 ((w64 (k2 + 1)) + 1)) + 1)))), (5, (.int .i64 i)), (24, (.int .i64 (w64 (k2 + 1)))), (25, (.int .i64 (w64 ((w64 (k2 + 1)) + 1)))), (26, (.slice A ((((a2.set (i).toNat ({ A := k2, B := e.B, Length := e.Length, Risk := e.Risk } : Fiber)).set (i).toNat ({ A := e2.A, B := w64 (k2 + 1), Length := e2.Length, Risk := e2.Risk } : Fiber)).set (i).toNat ({ A := e3.A, B := e3.B, Length := w64 ((w64 (k2 + 1)) + 1), Risk := e3.Risk } : Fiber)).set (i).toNat ({ A := e4.A, B := e4.B, Length := e4.Length, Risk := w64 ((w64 ((w64 (k2 + 1)) + 1)) + 1) } : Fiber)).length c)), (27, (.int .i64 i)), (28, (.int .i64 (w64 ((w64 (k2 + 1)) + 1)))), (29, (.pointer (some ⟨p3, o3 + 0, none⟩))), (30, (.pointer (some ⟨p3, o3 + 2, none⟩))), (31, (.int .i64 (w64 ((w64 (k2 + 1)) + 1)))), (32, (.int .i64 (w64 ((w64 ((w64 (k2 + 1)) + 1)) + 1)))), (33, (.slice A ((((a2.set (i).toNat ({ A := k2, B := e.B, Length := e.Length, Risk := e.Risk } : Fiber)).set (i).toNat ({ A := e2.A, B := w64 (k2 + 1), Length := e2.Length, Risk := e2.Risk } : Fiber)).set (i).toNat ({ A := e3.A, B := e3.B, Length := w64 ((w64 (k2 + 1)) + 1), Risk := e3.Risk } : Fiber)).set (i).toNat ({ A := e4.A, B := e4.B, Length := e4.Length, Risk := w64 ((w64 ((w64 (k2 + 1)) + 1)) + 1) } : Fiber)).length c)), (34, (.int .i64 i)), (35, (.int .i64 (w64 ((w64 ((w64 (k2 + 1)) + 1)) + 1)))), (36, (.pointer (some ⟨p4, o4 + 0, none⟩))), (37, (.pointer (some ⟨p4, o4 + 3, none⟩)))] := by simpa only [List.length_set, Nat.add_zero] using hf
   have hf := hf.prune [0, 1, 5] rfl
   refine wl_end (then_n (reg (pr 3 hf rfl rfl fun a hf => ?_)))
   refine wl_end (blk_n (then_n (reg (pr 3 hf rfl rfl fun a hf => ?_))))
   refine wl_end ?_
   have hf := hf.prune [0, 1, 5] rfl
   have hf : Fr a 41 [(0, (.slice A a'.length c)), (1, (.int .i64 (w64 ((w64 ((w64 ((w64 (k2 + 1)) + 1)) + 1)) + 1)))), (5, (.int .i64 (w64 (i + 1))))] := by first | exact hf | (simp only [List.length_set, hlen] at hf; exact hf)
   have H := H.let [] [true] [] [] rfl rfl rfl rfl
   exact then_n ⟨((((a2.set (i).toNat ({ A := k2, B := e.B, Length := e.Length, Risk := e.Risk } : Fiber)).set (i).toNat ({ A := e2.A, B := w64 (k2 + 1), Length := e2.Length, Risk := e2.Risk } : Fiber)).set (i).toNat ({ A := e3.A, B := e3.B, Length := w64 ((w64 (k2 + 1)) + 1), Risk := e3.Risk } : Fiber)).set (i).toNat ({ A := e4.A, B := e4.B, Length := e4.Length, Risk := w64 ((w64 ((w64 (k2 + 1)) + 1)) + 1) } : Fiber), w64 ((w64 ((w64 ((w64 (k2 + 1)) + 1)) + 1)) + 1), w64 (i + 1)), hR1, (by simp only [List.length_set, hlen]), hf, H⟩
  ·refine wp_exit (then_x (then_x (blk_e (?_))))
   have hf := hf.prune [0, 1, 5] rfl
   have hf : Fr a 41 [(0, (.slice A a'.length c)), (1, (.int .i64 k2)), (5, (.int .i64 i))] := by first | exact hf | (simp only [List.length_set, hlen] at hf; exact hf)
   have H := H.let [] [true] [] [] rfl rfl rfl rfl
   exact ⟨(a2, k2, i), (Option.some.inj hR1).symm, (by simp only [List.length_set, hlen]), hf, H⟩
 rintro a w ⟨⟨a3, k3, i2⟩, rfl, hlen, hf, H⟩
 try dsimp only at hlen
 have hf : Fr a 41 [(0, (.slice A a3.length c)), (1, (.int .i64 k3)), (5, (.int .i64 i2))] := by rw [hlen]; exact hf
 dsimp only at hF
 refine then_n (sq (reg (pr 2 hf rfl rfl fun a hf => ?_)))
 refine wl_end (then_n (wp_ret (?_)))
 have H := H.rowOwn 0 rfl rfl
 obtain ⟨F', H⟩ := H.freezeOwn 0 rfl
 rw [hlen] at H
 obtain rfl := Option.some.inj hF
 refine ret_1 (fn := Tryz.f146) (r := .tmp 4) hf rfl (rv_tmp hf rfl) ?_
 exact ⟨_, rfl, H.chg, mk_int, _, H.ownAt 0 rfl, H.back⟩

/- loop.example/g00897/laws.markNetwork -/
set_option maxHeartbeats 1000000 in
theorem laws_markNetwork_ok {fu : Nat} {w0 : World} {S : Nat → Prop} {F : List Nat} {cs : List Value} {v1_ : Value} {a' : Network} {k' : Int} {r : Int × Network} (hO : GoTy.own w0 F cs a') (hn : F.Nodup) (h1 : VR w0 S v1_ k') (hF : laws_markNetwork fu a' k' = some r) :
    Calls Tryz.prog 79 [(bif GoTy.agg (Network) then .agg cs.toArray else cs.headD undef), v1_].toArray w0 fun e w' => ∃ v, e = .returned v ∧ (Chg w0 w' F ∧ VR w' (fun _ => True) v r.1 ∧ ∃ F', GoTy.own w' F' cs r.2 ∧ Back w0 w' F F') := by
 obtain rfl := VR_int h1
 obtain ⟨A1, c1, F1, A2, c2, F2, rfl, hFe, l1, l2⟩ := Network_own hO
 have H := Mem.startG S hO hn
 have H := H.recast (X := [(⟨F, MP.own F [(.slice A1 a'.Nodes.length c1), (.slice A2 a'.Fibers.length c2)] (a' : Network)⟩ : DI)]) (Y := [(⟨F1, MP.own F1 [(.slice A1 a'.Nodes.length c1)] (a'.Nodes : List ByteArray)⟩ : DI), (⟨F2, MP.own F2 [(.slice A2 a'.Fibers.length c2)] (a'.Fibers : List Fiber)⟩ : DI)]) (D := []) (List.Perm.of_eq (by simp [hFe])) fun _ => (ps1 l1 (ps1 l2 ps0))
 have H := H.lend 0 rfl
 have H := H.lend 1 rfl
 refine enter Tryz.func79 rfl rfl (nle rfl) rfl fun a hf => ?_
 rw [laws_markNetwork] at hF
 refine sq (reg (wl0 rfl (op_box hf H rfl rfl (by decide) fun b' a w hf H => ?_)))
 refine pr 1 hf rfl rfl fun a hf => ?_
 refine wl_end (then_n (sq (reg (pr 1 hf rfl rfl fun a hf => ?_))))
 refine wl0 rfl (op_q hf (rq_loadB hf H TF.ls22 0 rfl rfl rfl) rfl (by decide) fun a hf => ?_)
 refine pr 1 hf rfl rfl fun a hf => ?_
 obtain ⟨y, hy, hF⟩ := bind_some hF
 refine wl0 rfl (op_call hf TF.cl145 rfl (by decide) (laws_markStringS_ok (S := fun _ => True) (F := F1) (cs := [(.slice A1 a'.Nodes.length c1)]) (H.ownAt 0 rfl) H.diNd.1 mk_int hy) fun v w a hp hf => ?_)
 obtain ⟨hch, hv, F4, ho, hbk⟩ := hp
 obtain rfl := VR_int hv
 have H := H.wrote rfl hch ho hbk
 have H := H.lend 0 rfl
 have H := H.lend 1 rfl
 refine pr 1 hf rfl rfl fun a hf => ?_
 refine wl_end (then_n (sq (reg (pr 1 hf rfl rfl fun a hf => ?_))))
 refine wl0 rfl (op_q hf (rq_loadB hf H TF.ls32 0 rfl rfl rfl) rfl (by decide) fun a hf => ?_)
 refine pr 1 hf rfl rfl fun a hf => ?_
 have H := H.frontD 1 rfl
 obtain ⟨y2, hy2, hF⟩ := bind_some hF
 refine wl0 rfl (op_call hf TF.cl146 rfl (by decide) (laws_markFiberS_ok (S := fun _ => True) (F := F2) (cs := [(.slice A2 a'.Fibers.length c2)]) (H.ownAt 0 rfl) H.diNd.1 mk_int hy2) fun v2 w a hp2 hf => ?_)
 obtain ⟨hch2, hv2, F5, ho2, hbk2⟩ := hp2
 obtain rfl := VR_int hv2
 have H := H.wrote rfl hch2 ho2 hbk2
 have H := H.lend 0 rfl
 have H := H.lend 1 rfl
 refine pr 1 hf rfl rfl fun a hf => ?_
 refine wl_end (then_n (sq (reg (pr 2 hf rfl rfl fun a hf => ?_))))
 refine wl_end (then_n (wp_ret (?_)))
 have H := H.frontD 1 rfl
 have H := H.recast (X := [(⟨F4, MP.own F4 [(.slice A1 a'.Nodes.length c1)] (y.2 : List ByteArray)⟩ : DI), (⟨F5, MP.own F5 [(.slice A2 a'.Fibers.length c2)] (y2.2 : List Fiber)⟩ : DI)]) (Y := [(⟨(F4 ++ F5), MP.own (F4 ++ F5) [(.slice A1 a'.Nodes.length c1), (.slice A2 a'.Fibers.length c2)] (({ Nodes := y.2, Fibers := y2.2 } : Network) : Network)⟩ : DI)]) (List.Perm.of_eq (by simp)) fun _ => ps1 (Network_ownmk (x := ({ Nodes := y.2, Fibers := y2.2 } : Network)) (H.ownAt 0 rfl) (H.ownAt 1 rfl)) ps0
 obtain rfl := Option.some.inj hF
 refine ret_1 (fn := Tryz.f79) (r := .tmp 4) hf rfl (rv_tmp hf rfl) ?_
 exact ⟨_, rfl, H.chg, mk_int, _, H.ownAt 0 rfl, H.back⟩

/- loop.example/g00897/laws.markIntS -/
set_option maxHeartbeats 1000000 in
theorem laws_markIntS_ok {fu : Nat} {w0 : World} {S : Nat → Prop} {F : List Nat} {cs : List Value} {v1_ : Value} {a' : List Int} {k' : Int} {r : Int × List Int} (hO : GoTy.own w0 F cs a') (hn : F.Nodup) (h1 : VR w0 S v1_ k') (hF : laws_markIntS fu a' k' = some r) :
    Calls Tryz.prog 26 [(bif GoTy.agg (List Int) then .agg cs.toArray else cs.headD undef), v1_].toArray w0 fun e w' => ∃ v, e = .returned v ∧ (Chg w0 w' F ∧ VR w' (fun _ => True) v r.1 ∧ ∃ F', GoTy.own w' F' cs r.2 ∧ Back w0 w' F F') := by
 obtain rfl := VR_int h1
 obtain ⟨A, c, rfl, hO⟩ := own_list hO
 have H := Mem.startG S hO hn
 obtain ⟨Fs, E, H, -⟩ := H.thaw rfl
 have H := H.rowSh 0 rfl
 refine enter Tryz.func26 rfl rfl (nle rfl) rfl fun a hf => ?_
 rw [laws_markIntS] at hF
 refine sq (reg (pr 1 hf rfl rfl fun a hf => ?_))
 refine wl_end (then_n (sq (sq (reg (pr 1 hf rfl rfl fun a hf => ?_)))))
 refine wl_end (then_n ?_)
 obtain ⟨out', hB1, hF⟩ := bind_some hF
 have hf := hf.prune [0, 1, 5] rfl
 have hf : Fr a 19 [(0, (.slice A a'.length c)), (1, (.int .i64 k')), (5, (.int .i64 0))] := by first | exact hf | (simp only [List.length_set] at hf; exact hf)
 have H := H.let [] [true] [] [] rfl rfl rfl rfl
 refine loopC (fun (s : List Int × Int × Int) (a : Act) (w : World) => match s with | (a2, k2, i) => a2.length = a'.length ∧ Fr a 19 [(0, (.slice A a'.length c)), (1, (.int .i64 k2)), (5, (.int .i64 i))] ∧ Mem ⟨w0, F⟩ S [] [⟨.sh true, E, A, c, (a2 : List Int)⟩] [] [] w) (fun k (s : List Int × Int × Int) => laws_markIntS_L1 fu k s.1 s.2.1 s.2.2 = some out') (fun s => out' = s) (a', k', 0) fu hB1 ⟨rfl, hf, H⟩ (fun s h => by cases h) ?_ ?_
 ·rintro fk ⟨a2, k2, i⟩ a w hR1 hI
  replace hR1 : laws_markIntS_L1 fu (fk + 1) a2 k2 i = some out' := hR1
  rw [laws_markIntS_L1] at hR1
  obtain ⟨hlen, hf, H⟩ := hI
  have hf : Fr a 19 [(0, (.slice A a2.length c)), (1, (.int .i64 k2)), (5, (.int .i64 i))] := by rw [hlen]; exact hf
  refine sq (sq (reg (pr 4 hf rfl rfl fun a hf => ?_)))
  refine wl_end (then_n (iteB hR1 (fun hc hR1 => cd_t hf rfl hc ?_) fun hc hR1 => cd_f hf rfl hc ?_))
  ·refine wp_skip (then_n (sq (wp_block (sq (reg (pr 3 hf rfl rfl fun a hf => ?_))))))
   obtain ⟨e, he, hR1⟩ := bind_some hR1
   refine wl0 rfl (op_iaddrR hf H Tryz.underlying44 TF.sz3 0 rfl rfl rfl he (by decide) fun p o cs a hf hA hr hk => ?_)
   obtain rfl := hr
   refine wl0 rfl (op_storeR (e' := k2) (o := o) (off := 0) hf H TF.sz3 0 rfl rfl rfl rfl rfl (nle rfl) rfl hA he (st_full rfl) fun w H => ?_)
   replace hf : Fr a 19 [(0, (.slice A a2.length c)), (1, (.int .i64 k2)), (5, (.int .i64 i)), (6, (.int .i64 i)), (7, (.slice A a2.length c)), (8, (.int .i64 (a2.length : Int))), (9, (.bool (decide (i < (a2.length : Int))))), (12, (.slice A a2.length c)), (13, (.int .i64 i)), (14, (.int .i64 k2)), (15, (.pointer (some ⟨p, o + 0, none⟩)))] := hf.prune [0, 1, 5, 6, 7, 8, 9, 12, 13, 14, 15] rfl
   replace hf : Fr a 19 [(0, (.slice A (a2.set (i).toNat k2).length c)), (1, (.int .i64 k2)), (5, (.int .i64 i)), (6, (.int .i64 i)), (7, (.slice A (a2.set (i).toNat k2).length c)), (8, (.int .i64 (a2.length : Int))), (9, (.bool (decide (i < (a2.length : Int))))), (12, (.slice A (a2.set (i).toNat k2).length c)), (13, (.int .i64 i)), (14, (.int .i64 k2)), (15, (.pointer (some ⟨p, o + 0, none⟩)))] := by simpa only [List.length_set, Nat.add_zero] using hf
   refine wl_end (then_n (reg (pr 3 hf rfl rfl fun a hf => ?_)))
   refine wl_end (blk_n (then_n (reg (pr 3 hf rfl rfl fun a hf => ?_))))
   refine wl_end ?_
   have hf := hf.prune [0, 1, 5] rfl
   have hf : Fr a 19 [(0, (.slice A a'.length c)), (1, (.int .i64 (w64 (k2 + 1)))), (5, (.int .i64 (w64 (i + 1))))] := by first | exact hf | (simp only [List.length_set, hlen] at hf; exact hf)
   have H := H.let [] [true] [] [] rfl rfl rfl rfl
   exact then_n ⟨(a2.set (i).toNat k2, w64 (k2 + 1), w64 (i + 1)), hR1, (by simp only [List.length_set, hlen]), hf, H⟩
  ·refine wp_exit (then_x (then_x (blk_e (?_))))
   have hf := hf.prune [0, 1, 5] rfl
   have hf : Fr a 19 [(0, (.slice A a'.length c)), (1, (.int .i64 k2)), (5, (.int .i64 i))] := by first | exact hf | (simp only [List.length_set, hlen] at hf; exact hf)
   have H := H.let [] [true] [] [] rfl rfl rfl rfl
   exact ⟨(a2, k2, i), (Option.some.inj hR1).symm, (by simp only [List.length_set, hlen]), hf, H⟩
 rintro a w ⟨⟨a3, k3, i2⟩, rfl, hlen, hf, H⟩
 try dsimp only at hlen
 have hf : Fr a 19 [(0, (.slice A a3.length c)), (1, (.int .i64 k3)), (5, (.int .i64 i2))] := by rw [hlen]; exact hf
 dsimp only at hF
 refine then_n (sq (reg (pr 2 hf rfl rfl fun a hf => ?_)))
 refine wl_end (then_n (wp_ret (?_)))
 have H := H.rowOwn 0 rfl rfl
 obtain ⟨F', H⟩ := H.freezeOwn 0 rfl
 rw [hlen] at H
 obtain rfl := Option.some.inj hF
 refine ret_1 (fn := Tryz.f26) (r := .tmp 4) hf rfl (rv_tmp hf rfl) ?_
 exact ⟨_, rfl, H.chg, mk_int, _, H.ownAt 0 rfl, H.back⟩

/- loop.example/g00897/laws.markLightS -/
set_option maxHeartbeats 1000000 in
theorem laws_markLightS_ok {fu : Nat} {w0 : World} {S : Nat → Prop} {F : List Nat} {cs : List Value} {v1_ : Value} {a' : List Light} {k' : Int} {r : Int × List Light} (hO : GoTy.own w0 F cs a') (hn : F.Nodup) (h1 : VR w0 S v1_ k') (hF : laws_markLightS fu a' k' = some r) :
    Calls Tryz.prog 80 [(bif GoTy.agg (List Light) then .agg cs.toArray else cs.headD undef), v1_].toArray w0 fun e w' => ∃ v, e = .returned v ∧ (Chg w0 w' F ∧ VR w' (fun _ => True) v r.1 ∧ ∃ F', GoTy.own w' F' cs r.2 ∧ Back w0 w' F F') := by
 obtain rfl := VR_int h1
 obtain ⟨A, c, rfl, hO⟩ := own_list hO
 have H := Mem.startG S hO hn
 obtain ⟨Fs, E, H, -⟩ := H.thaw rfl
 refine enter Tryz.func80 rfl rfl (nle rfl) rfl fun a hf => ?_
 rw [laws_markLightS] at hF
 refine sq (reg (pr 1 hf rfl rfl fun a hf => ?_))
 refine wl_end (then_n (sq (sq (reg (pr 1 hf rfl rfl fun a hf => ?_)))))
 refine wl_end (then_n ?_)
 obtain ⟨out', hB1, hF⟩ := bind_some hF
 have hf := hf.prune [0, 1, 5] rfl
 have hf : Fr a 52 [(0, (.slice A a'.length c)), (1, (.int .i64 k')), (5, (.int .i64 0))] := by first | exact hf | (simp only [List.length_set] at hf; exact hf)
 have H := H.let [] [true] [] [] rfl rfl rfl rfl
 refine loopC (fun (s : List Light × Int × Int) (a : Act) (w : World) => match s with | (a2, k2, i) => ∃ (Fs2 : List (List Nat)), a2.length = a'.length ∧ Fr a 52 [(0, (.slice A a'.length c)), (1, (.int .i64 k2)), (5, (.int .i64 i))] ∧ Mem ⟨w0, F⟩ S [] [⟨.ow Fs2, E, A, c, (a2 : List Light)⟩] [] [] w) (fun k (s : List Light × Int × Int) => laws_markLightS_L1 fu k s.1 s.2.1 s.2.2 = some out') (fun s => out' = s) (a', k', 0) fu hB1 ⟨Fs, rfl, hf, H⟩ (fun s h => by cases h) ?_ ?_
 ·rintro fk ⟨a2, k2, i⟩ a w hR1 hI
  replace hR1 : laws_markLightS_L1 fu (fk + 1) a2 k2 i = some out' := hR1
  rw [laws_markLightS_L1] at hR1
  obtain ⟨Fs2, hlen, hf, H⟩ := hI
  have hf : Fr a 52 [(0, (.slice A a2.length c)), (1, (.int .i64 k2)), (5, (.int .i64 i))] := by rw [hlen]; exact hf
  refine sq (sq (reg (pr 4 hf rfl rfl fun a hf => ?_)))
  refine wl_end (then_n (iteB hR1 (fun hc hR1 => cd_t hf rfl hc ?_) fun hc hR1 => cd_f hf rfl hc ?_))
  ·refine wp_skip (then_n (sq (wp_block (sq (reg (pr 3 hf rfl rfl fun a hf => ?_))))))
   obtain ⟨e, he, hR1⟩ := bind_some hR1
   refine wl0 rfl (op_iaddrR hf H Tryz.underlying35 TF.sz112 0 rfl rfl rfl he (by decide) fun p o cs a hf hA hr hk => ?_)
   have hrk := hr
   obtain ⟨A2, c2, rfl, hl⟩ := Light_cells hr
   have H := H.push (true, MP.val [(.slice A2 e.Route.Fibers.length c2)] e.Route.Fibers) hl
   refine pr 1 hf rfl rfl fun a hf => ?_
   refine wl0 rfl (op_storeR (e' := ({ Id := k2, Route := e.Route, Block := e.Block } : Light)) (o := o) (off := 0) hf H TF.sz3 0 rfl rfl rfl rfl rfl (nle rfl) rfl hA he (st_own fun F cs h => by obtain ⟨A0, c0, F0, rfl, rfl, l0⟩ := Light_own h; exact Light_ownmk (x := ({ Id := k2, Route := e.Route, Block := e.Block } : Light)) l0) fun w H => ?_)
   replace hf : Fr a 52 [(0, (.slice A a2.length c)), (1, (.int .i64 k2)), (5, (.int .i64 i)), (6, (.int .i64 i)), (7, (.slice A a2.length c)), (8, (.int .i64 (a2.length : Int))), (9, (.bool (decide (i < (a2.length : Int))))), (12, (.slice A a2.length c)), (13, (.int .i64 i)), (14, (.int .i64 k2)), (15, (.pointer (some ⟨p, o + 0, none⟩))), (16, (.pointer (some ⟨p, o + 0, none⟩)))] := hf.prune [0, 1, 5, 6, 7, 8, 9, 12, 13, 14, 15, 16] rfl
   replace hf : Fr a 52 [(0, (.slice A (a2.set (i).toNat ({ Id := k2, Route := e.Route, Block := e.Block } : Light)).length c)), (1, (.int .i64 k2)), (5, (.int .i64 i)), (6, (.int .i64 i)), (7, (.slice A (a2.set (i).toNat ({ Id := k2, Route := e.Route, Block := e.Block } : Light)).length c)), (8, (.int .i64 (a2.length : Int))), (9, (.bool (decide (i < (a2.length : Int))))), (12, (.slice A (a2.set (i).toNat ({ Id := k2, Route := e.Route, Block := e.Block } : Light)).length c)), (13, (.int .i64 i)), (14, (.int .i64 k2)), (15, (.pointer (some ⟨p, o + 0, none⟩))), (16, (.pointer (some ⟨p, o + 0, none⟩)))] := by simpa only [List.length_set, Nat.add_zero] using hf
   refine wl_end (then_n (sq (reg (pr 3 hf rfl rfl fun a hf => ?_))))
   refine wl_end (then_n (sq (reg (pr 3 hf rfl rfl fun a hf => ?_))))
   obtain ⟨e2, he2, hR1⟩ := bind_some hR1
   refine wl0 rfl (op_iaddrR hf H Tryz.underlying35 TF.sz112 0 rfl rfl rfl he2 (by decide) fun p2 o2 cs2 a hf hA2 hr2 hk2 => ?_)
   have hrk2 := hr2
   obtain ⟨A3, c3, rfl, hl2⟩ := Light_cells hr2
   have H := H.push (true, MP.val [(.slice A3 e2.Route.Fibers.length c3)] e2.Route.Fibers) hl2
   refine pr 2 hf rfl rfl fun a hf => ?_
   refine wl0 rfl (op_storeR (e' := ({ Id := e2.Id, Route := ({ Start := w64 (k2 + 1), Fibers := e2.Route.Fibers } : Route), Block := e2.Block } : Light)) (o := o2) (off := 1) hf H TF.sz3 0 rfl rfl rfl rfl rfl (nle rfl) rfl hA2 he2 (st_own fun F cs h => by obtain ⟨A0, c0, F0, rfl, rfl, l0⟩ := Light_own h; exact Light_ownmk (x := ({ Id := e2.Id, Route := ({ Start := w64 (k2 + 1), Fibers := e2.Route.Fibers } : Route), Block := e2.Block } : Light)) l0) fun w H => ?_)
   replace hf : Fr a 52 [(0, (.slice A (a2.set (i).toNat ({ Id := k2, Route := e.Route, Block := e.Block } : Light)).length c)), (1, (.int .i64 (w64 (k2 + 1)))), (5, (.int .i64 i)), (6, (.int .i64 i)), (7, (.slice A (a2.set (i).toNat ({ Id := k2, Route := e.Route, Block := e.Block } : Light)).length c)), (8, (.int .i64 (a2.length : Int))), (9, (.bool (decide (i < (a2.length : Int))))), (12, (.slice A (a2.set (i).toNat ({ Id := k2, Route := e.Route, Block := e.Block } : Light)).length c)), (13, (.int .i64 i)), (14, (.int .i64 k2)), (15, (.pointer (some ⟨p, o + 0, none⟩))), (16, (.pointer (some ⟨p, o + 0, none⟩))), (17, (.int .i64 k2)), (18, (.int .i64 (w64 (k2 + 1)))), (19, (.slice A (a2.set (i).toNat ({ Id := k2, Route := e.Route, Block := e.Block } : Light)).length c)), (20, (.int .i64 i)), (21, (.int .i64 (w64 (k2 + 1)))), (22, (.pointer (some ⟨p2, o2 + 0, none⟩))), (23, (.pointer (some ⟨p2, o2 + 1, none⟩))), (24, (.pointer (some ⟨p2, o2 + 1, none⟩)))] := hf.prune [0, 1, 5, 6, 7, 8, 9, 12, 13, 14, 15, 16, 17, 18, 19, 20, 21, 22, 23, 24] rfl
   replace hf : Fr a 52 [(0, (.slice A ((a2.set (i).toNat ({ Id := k2, Route := e.Route, Block := e.Block } : Light)).set (i).toNat ({ Id := e2.Id, Route := ({ Start := w64 (k2 + 1), Fibers := e2.Route.Fibers } : Route), Block := e2.Block } : Light)).length c)), (1, (.int .i64 (w64 (k2 + 1)))), (5, (.int .i64 i)), (6, (.int .i64 i)), (7, (.slice A ((a2.set (i).toNat ({ Id := k2, Route := e.Route, Block := e.Block } : Light)).set (i).toNat ({ Id := e2.Id, Route := ({ Start := w64 (k2 + 1), Fibers := e2.Route.Fibers } : Route), Block := e2.Block } : Light)).length c)), (8, (.int .i64 (a2.length : Int))), (9, (.bool (decide (i < (a2.length : Int))))), (12, (.slice A ((a2.set (i).toNat ({ Id := k2, Route := e.Route, Block := e.Block } : Light)).set (i).toNat ({ Id := e2.Id, Route := ({ Start := w64 (k2 + 1), Fibers := e2.Route.Fibers } : Route), Block := e2.Block } : Light)).length c)), (13, (.int .i64 i)), (14, (.int .i64 k2)), (15, (.pointer (some ⟨p, o + 0, none⟩))), (16, (.pointer (some ⟨p, o + 0, none⟩))), (17, (.int .i64 k2)), (18, (.int .i64 (w64 (k2 + 1)))), (19, (.slice A ((a2.set (i).toNat ({ Id := k2, Route := e.Route, Block := e.Block } : Light)).set (i).toNat ({ Id := e2.Id, Route := ({ Start := w64 (k2 + 1), Fibers := e2.Route.Fibers } : Route), Block := e2.Block } : Light)).length c)), (20, (.int .i64 i)), (21, (.int .i64 (w64 (k2 + 1)))), (22, (.pointer (some ⟨p2, o2 + 0, none⟩))), (23, (.pointer (some ⟨p2, o2 + 1, none⟩))), (24, (.pointer (some ⟨p2, o2 + 1, none⟩)))] := by simpa only [List.length_set, Nat.add_zero] using hf
   have hf := hf.prune [0, 1, 5] rfl
   refine wl_end (then_n (sq (reg (pr 3 hf rfl rfl fun a hf => ?_))))
   refine wl_end (then_n (sq (reg (pr 2 hf rfl rfl fun a hf => ?_))))
   obtain ⟨e3, he3, hR1⟩ := bind_some hR1
   refine wl0 rfl (op_iaddrR hf H Tryz.underlying35 TF.sz112 0 rfl rfl rfl he3 (by decide) fun p3 o3 cs3 a hf hA3 hr3 hk3 => ?_)
   have hrk3 := hr3
   obtain ⟨A4, c4, rfl, hl3⟩ := Light_cells hr3
   have H := H.push (true, MP.val [(.slice A4 e3.Route.Fibers.length c4)] e3.Route.Fibers) hl3
   refine pr 2 hf rfl rfl fun a hf => ?_
   refine wl0 rfl (op_q hf (rq_load1 hf TF.ls44 rfl (hk3 2 _ rfl)) rfl (by decide) fun a hf => ?_)
   refine pr 1 hf rfl rfl fun a hf => ?_
   obtain ⟨y, hy, hR1⟩ := bind_some hR1
   obtain ⟨F2, hO, hNd, hnx⟩ := H.mutEl rfl he3 hA3 hrk3 hk3 Light_lens_Route_Fibers rfl
   refine wl0 rfl (op_call hf TF.cl26 rfl (by decide) (laws_markIntS_ok (S := fun _ => True) (cs := [(.slice A4 e3.Route.Fibers.length c4)]) hO hNd mk_int hy) fun v w a hp hf => ?_)
   obtain ⟨hch, hv, F3, ho, hbk⟩ := hp
   obtain rfl := VR_int hv
   obtain ⟨Fs3, H⟩ := hnx _ _ _ hch ho hbk
   replace hf : Fr a 52 [(0, (.slice A ((a2.set (i).toNat ({ Id := k2, Route := e.Route, Block := e.Block } : Light)).set (i).toNat ({ Id := e2.Id, Route := ({ Start := w64 (k2 + 1), Fibers := e2.Route.Fibers } : Route), Block := e2.Block } : Light)).length c)), (1, (.int .i64 (w64 ((w64 (k2 + 1)) + 1)))), (5, (.int .i64 i)), (25, (.int .i64 (w64 (k2 + 1)))), (26, (.int .i64 (w64 ((w64 (k2 + 1)) + 1)))), (27, (.slice A ((a2.set (i).toNat ({ Id := k2, Route := e.Route, Block := e.Block } : Light)).set (i).toNat ({ Id := e2.Id, Route := ({ Start := w64 (k2 + 1), Fibers := e2.Route.Fibers } : Route), Block := e2.Block } : Light)).length c)), (28, (.int .i64 i)), (29, (.pointer (some ⟨p3, o3 + 0, none⟩))), (30, (.pointer (some ⟨p3, o3 + 1, none⟩))), (31, (.pointer (some ⟨p3, o3 + 2, none⟩))), (32, (.slice A4 e3.Route.Fibers.length c4)), (33, (.int .i64 (w64 ((w64 (k2 + 1)) + 1)))), (34, (.int .i64 y.1))] := hf.prune [0, 1, 5, 25, 26, 27, 28, 29, 30, 31, 32, 33, 34] rfl
   replace hf : Fr a 52 [(0, (.slice A (((a2.set (i).toNat ({ Id := k2, Route := e.Route, Block := e.Block } : Light)).set (i).toNat ({ Id := e2.Id, Route := ({ Start := w64 (k2 + 1), Fibers := e2.Route.Fibers } : Route), Block := e2.Block } : Light)).set (i).toNat ({ e3 with Route := { e3.Route with Fibers := y.2 } })).length c)), (1, (.int .i64 (w64 ((w64 (k2 + 1)) + 1)))), (5, (.int .i64 i)), (25, (.int .i64 (w64 (k2 + 1)))), (26, (.int .i64 (w64 ((w64 (k2 + 1)) + 1)))), (27, (.slice A (((a2.set (i).toNat ({ Id := k2, Route := e.Route, Block := e.Block } : Light)).set (i).toNat ({ Id := e2.Id, Route := ({ Start := w64 (k2 + 1), Fibers := e2.Route.Fibers } : Route), Block := e2.Block } : Light)).set (i).toNat ({ e3 with Route := { e3.Route with Fibers := y.2 } })).length c)), (28, (.int .i64 i)), (29, (.pointer (some ⟨p3, o3 + 0, none⟩))), (30, (.pointer (some ⟨p3, o3 + 1, none⟩))), (31, (.pointer (some ⟨p3, o3 + 2, none⟩))), (32, (.slice A4 e3.Route.Fibers.length c4)), (33, (.int .i64 (w64 ((w64 (k2 + 1)) + 1)))), (34, (.int .i64 y.1))] := by simpa only [List.length_set, Nat.add_zero] using hf
   refine pr 1 hf rfl rfl fun a hf => ?_
   refine wl_end (then_n (sq (reg (pr 3 hf rfl rfl fun a hf => ?_))))
   obtain ⟨e4, he4, hR1⟩ := bind_some hR1
   refine wl0 rfl (op_iaddrR hf H Tryz.underlying35 TF.sz112 0 rfl rfl rfl he4 (by decide) fun p4 o4 cs4 a hf hA4 hr4 hk4 => ?_)
   have hrk4 := hr4
   obtain ⟨A5, c5, rfl, hl4⟩ := Light_cells hr4
   have H := H.push (true, MP.val [(.slice A5 e4.Route.Fibers.length c5)] e4.Route.Fibers) hl4
   refine pr 2 hf rfl rfl fun a hf => ?_
   refine wl0 rfl (op_storeR (e' := ({ Id := e4.Id, Route := e4.Route, Block := ({ First := y.1, Count := e4.Block.Count } : Block) } : Light)) (o := o4) (off := 3) hf H TF.sz3 0 rfl rfl rfl rfl rfl (nle rfl) rfl hA4 he4 (st_own fun F cs h => by obtain ⟨A0, c0, F0, rfl, rfl, l0⟩ := Light_own h; exact Light_ownmk (x := ({ Id := e4.Id, Route := e4.Route, Block := ({ First := y.1, Count := e4.Block.Count } : Block) } : Light)) l0) fun w H => ?_)
   replace hf : Fr a 52 [(0, (.slice A (((a2.set (i).toNat ({ Id := k2, Route := e.Route, Block := e.Block } : Light)).set (i).toNat ({ Id := e2.Id, Route := ({ Start := w64 (k2 + 1), Fibers := e2.Route.Fibers } : Route), Block := e2.Block } : Light)).set (i).toNat ({ e3 with Route := { e3.Route with Fibers := y.2 } })).length c)), (1, (.int .i64 y.1)), (5, (.int .i64 i)), (25, (.int .i64 (w64 (k2 + 1)))), (26, (.int .i64 (w64 ((w64 (k2 + 1)) + 1)))), (27, (.slice A (((a2.set (i).toNat ({ Id := k2, Route := e.Route, Block := e.Block } : Light)).set (i).toNat ({ Id := e2.Id, Route := ({ Start := w64 (k2 + 1), Fibers := e2.Route.Fibers } : Route), Block := e2.Block } : Light)).set (i).toNat ({ e3 with Route := { e3.Route with Fibers := y.2 } })).length c)), (28, (.int .i64 i)), (29, (.pointer (some ⟨p3, o3 + 0, none⟩))), (30, (.pointer (some ⟨p3, o3 + 1, none⟩))), (31, (.pointer (some ⟨p3, o3 + 2, none⟩))), (32, (.slice A4 e3.Route.Fibers.length c4)), (33, (.int .i64 (w64 ((w64 (k2 + 1)) + 1)))), (34, (.int .i64 y.1)), (35, (.slice A (((a2.set (i).toNat ({ Id := k2, Route := e.Route, Block := e.Block } : Light)).set (i).toNat ({ Id := e2.Id, Route := ({ Start := w64 (k2 + 1), Fibers := e2.Route.Fibers } : Route), Block := e2.Block } : Light)).set (i).toNat ({ e3 with Route := { e3.Route with Fibers := y.2 } })).length c)), (36, (.int .i64 i)), (37, (.int .i64 y.1)), (38, (.pointer (some ⟨p4, o4 + 0, none⟩))), (39, (.pointer (some ⟨p4, o4 + 3, none⟩))), (40, (.pointer (some ⟨p4, o4 + 3, none⟩)))] := hf.prune [0, 1, 5, 25, 26, 27, 28, 29, 30, 31, 32, 33, 34, 35, 36, 37, 38, 39, 40] rfl
   replace hf : Fr a 52 [(0, (.slice A ((((a2.set (i).toNat ({ Id := k2, Route := e.Route, Block := e.Block } : Light)).set (i).toNat ({ Id := e2.Id, Route := ({ Start := w64 (k2 + 1), Fibers := e2.Route.Fibers } : Route), Block := e2.Block } : Light)).set (i).toNat ({ e3 with Route := { e3.Route with Fibers := y.2 } })).set (i).toNat ({ Id := e4.Id, Route := e4.Route, Block := ({ First := y.1, Count := e4.Block.Count } : Block) } : Light)).length c)), (1, (.int .i64 y.1)), (5, (.int .i64 i)), (25, (.int .i64 (w64 (k2 + 1)))), (26, (.int .i64 (w64 ((w64 (k2 + 1)) + 1)))), (27, (.slice A ((((a2.set (i).toNat ({ Id := k2, Route := e.Route, Block := e.Block } : Light)).set (i).toNat ({ Id := e2.Id, Route := ({ Start := w64 (k2 + 1), Fibers := e2.Route.Fibers } : Route), Block := e2.Block } : Light)).set (i).toNat ({ e3 with Route := { e3.Route with Fibers := y.2 } })).set (i).toNat ({ Id := e4.Id, Route := e4.Route, Block := ({ First := y.1, Count := e4.Block.Count } : Block) } : Light)).length c)), (28, (.int .i64 i)), (29, (.pointer (some ⟨p3, o3 + 0, none⟩))), (30, (.pointer (some ⟨p3, o3 + 1, none⟩))), (31, (.pointer (some ⟨p3, o3 + 2, none⟩))), (32, (.slice A4 e3.Route.Fibers.length c4)), (33, (.int .i64 (w64 ((w64 (k2 + 1)) + 1)))), (34, (.int .i64 y.1)), (35, (.slice A ((((a2.set (i).toNat ({ Id := k2, Route := e.Route, Block := e.Block } : Light)).set (i).toNat ({ Id := e2.Id, Route := ({ Start := w64 (k2 + 1), Fibers := e2.Route.Fibers } : Route), Block := e2.Block } : Light)).set (i).toNat ({ e3 with Route := { e3.Route with Fibers := y.2 } })).set (i).toNat ({ Id := e4.Id, Route := e4.Route, Block := ({ First := y.1, Count := e4.Block.Count } : Block) } : Light)).length c)), (36, (.int .i64 i)), (37, (.int .i64 y.1)), (38, (.pointer (some ⟨p4, o4 + 0, none⟩))), (39, (.pointer (some ⟨p4, o4 + 3, none⟩))), (40, (.pointer (some ⟨p4, o4 + 3, none⟩)))] := by simpa only [List.length_set, Nat.add_zero] using hf
   have hf := hf.prune [0, 1, 5] rfl
   refine wl_end (then_n (sq (reg (pr 3 hf rfl rfl fun a hf => ?_))))
   refine wl_end (then_n (sq (reg (pr 3 hf rfl rfl fun a hf => ?_))))
   obtain ⟨e5, he5, hR1⟩ := bind_some hR1
   refine wl0 rfl (op_iaddrR hf H Tryz.underlying35 TF.sz112 0 rfl rfl rfl he5 (by decide) fun p5 o5 cs5 a hf hA5 hr5 hk5 => ?_)
   have hrk5 := hr5
   obtain ⟨A6, c6, rfl, hl5⟩ := Light_cells hr5
   have H := H.push (true, MP.val [(.slice A6 e5.Route.Fibers.length c6)] e5.Route.Fibers) hl5
   refine pr 2 hf rfl rfl fun a hf => ?_
   refine wl0 rfl (op_storeR (e' := ({ Id := e5.Id, Route := e5.Route, Block := ({ First := e5.Block.First, Count := w64 (y.1 + 1) } : Block) } : Light)) (o := o5) (off := 4) hf H TF.sz3 0 rfl rfl rfl rfl rfl (nle rfl) rfl hA5 he5 (st_own fun F cs h => by obtain ⟨A0, c0, F0, rfl, rfl, l0⟩ := Light_own h; exact Light_ownmk (x := ({ Id := e5.Id, Route := e5.Route, Block := ({ First := e5.Block.First, Count := w64 (y.1 + 1) } : Block) } : Light)) l0) fun w H => ?_)
   replace hf : Fr a 52 [(0, (.slice A ((((a2.set (i).toNat ({ Id := k2, Route := e.Route, Block := e.Block } : Light)).set (i).toNat ({ Id := e2.Id, Route := ({ Start := w64 (k2 + 1), Fibers := e2.Route.Fibers } : Route), Block := e2.Block } : Light)).set (i).toNat ({ e3 with Route := { e3.Route with Fibers := y.2 } })).set (i).toNat ({ Id := e4.Id, Route := e4.Route, Block := ({ First := y.1, Count := e4.Block.Count } : Block) } : Light)).length c)), (1, (.int .i64 (w64 (y.1 + 1)))), (5, (.int .i64 i)), (41, (.int .i64 y.1)), (42, (.int .i64 (w64 (y.1 + 1)))), (43, (.slice A ((((a2.set (i).toNat ({ Id := k2, Route := e.Route, Block := e.Block } : Light)).set (i).toNat ({ Id := e2.Id, Route := ({ Start := w64 (k2 + 1), Fibers := e2.Route.Fibers } : Route), Block := e2.Block } : Light)).set (i).toNat ({ e3 with Route := { e3.Route with Fibers := y.2 } })).set (i).toNat ({ Id := e4.Id, Route := e4.Route, Block := ({ First := y.1, Count := e4.Block.Count } : Block) } : Light)).length c)), (44, (.int .i64 i)), (45, (.int .i64 (w64 (y.1 + 1)))), (46, (.pointer (some ⟨p5, o5 + 0, none⟩))), (47, (.pointer (some ⟨p5, o5 + 3, none⟩))), (48, (.pointer (some ⟨p5, o5 + 4, none⟩)))] := hf.prune [0, 1, 5, 41, 42, 43, 44, 45, 46, 47, 48] rfl
   replace hf : Fr a 52 [(0, (.slice A (((((a2.set (i).toNat ({ Id := k2, Route := e.Route, Block := e.Block } : Light)).set (i).toNat ({ Id := e2.Id, Route := ({ Start := w64 (k2 + 1), Fibers := e2.Route.Fibers } : Route), Block := e2.Block } : Light)).set (i).toNat ({ e3 with Route := { e3.Route with Fibers := y.2 } })).set (i).toNat ({ Id := e4.Id, Route := e4.Route, Block := ({ First := y.1, Count := e4.Block.Count } : Block) } : Light)).set (i).toNat ({ Id := e5.Id, Route := e5.Route, Block := ({ First := e5.Block.First, Count := w64 (y.1 + 1) } : Block) } : Light)).length c)), (1, (.int .i64 (w64 (y.1 + 1)))), (5, (.int .i64 i)), (41, (.int .i64 y.1)), (42, (.int .i64 (w64 (y.1 + 1)))), (43, (.slice A (((((a2.set (i).toNat ({ Id := k2, Route := e.Route, Block := e.Block } : Light)).set (i).toNat ({ Id := e2.Id, Route := ({ Start := w64 (k2 + 1), Fibers := e2.Route.Fibers } : Route), Block := e2.Block } : Light)).set (i).toNat ({ e3 with Route := { e3.Route with Fibers := y.2 } })).set (i).toNat ({ Id := e4.Id, Route := e4.Route, Block := ({ First := y.1, Count := e4.Block.Count } : Block) } : Light)).set (i).toNat ({ Id := e5.Id, Route := e5.Route, Block := ({ First := e5.Block.First, Count := w64 (y.1 + 1) } : Block) } : Light)).length c)), (44, (.int .i64 i)), (45, (.int .i64 (w64 (y.1 + 1)))), (46, (.pointer (some ⟨p5, o5 + 0, none⟩))), (47, (.pointer (some ⟨p5, o5 + 3, none⟩))), (48, (.pointer (some ⟨p5, o5 + 4, none⟩)))] := by simpa only [List.length_set, Nat.add_zero] using hf
   refine wl_end (then_n (reg (pr 3 hf rfl rfl fun a hf => ?_)))
   refine wl_end (blk_n (then_n (reg (pr 3 hf rfl rfl fun a hf => ?_))))
   refine wl_end ?_
   have hf := hf.prune [0, 1, 5] rfl
   have hf : Fr a 52 [(0, (.slice A a'.length c)), (1, (.int .i64 (w64 ((w64 (y.1 + 1)) + 1)))), (5, (.int .i64 (w64 (i + 1))))] := by first | exact hf | (simp only [List.length_set, hlen] at hf; exact hf)
   have H := H.let [] [true] [] [] rfl rfl rfl rfl
   exact then_n ⟨(((((a2.set (i).toNat ({ Id := k2, Route := e.Route, Block := e.Block } : Light)).set (i).toNat ({ Id := e2.Id, Route := ({ Start := w64 (k2 + 1), Fibers := e2.Route.Fibers } : Route), Block := e2.Block } : Light)).set (i).toNat ({ e3 with Route := { e3.Route with Fibers := y.2 } })).set (i).toNat ({ Id := e4.Id, Route := e4.Route, Block := ({ First := y.1, Count := e4.Block.Count } : Block) } : Light)).set (i).toNat ({ Id := e5.Id, Route := e5.Route, Block := ({ First := e5.Block.First, Count := w64 (y.1 + 1) } : Block) } : Light), w64 ((w64 (y.1 + 1)) + 1), w64 (i + 1)), hR1, Fs3, (by simp only [List.length_set, hlen]), hf, H⟩
  ·refine wp_exit (then_x (then_x (blk_e (?_))))
   have hf := hf.prune [0, 1, 5] rfl
   have hf : Fr a 52 [(0, (.slice A a'.length c)), (1, (.int .i64 k2)), (5, (.int .i64 i))] := by first | exact hf | (simp only [List.length_set, hlen] at hf; exact hf)
   have H := H.let [] [true] [] [] rfl rfl rfl rfl
   exact ⟨(a2, k2, i), (Option.some.inj hR1).symm, Fs2, (by simp only [List.length_set, hlen]), hf, H⟩
 rintro a w ⟨⟨a3, k3, i2⟩, rfl, Fs4, hlen, hf, H⟩
 try dsimp only at hlen
 have hf : Fr a 52 [(0, (.slice A a3.length c)), (1, (.int .i64 k3)), (5, (.int .i64 i2))] := by rw [hlen]; exact hf
 dsimp only at hF
 refine then_n (sq (reg (pr 2 hf rfl rfl fun a hf => ?_)))
 refine wl_end (then_n (wp_ret (?_)))
 obtain ⟨F', H⟩ := H.freezeOwn 0 rfl
 rw [hlen] at H
 obtain rfl := Option.some.inj hF
 refine ret_1 (fn := Tryz.f80) (r := .tmp 4) hf rfl (rv_tmp hf rfl) ?_
 exact ⟨_, rfl, H.chg, mk_int, _, H.ownAt 0 rfl, H.back⟩

/- loop.example/g00897/laws.markPlan -/
set_option maxHeartbeats 1000000 in
theorem laws_markPlan_ok {fu : Nat} {w0 : World} {S : Nat → Prop} {F : List Nat} {cs : List Value} {v1_ : Value} {a' : Plan} {k' : Int} {r : Int × Plan} (hO : GoTy.own w0 F cs a') (hn : F.Nodup) (h1 : VR w0 S v1_ k') (hF : laws_markPlan fu a' k' = some r) :
    Calls Tryz.prog 25 [(bif GoTy.agg (Plan) then .agg cs.toArray else cs.headD undef), v1_].toArray w0 fun e w' => ∃ v, e = .returned v ∧ (Chg w0 w' F ∧ VR w' (fun _ => True) v r.1 ∧ ∃ F', GoTy.own w' F' cs r.2 ∧ Back w0 w' F F') := by
 obtain rfl := VR_int h1
 obtain ⟨A1, c1, F1, A2, c2, F2, A3, c3, F3, rfl, hFe, l1, l2, l3⟩ := Plan_own hO
 have H := Mem.startG S hO hn
 have H := H.recast (X := [(⟨F, MP.own F [(.slice A1 a'.Network.Nodes.length c1), (.slice A2 a'.Network.Fibers.length c2), (.slice A3 a'.Lights.length c3)] (a' : Plan)⟩ : DI)]) (Y := [(⟨F1, MP.own F1 [(.slice A1 a'.Network.Nodes.length c1)] (a'.Network.Nodes : List ByteArray)⟩ : DI), (⟨F2, MP.own F2 [(.slice A2 a'.Network.Fibers.length c2)] (a'.Network.Fibers : List Fiber)⟩ : DI), (⟨F3, MP.own F3 [(.slice A3 a'.Lights.length c3)] (a'.Lights : List Light)⟩ : DI)]) (D := []) (List.Perm.of_eq (by simp [hFe])) fun _ => (ps1 l1 (ps1 l2 (ps1 l3 ps0)))
 have H := H.lend 0 rfl
 have H := H.lend 1 rfl
 have H := H.lend 2 rfl
 refine enter Tryz.func25 rfl rfl (nle rfl) rfl fun a hf => ?_
 rw [laws_markPlan] at hF
 refine sq (reg (wl0 rfl (op_box hf H rfl rfl (by decide) fun b' a w hf H => ?_)))
 refine pr 1 hf rfl rfl fun a hf => ?_
 refine wl_end (then_n (sq (reg (pr 1 hf rfl rfl fun a hf => ?_))))
 refine wl0 rfl (op_q hf (rq_loadBN hf H TF.la34 0 rfl rfl rfl rfl) rfl (by decide) fun a hf => ?_)
 refine pr 1 hf rfl rfl fun a hf => ?_
 have H := H.frontD 1 rfl
 have H := H.frontD 1 rfl
 have H := H.recast (X := [(⟨F1, MP.own F1 [(.slice A1 a'.Network.Nodes.length c1)] (a'.Network.Nodes : List ByteArray)⟩ : DI), (⟨F2, MP.own F2 [(.slice A2 a'.Network.Fibers.length c2)] (a'.Network.Fibers : List Fiber)⟩ : DI)]) (Y := [(⟨(F1 ++ F2), MP.own (F1 ++ F2) [(.slice A1 a'.Network.Nodes.length c1), (.slice A2 a'.Network.Fibers.length c2)] (a'.Network : Network)⟩ : DI)]) (List.Perm.of_eq (by simp)) fun _ => ps1 (Network_ownmk (x := a'.Network) (H.ownAt 0 rfl) (H.ownAt 1 rfl)) ps0
 obtain ⟨y, hy, hF⟩ := bind_some hF
 refine wl0 rfl (op_call hf TF.cl79 rfl (by decide) (laws_markNetwork_ok (S := fun _ => True) (F := (F1 ++ F2)) (cs := [(.slice A1 a'.Network.Nodes.length c1), (.slice A2 a'.Network.Fibers.length c2)]) (H.ownAt 0 rfl) H.diNd.1 mk_int hy) fun v w a hp hf => ?_)
 obtain ⟨hch, hv, F5, ho, hbk⟩ := hp
 obtain rfl := VR_int hv
 have H := H.wrote rfl hch ho hbk
 obtain ⟨F6, F7, hFe, hl, hl2⟩ := Network_ownc (H.ownAt 0 rfl)
 have H := H.recast (X := [(⟨F5, MP.own F5 [(.slice A1 a'.Network.Nodes.length c1), (.slice A2 a'.Network.Fibers.length c2)] (y.2 : Network)⟩ : DI)]) (Y := [(⟨F6, MP.own F6 [(.slice A1 a'.Network.Nodes.length c1)] (y.2.Nodes : List ByteArray)⟩ : DI), (⟨F7, MP.own F7 [(.slice A2 a'.Network.Fibers.length c2)] (y.2.Fibers : List Fiber)⟩ : DI)]) (List.Perm.of_eq (by simp [hFe])) fun _ => (ps1 hl (ps1 hl2 ps0))
 have H := H.lend 0 rfl
 have H := H.lend 1 rfl
 have H := H.lend 2 rfl
 refine pr 1 hf rfl rfl fun a hf => ?_
 refine wl_end (then_n (sq (reg (pr 1 hf rfl rfl fun a hf => ?_))))
 refine wl0 rfl (op_q hf (rq_loadB hf H TF.ls35 0 rfl rfl rfl) rfl (by decide) fun a hf => ?_)
 refine pr 1 hf rfl rfl fun a hf => ?_
 have H := H.frontD 2 rfl
 obtain ⟨y2, hy2, hF⟩ := bind_some hF
 refine wl0 rfl (op_call hf TF.cl80 rfl (by decide) (laws_markLightS_ok (S := fun _ => True) (F := F3) (cs := [(.slice A3 a'.Lights.length c3)]) (H.ownAt 0 rfl) H.diNd.1 mk_int hy2) fun v2 w a hp2 hf => ?_)
 obtain ⟨hch2, hv2, F8, ho2, hbk2⟩ := hp2
 obtain rfl := VR_int hv2
 have H := H.wrote rfl hch2 ho2 hbk2
 have H := H.lend 0 rfl
 have H := H.lend 1 rfl
 have H := H.lend 2 rfl
 refine pr 1 hf rfl rfl fun a hf => ?_
 refine wl_end (then_n (sq (reg (pr 2 hf rfl rfl fun a hf => ?_))))
 refine wl_end (then_n (wp_ret (?_)))
 have H := H.frontD 2 rfl
 have H := H.frontD 2 rfl
 have H := H.recast (X := [(⟨F6, MP.own F6 [(.slice A1 a'.Network.Nodes.length c1)] (y.2.Nodes : List ByteArray)⟩ : DI), (⟨F7, MP.own F7 [(.slice A2 a'.Network.Fibers.length c2)] (y.2.Fibers : List Fiber)⟩ : DI), (⟨F8, MP.own F8 [(.slice A3 a'.Lights.length c3)] (y2.2 : List Light)⟩ : DI)]) (Y := [(⟨(F6 ++ (F7 ++ F8)), MP.own (F6 ++ (F7 ++ F8)) [(.slice A1 a'.Network.Nodes.length c1), (.slice A2 a'.Network.Fibers.length c2), (.slice A3 a'.Lights.length c3)] (({ Network := y.2, Lights := y2.2 } : Plan) : Plan)⟩ : DI)]) (List.Perm.of_eq (by simp)) fun _ => ps1 (Plan_ownmk (x := ({ Network := y.2, Lights := y2.2 } : Plan)) (H.ownAt 0 rfl) (H.ownAt 1 rfl) (H.ownAt 2 rfl)) ps0
 obtain rfl := Option.some.inj hF
 refine ret_1 (fn := Tryz.f25) (r := .tmp 4) hf rfl (rv_tmp hf rfl) ?_
 exact ⟨_, rfl, H.chg, mk_int, _, H.ownAt 0 rfl, H.back⟩

/- loop.example/g00897/laws.heldIntS -/
set_option maxHeartbeats 1000000 in
theorem laws_heldIntS_ok {fu : Nat} {w0 : World} {S : Nat → Prop} {v0_ : Value} {v1_ : Value} {a' : List Int} {k' : Int} {r : Int} (h0 : VR w0 S v0_ a') (h1 : VR w0 S v1_ k') (hF : laws_heldIntS fu a' k' = some r) :
    Calls Tryz.prog 27 [v0_, v1_].toArray w0 fun e w' => ∃ v, e = .returned v ∧ (Below w0.heap.size w0 w' ∧ VR w' (St ⟨w0, []⟩ S [] [] [] true) v r) := by
 obtain ⟨A, c, rfl, hl⟩ := VR_list h0
 obtain rfl := VR_int h1
 have H := Mem.start ⟨w0, []⟩ S
 have H := H.pushArg (MP.val [(.slice A a'.length c)] a') hl
 refine enter Tryz.func27 rfl rfl (nle rfl) rfl fun a hf => ?_
 rw [laws_heldIntS] at hF
 refine sq (reg (pr 1 hf rfl rfl fun a hf => ?_))
 refine wl_end (then_n (sq (sq (reg (pr 1 hf rfl rfl fun a hf => ?_)))))
 refine wl_end (then_n ?_)
 obtain ⟨out', hB1, hF⟩ := bind_some hF
 have hf := hf.prune [0, 1, 5] rfl
 have H := H.let [] [] [] [0] rfl rfl rfl rfl
 refine loopC (fun (s : Int × Int) (a : Act) (w : World) => match s with | (k2, i) => Fr a 21 [(0, (.slice A a'.length c)), (1, (.int .i64 k2)), (5, (.int .i64 i))] ∧ Mem ⟨w0, []⟩ S [] [] [] [(false, MP.val [(.slice A a'.length c)] (a' : List Int))] w) (fun k (s : Int × Int) => laws_heldIntS_L1 fu a' k s.1 s.2 = some out') (fun s => out' = Out.next s) (k', 0) fu hB1 ⟨hf, H⟩ (fun s h => by cases h) ?_ ?_
 ·rintro fk ⟨k2, i⟩ a w hR1 hI
  replace hR1 : laws_heldIntS_L1 fu a' (fk + 1) k2 i = some out' := hR1
  rw [laws_heldIntS_L1] at hR1
  obtain ⟨hf, H⟩ := hI
  refine sq (sq (reg (pr 4 hf rfl rfl fun a hf => ?_)))
  refine wl_end (then_n (iteB hR1 (fun hc hR1 => cd_t hf rfl hc ?_) fun hc hR1 => cd_f hf rfl hc ?_))
  ·refine wp_skip (then_n (sq (wp_block (sq (sq (reg (pr 2 hf rfl rfl fun a hf => ?_)))))))
   obtain ⟨e, he, hR1⟩ := bind_some hR1
   refine wl0 rfl (op_iaddr hf H Tryz.underlying44 TF.sz3 0 rfl rfl rfl he (by decide) fun p o cs a hf hr H => ?_)
   obtain rfl := hr
   refine wl0 rfl (op_q hf (rq_loadI hf H TF.ls3 0 0 rfl rfl rfl) rfl (by decide) fun a hf => ?_)
   refine pr 2 hf rfl rfl fun a hf => ?_
   refine wl_end (then_n (iteB hR1 (fun hc2 hR1 => cd_t hf rfl hc2 ?_) fun hc2 hR1 => cd_f hf rfl hc2 ?_))
   ·refine sq (reg (pr 1 hf rfl rfl fun a hf => ?_))
    have hf := hf.prune [4] rfl
    refine wl_end (then_n (wp_ret (then_r (blk_r (then_r (then_r (blk_r (then_r (then_r (?_))))))))))
    obtain rfl := Option.some.inj hR1
    replace hF := on_ret hF
    obtain rfl := Option.some.inj hF
    refine ret_1 (fn := Tryz.f27) (r := .tmp 4) hf rfl (rv_tmp hf rfl) ?_
    exact ⟨_, rfl, H.bel, mk_int⟩
   ·refine wp_skip (then_n (reg (pr 3 hf rfl rfl fun a hf => ?_)))
    refine wl_end (blk_n (then_n (reg (pr 3 hf rfl rfl fun a hf => ?_))))
    have hf := hf.prune [0, 1, 5] rfl
    refine wl_end ?_
    have hf := hf.prune [0, 1, 5] rfl
    have H := H.let [] [] [] [1] rfl rfl rfl rfl
    exact then_n ⟨(w64 (k2 + 1), w64 (i + 1)), hR1, hf, H⟩
  ·refine wp_exit (then_x (then_x (blk_e (?_))))
   have hf := hf.prune [0, 1, 5] rfl
   have H := H.let [] [] [] [0] rfl rfl rfl rfl
   exact ⟨(k2, i), (Option.some.inj hR1).symm, hf, H⟩
 rintro a w ⟨⟨k3, i2⟩, rfl, hf, H⟩
 replace hF := on_next hF
 dsimp only at hF
 refine then_n (sq (reg (pr 2 hf rfl rfl fun a hf => ?_)))
 refine wl_end (then_n (wp_ret (?_)))
 obtain rfl := Option.some.inj hF
 refine ret_1 (fn := Tryz.f27) (r := .tmp 4) hf rfl (rv_tmp hf rfl) ?_
 exact ⟨_, rfl, H.bel, mk_int⟩

/- loop.example/g00897/laws.FnExactFragmentationOf -/
set_option maxHeartbeats 1000000 in
theorem laws_FnExactFragmentationOf_ok {fu : Nat} {w0 : World} {S : Nat → Prop} {v0_ : Value} {aP : Plan} {r : Bool} (h0 : VR w0 S v0_ aP) (hF : laws_FnExactFragmentationOf fu aP = some r) :
    Calls Tryz.prog 5 [v0_].toArray w0 fun e w' => ∃ v, e = .returned v ∧ (Below w0.heap.size w0 w' ∧ VR w' (St ⟨w0, []⟩ S [] [] [] true) v r) := by
 obtain ⟨A, c, A2, c2, A3, c3, rfl, hl, hl2, hl3⟩ := Plan_open h0
 have H := Mem.start ⟨w0, []⟩ S
 have H := H.pushArg (MP.val [(.slice A aP.Network.Nodes.length c)] aP.Network.Nodes) hl
 have H := H.pushArg (MP.val [(.slice A2 aP.Network.Fibers.length c2)] aP.Network.Fibers) hl2
 have H := H.pushArg (MP.val [(.slice A3 aP.Lights.length c3)] aP.Lights) hl3
 refine enter Tryz.func5 rfl rfl (nle rfl) rfl fun a hf => ?_
 rw [laws_FnExactFragmentationOf] at hF
 refine sq (reg (wl0 rfl (op_box hf H rfl rfl (by decide) fun b' a w hf H => ?_)))
 refine pr 1 hf rfl rfl fun a hf => ?_
 refine wl_end (then_n (sq (reg (pr 1 hf rfl rfl fun a hf => ?_))))
 refine wl_end (then_n (sq (reg (wl0 rfl (op_q hf (rq_loadBN hf H TF.la28 0 rfl rfl rfl rfl) rfl (by decide) fun a hf => ?_)))))
 refine pr 1 hf rfl rfl fun a hf => ?_
 obtain ⟨y, hy, hF⟩ := bind_some hF
 refine wl0 rfl (op_call hf TF.cl15 rfl (by decide) (laws_szPlan_ok (S := fun _ => True) (Plan_mkv (x := aP) (rep_true (α := List ByteArray) (H.get 2 rfl)) (rep_true (α := List Fiber) (H.get 1 rfl)) (rep_true (α := List Light) (H.get 0 rfl))) mk_int hy) fun v w a hp hf => ?_)
 obtain ⟨hb, hp⟩ := hp
 obtain rfl := VR_int hp
 have H := H.keep hb
 refine pr 1 hf rfl rfl fun a hf => ?_
 refine wl_end (then_n (sq (sq (reg (pr 2 hf rfl rfl fun a hf => ?_)))))
 refine wl_end (then_n (iteB hF (fun hc hF => cd_t hf rfl hc ?_) fun hc hF => cd_f hf rfl hc ?_))
 ·refine sq (reg (pr 1 hf rfl rfl fun a hf => ?_))
  refine wl_end (then_n (wp_ret (then_r (?_))))
  obtain rfl := Option.some.inj hF
  refine ret_1 (fn := Tryz.f5) (r := .tmp 2) hf rfl (rv_tmp hf rfl) ?_
  exact ⟨_, rfl, H.bel, mk_bool⟩
 ·refine wp_skip (then_n (sq (reg (wl0 rfl (op_q hf (rq_loadBN hf H TF.la28 0 rfl rfl rfl rfl) rfl (by decide) fun a hf => ?_)))))
  obtain ⟨y2, hy2, hF⟩ := bind_some hF
  refine wl0 rfl (op_call hf TF.cl17 rfl (by decide) (laws_toPlan_ok (S := fun _ => True) (Plan_mkv (x := aP) (rep_true (α := List ByteArray) (H.get 2 rfl)) (rep_true (α := List Fiber) (H.get 1 rfl)) (rep_true (α := List Light) (H.get 0 rfl))) hy2) fun v2 w a hp2 hf => ?_)
  obtain ⟨hb2, F, hp3, hN⟩ := hp2
  obtain ⟨A4, c4, F2, A5, c5, F3, A6, c6, F4, rfl, rfl, hl4, hl5, hl6⟩ := Plan_vo hp3
  have H := H.addOwn hb2 (X := [(⟨F2, MP.own F2 [(.slice A4 y2.Network.Nodes.length c4)] (y2.Network.Nodes : List ByteArray)⟩ : DI), (⟨F3, MP.own F3 [(.slice A5 y2.Network.Fibers.length c5)] (y2.Network.Fibers : List Fiber)⟩ : DI), (⟨F4, MP.own F4 [(.slice A6 y2.Lights.length c6)] (y2.Lights : List Light)⟩ : DI)]) (by simpa using hN.1) (ps1 hl4 (ps1 hl5 (ps1 hl6 ps0))) (by simpa using hN.2)
  have H := H.lend 0 rfl
  have H := H.lend 1 rfl
  have H := H.lend 2 rfl
  obtain ⟨y3, hy3, hF⟩ := bind_some hF
  refine wl0 rfl (op_call hf TF.cl22 rfl (by decide) (spec_FragmentationOf_ok (S := fun _ => True) (Plan_mkv (x := y2) (rep_true (α := List ByteArray) (H.get 2 rfl)) (rep_true (α := List Fiber) (H.get 1 rfl)) (rep_true (α := List Light) (H.get 0 rfl))) hy3) fun v3 w a hp4 hf => ?_)
  obtain ⟨hb3, F5, v4, v5, v6, rfl, hp5, hp6, hp7, hN2⟩ := hp4
  obtain ⟨A7, c7, rfl, hl7⟩ := VO_list hp5
  obtain rfl := VR_int hp6
  obtain rfl := VR_bool hp7
  have H := H.addOwn hb3 (X := [(⟨F5, MP.own F5 [(.slice A7 y3.1.length c7)] (y3.1 : List Int)⟩ : DI)]) (by simpa using hN2.1) (ps1 hl7 ps0) (by simpa using hN2.2)
  have H := H.lend 0 rfl
  refine pr 7 hf rfl rfl fun a hf => ?_
  have hf := hf.prune [1, 4, 5, 6] rfl
  refine wl_end (then_n (sq (reg (wl0 rfl (op_q hf (rq_loadBN hf H TF.la28 0 rfl rfl rfl rfl) rfl (by decide) fun a hf => ?_)))))
  obtain ⟨y4, hy4, hF⟩ := bind_some hF
  refine wl0 rfl (op_call hf TF.cl17 rfl (by decide) (laws_toPlan_ok (S := fun _ => True) (Plan_mkv (x := aP) (rep_true (α := List ByteArray) (H.get 6 rfl)) (rep_true (α := List Fiber) (H.get 5 rfl)) (rep_true (α := List Light) (H.get 4 rfl))) hy4) fun v7 w a hp8 hf => ?_)
  obtain ⟨hb4, F7, hp9, hN3⟩ := hp8
  obtain ⟨A8, c8, F8, A9, c9, F9, A10, c10, F10, rfl, rfl, hl8, hl9, hl10⟩ := Plan_vo hp9
  have H := H.addOwn hb4 (X := [(⟨F8, MP.own F8 [(.slice A8 y4.Network.Nodes.length c8)] (y4.Network.Nodes : List ByteArray)⟩ : DI), (⟨F9, MP.own F9 [(.slice A9 y4.Network.Fibers.length c9)] (y4.Network.Fibers : List Fiber)⟩ : DI), (⟨F10, MP.own F10 [(.slice A10 y4.Lights.length c10)] (y4.Lights : List Light)⟩ : DI)]) (by simpa using hN3.1) (ps1 hl8 (ps1 hl9 (ps1 hl10 ps0))) (by simpa using hN3.2)
  have H := H.lend 0 rfl
  have H := H.lend 1 rfl
  have H := H.lend 2 rfl
  refine wl0 rfl (op_alloc hf H TF.zv37 rfl (by decide) fun b2 a w hf H => ?_)
  refine wl0 rfl (op_storeB hf H 0 TF.sz37 rfl rfl rfl rfl rfl rfl (nle rfl) fun w H => ?_)
  refine wl_end (then_n (sq (reg (wl0 rfl (op_q hf (rq_loadBN hf H TF.la37 0 rfl rfl rfl rfl) rfl (by decide) fun a hf => ?_)))))
  obtain ⟨y5, hy5, hF⟩ := bind_some hF
  refine wl0 rfl (op_call hf TF.cl23 rfl (by decide) (impl_FragmentationOf_ok (S := fun _ => True) (Plan_mkv (x := y4) (rep_true (α := List ByteArray) (H.get 2 rfl)) (rep_true (α := List Fiber) (H.get 1 rfl)) (rep_true (α := List Light) (H.get 0 rfl))) hy5) fun v8 w a hp10 hf => ?_)
  obtain ⟨hb5, F11, v9, v10, v11, rfl, hp11, hp12, hp13, hN4⟩ := hp10
  obtain ⟨A11, c11, rfl, hl11⟩ := VO_list hp11
  obtain rfl := VR_int hp12
  obtain rfl := VR_bool hp13
  have H := H.addOwn hb5 (X := [(⟨F11, MP.own F11 [(.slice A11 y5.1.length c11)] (y5.1 : List Int)⟩ : DI)]) (by simpa using hN4.1) (ps1 hl11 ps0) (by simpa using hN4.2)
  have H := H.lend 0 rfl
  refine pr 7 hf rfl rfl fun a hf => ?_
  refine wl_end (then_n (sq (sq ?_)))
  obtain ⟨c12, hGc12, hF⟩ := bind_some hF
  have fh := hf.prune [1, 4, 5, 6, 7, 8, 9, 10] rfl
  have Hm := H.let [true, true] [] [true, true, true, true, true, false, false, false] [0, 1, 2, 3, 4, 8, 9, 10] rfl rfl rfl rfl
  refine midF 50 (.bool c12) fh Hm ?_ fun a w hf H => ?_
  ·refine reg (pr 2 hf rfl rfl fun a hf => ?_)
   obtain ⟨y6, hy6, hGc12⟩ := bind_some hGc12
   refine wl0 rfl (op_call hf TF.cl24 rfl (by decide) (laws_eqIntS_ok (S := fun _ => True) (mk_list (rep_true (α := List Int) (H.get 0 rfl))) (mk_list (rep_true (α := List Int) (H.get 4 rfl))) hy6) fun v12 w a hp14 hf => ?_)
   obtain ⟨hb6, hp14⟩ := hp14
   obtain rfl := VR_bool hp14
   have H := H.keep hb6
   refine pr 2 hf rfl rfl fun a hf => ?_
   refine iteB hGc12 (fun hc2 hGc12 => ?_) fun hc2 hGc12 => ?_
   ·have hf := hf.lit 41 rfl hc2
    refine pr 9 hf rfl rfl fun a hf => ?_
    obtain rfl := Option.some.inj hGc12
    have hf := hf.prune [50, 1, 4, 5, 6, 7, 8, 9, 10] rfl
    have H := H.let [true, true] [] [true, true, true, true, true, false, false, false] [0, 1, 2, 3, 4, 8, 9, 10] rfl rfl rfl rfl
    exact wl_end ⟨hf, H⟩
   ·have hf := hf.lit 41 rfl hc2
    refine pr 5 hf rfl rfl fun a hf => ?_
    refine iteB hGc12 (fun hc3 hGc12 => ?_) fun hc3 hGc12 => ?_
    ·have hf := hf.lit 46 rfl hc3
     refine pr 4 hf rfl rfl fun a hf => ?_
     obtain rfl := Option.some.inj hGc12
     have hf := hf.prune [50, 1, 4, 5, 6, 7, 8, 9, 10] rfl
     have H := H.let [true, true] [] [true, true, true, true, true, false, false, false] [0, 1, 2, 3, 4, 8, 9, 10] rfl rfl rfl rfl
     exact wl_end ⟨hf, H⟩
    ·have hf := hf.lit 46 rfl hc3
     refine pr 4 hf rfl rfl fun a hf => ?_
     obtain rfl := Option.some.inj hGc12
     have hf := hf.prune [50, 1, 4, 5, 6, 7, 8, 9, 10] rfl
     have H := H.let [true, true] [] [true, true, true, true, true, false, false, false] [0, 1, 2, 3, 4, 8, 9, 10] rfl rfl rfl rfl
     exact wl_end ⟨hf, H⟩
  refine then_n (iteB hF (fun hc4 hF => cd_t hf rfl hc4 ?_) fun hc4 hF => cd_f hf rfl hc4 ?_)
  ·refine sq (reg (pr 1 hf rfl rfl fun a hf => ?_))
   refine wl_end (then_n (wp_ret (then_r (?_))))
   obtain rfl := Option.some.inj hF
   refine ret_1 (fn := Tryz.f5) (r := .tmp 2) hf rfl (rv_tmp hf rfl) ?_
   exact ⟨_, rfl, H.bel, mk_bool⟩
  ·refine wp_skip (then_n (sq (sq (drawn [] (bs := [false, false, false, false, false]) (fuel := 5) (Checked.mixed Tryz.checked) rfl rfl fun w hb => ?_))))
   have H := H.keep hb
   refine strT (H.let [true, false] [] [false, false, false, false, false] [] rfl rfl rfl rfl) (fun w H => trivial) fun hS => ?_
   refine tS 0 [] rfl rfl rfl rfl hf (by kernel_rfl) (by kernel_rfl) hS (fun w H => rq_loadBN hf H TF.la37 0 rfl rfl rfl rfl) fun a hf => ?_
   refine strT (H.let [true, true] [] [false, false, false, false, false] [] rfl rfl rfl rfl) (fun w H => H.let [true, false] [] [] [] rfl rfl rfl rfl) fun hS => ?_
   refine tS 1 [] rfl rfl rfl rfl hf (by kernel_rfl) (by kernel_rfl) hS (fun w H => rq_loadBN hf H TF.la28 1 rfl rfl rfl rfl) fun a hf => ?_
   obtain ⟨y7, hy7, hF⟩ := bind_some hF
   refine n1 2 (by kernel_rfl) rfl rfl (op_call hf TF.cl17 rfl (by decide) (laws_toPlan_ok (S := fun _ => True) (Plan_mkv (x := aP) (rep_true (α := List ByteArray) (H.get 7 rfl)) (rep_true (α := List Fiber) (H.get 6 rfl)) (rep_true (α := List Light) (H.get 5 rfl))) hy7) fun v13 w a hp15 hf => ?_)
   obtain ⟨hb7, F13, hp16, hN5⟩ := hp15
   obtain ⟨A12, c13, F14, A13, c14, F15, A14, c15, F16, rfl, rfl, hl12, hl13, hl14⟩ := Plan_vo hp16
   have H := H.addOwn hb7 (X := [(⟨F14, MP.own F14 [(.slice A12 y7.Network.Nodes.length c13)] (y7.Network.Nodes : List ByteArray)⟩ : DI), (⟨F15, MP.own F15 [(.slice A13 y7.Network.Fibers.length c14)] (y7.Network.Fibers : List Fiber)⟩ : DI), (⟨F16, MP.own F16 [(.slice A14 y7.Lights.length c15)] (y7.Lights : List Light)⟩ : DI)]) (by simpa using hN5.1) (ps1 hl12 (ps1 hl13 (ps1 hl14 ps0))) (by simpa using hN5.2)
   have H := H.lend 0 rfl
   have H := H.lend 1 rfl
   have H := H.lend 2 rfl
   have hS := H.let [true, true] [] [false, false, false, false, false, false, false, false] [] rfl rfl rfl rfl
   refine ⟨fun _ => hS, ?_⟩
   obtain ⟨y8, hy8, hF⟩ := bind_some hF
   refine n1 3 (by kernel_rfl) rfl rfl (op_call hf TF.cl19 rfl (by decide) (laws_eqPlan_ok (S := fun _ => True) (Plan_mkv (x := y4) (rep_true (α := List ByteArray) (H.get 6 rfl)) (rep_true (α := List Fiber) (H.get 5 rfl)) (rep_true (α := List Light) (H.get 4 rfl))) (Plan_mkv (x := y7) (rep_true (α := List ByteArray) (H.get 2 rfl)) (rep_true (α := List Fiber) (H.get 1 rfl)) (rep_true (α := List Light) (H.get 0 rfl))) hy8) fun v14 w a hp17 hf => ?_)
   obtain ⟨hb8, hp17⟩ := hp17
   obtain rfl := VR_bool hp17
   have H := H.keep hb8
   have hS := H.let [true, true] [] [false, false, false, false, false, false, false, false] [] rfl rfl rfl rfl
   refine ⟨fun _ => hS, ?_⟩
   refine tp 4 rfl rfl hf (by kernel_rfl) (fun _ => hS) rfl fun a hf => ?_
   refine dn (by kernel_rfl) ?_
   refine then_n (iteB hF (fun hc5 hF => cd_t hf rfl hc5 ?_) fun hc5 hF => cd_f hf rfl hc5 ?_)
   ·refine sq (reg (pr 1 hf rfl rfl fun a hf => ?_))
    have hf := hf.prune [2] rfl
    refine wl_end (then_n (wp_ret (then_r (?_))))
    obtain rfl := Option.some.inj hF
    refine ret_1 (fn := Tryz.f5) (r := .tmp 2) hf rfl (rv_tmp hf rfl) ?_
    exact ⟨_, rfl, H.bel, mk_bool⟩
   ·refine wp_skip (then_n (sq (reg (pr 1 hf rfl rfl fun a hf => ?_))))
    refine wl_end (then_n (sq (reg (wl0 rfl (op_q hf (rq_loadBN hf H TF.la37 0 rfl rfl rfl rfl) rfl (by decide) fun a hf => ?_)))))
    refine pr 1 hf rfl rfl fun a hf => ?_
    have H := H.frontD 6 rfl
    have H := H.frontD 6 rfl
    have H := H.frontD 6 rfl
    have H := H.recast (X := [(⟨F8, MP.own F8 [(.slice A8 y4.Network.Nodes.length c8)] (y4.Network.Nodes : List ByteArray)⟩ : DI), (⟨F9, MP.own F9 [(.slice A9 y4.Network.Fibers.length c9)] (y4.Network.Fibers : List Fiber)⟩ : DI), (⟨F10, MP.own F10 [(.slice A10 y4.Lights.length c10)] (y4.Lights : List Light)⟩ : DI)]) (Y := [(⟨(F8 ++ (F9 ++ F10)), MP.own (F8 ++ (F9 ++ F10)) [(.slice A8 y4.Network.Nodes.length c8), (.slice A9 y4.Network.Fibers.length c9), (.slice A10 y4.Lights.length c10)] (y4 : Plan)⟩ : DI)]) (List.Perm.of_eq (by simp)) fun _ => ps1 (Plan_ownmk (x := y4) (H.ownAt 0 rfl) (H.ownAt 1 rfl) (H.ownAt 2 rfl)) ps0
    obtain ⟨y9, hy9, hF⟩ := bind_some hF
    refine wl0 rfl (op_call hf TF.cl25 rfl (by decide) (laws_markPlan_ok (S := fun _ => True) (F := (F8 ++ (F9 ++ F10))) (cs := [(.slice A8 y4.Network.Nodes.length c8), (.slice A9 y4.Network.Fibers.length c9), (.slice A10 y4.Lights.length c10)]) (H.ownAt 0 rfl) H.diNd.1 mk_int hy9) fun v15 w a hp18 hf => ?_)
    obtain ⟨hch, hv, F17, ho, hbk⟩ := hp18
    obtain rfl := VR_int hv
    have H := H.wrote rfl hch ho hbk
    obtain ⟨F18, F19, F20, hFe, hl15, hl16, hl17⟩ := Plan_ownc (H.ownAt 0 rfl)
    have H := H.recast (X := [(⟨F17, MP.own F17 [(.slice A8 y4.Network.Nodes.length c8), (.slice A9 y4.Network.Fibers.length c9), (.slice A10 y4.Lights.length c10)] (y9.2 : Plan)⟩ : DI)]) (Y := [(⟨F18, MP.own F18 [(.slice A8 y4.Network.Nodes.length c8)] (y9.2.Network.Nodes : List ByteArray)⟩ : DI), (⟨F19, MP.own F19 [(.slice A9 y4.Network.Fibers.length c9)] (y9.2.Network.Fibers : List Fiber)⟩ : DI), (⟨F20, MP.own F20 [(.slice A10 y4.Lights.length c10)] (y9.2.Lights : List Light)⟩ : DI)]) (List.Perm.of_eq (by simp [hFe])) fun _ => (ps1 hl15 (ps1 hl16 (ps1 hl17 ps0)))
    have H := H.arg (p := MP.val [(.slice A aP.Network.Nodes.length c)] aP.Network.Nodes) hl
    have H := H.arg (p := MP.val [(.slice A2 aP.Network.Fibers.length c2)] aP.Network.Fibers) hl2
    have H := H.arg (p := MP.val [(.slice A3 aP.Lights.length c3)] aP.Lights) hl3
    have H := H.lend 0 rfl
    have H := H.lend 1 rfl
    have H := H.lend 2 rfl
    have H := H.lend 3 rfl
    have H := H.lend 4 rfl
    have H := H.lend 5 rfl
    have H := H.lend 6 rfl
    have H := H.lend 7 rfl
    refine pr 1 hf rfl rfl fun a hf => ?_
    refine wl_end (then_n (sq (sq ?_)))
    obtain ⟨c16, hGc16, hF⟩ := bind_some hF
    have fh2 := hf.prune [1, 4, 5, 6, 8] rfl
    have Hm2 := H.let [false, true] [] [false, false, false, false, false, false, true, true] [0, 1, 8, 9, 10] rfl rfl rfl rfl
    refine midF 76 (.bool c16) fh2 Hm2 ?_ fun a w hf H => ?_
    ·refine reg (pr 3 hf rfl rfl fun a hf => ?_)
     refine iteB hGc16 (fun hc6 hGc16 => ?_) fun hc6 hGc16 => ?_
     ·have hf := hf.lit 61 rfl hc6
      refine pr 15 hf rfl rfl fun a hf => ?_
      obtain rfl := Option.some.inj hGc16
      have hf := hf.prune [76, 1, 4, 5, 6, 8] rfl
      have H := H.let [false, true] [] [false, false, false, false, false, false, true, true] [0, 1, 8, 9, 10] rfl rfl rfl rfl
      exact wl_end ⟨hf, H⟩
     ·have hf := hf.lit 61 rfl hc6
      refine pr 2 hf rfl rfl fun a hf => ?_
      obtain ⟨y10, hy10, hGc16⟩ := bind_some hGc16
      refine wlg hf rfl rfl rfl (op_call hf TF.cl24 rfl (by decide) (laws_eqIntS_ok (S := fun _ => True) (mk_list (rep_true (α := List Int) (H.get 1 rfl))) (mk_list (rep_true (α := List Int) (H.get 0 rfl))) hy10) fun v16 w a hp19 hf => ?_)
      obtain ⟨hb9, hp19⟩ := hp19
      obtain rfl := VR_bool hp19
      have H := H.keep hb9
      refine pr 3 hf rfl rfl fun a hf => ?_
      refine iteB hGc16 (fun hc7 hGc16 => ?_) fun hc7 hGc16 => ?_
      ·have hf := hf.lit 67 rfl hc7
       refine pr 9 hf rfl rfl fun a hf => ?_
       obtain rfl := Option.some.inj hGc16
       have hf := hf.prune [76, 1, 4, 5, 6, 8] rfl
       have H := H.let [false, true] [] [false, false, false, false, false, false, true, true] [0, 1, 8, 9, 10] rfl rfl rfl rfl
       exact wl_end ⟨hf, H⟩
      ·have hf := hf.lit 67 rfl hc7
       refine pr 5 hf rfl rfl fun a hf => ?_
       refine iteB hGc16 (fun hc8 hGc16 => ?_) fun hc8 hGc16 => ?_
       ·have hf := hf.lit 72 rfl hc8
        refine pr 4 hf rfl rfl fun a hf => ?_
        obtain rfl := Option.some.inj hGc16
        have hf := hf.prune [76, 1, 4, 5, 6, 8] rfl
        have H := H.let [false, true] [] [false, false, false, false, false, false, true, true] [0, 1, 8, 9, 10] rfl rfl rfl rfl
        exact wl_end ⟨hf, H⟩
       ·have hf := hf.lit 72 rfl hc8
        refine pr 4 hf rfl rfl fun a hf => ?_
        obtain rfl := Option.some.inj hGc16
        have hf := hf.prune [76, 1, 4, 5, 6, 8] rfl
        have H := H.let [false, true] [] [false, false, false, false, false, false, true, true] [0, 1, 8, 9, 10] rfl rfl rfl rfl
        exact wl_end ⟨hf, H⟩
    refine then_n (iteB hF (fun hc9 hF => cd_t hf rfl hc9 ?_) fun hc9 hF => cd_f hf rfl hc9 ?_)
    ·refine sq (reg (pr 1 hf rfl rfl fun a hf => ?_))
     refine wl_end (then_n (wp_ret (then_r (?_))))
     obtain rfl := Option.some.inj hF
     refine ret_1 (fn := Tryz.f5) (r := .tmp 2) hf rfl (rv_tmp hf rfl) ?_
     exact ⟨_, rfl, H.bel, mk_bool⟩
    ·refine wp_skip (then_n (sq (reg (pr 1 hf rfl rfl fun a hf => ?_))))
     refine wl_end (then_n (sq (reg (pr 2 hf rfl rfl fun a hf => ?_))))
     obtain ⟨y11, hy11, hF⟩ := bind_some hF
     refine wl0 rfl (op_call hf TF.cl26 rfl (by decide) (laws_markIntS_ok (S := fun _ => True) (F := F11) (cs := [(.slice A11 y5.1.length c11)]) (H.ownAt 0 rfl) H.diNd.1 mk_int hy11) fun v17 w a hp20 hf => ?_)
     obtain ⟨hch2, hv2, F21, ho2, hbk2⟩ := hp20
     obtain rfl := VR_int hv2
     have H := H.wrote rfl hch2 ho2 hbk2
     have H := H.arg (p := MP.val [(.slice A aP.Network.Nodes.length c)] aP.Network.Nodes) hl
     have H := H.arg (p := MP.val [(.slice A2 aP.Network.Fibers.length c2)] aP.Network.Fibers) hl2
     have H := H.arg (p := MP.val [(.slice A3 aP.Lights.length c3)] aP.Lights) hl3
     have H := H.lend 0 rfl
     have H := H.lend 1 rfl
     refine pr 1 hf rfl rfl fun a hf => ?_
     refine wl_end (then_n (sq (reg (pr 1 hf rfl rfl fun a hf => ?_))))
     refine wl_end (then_n (sq (reg (pr 2 hf rfl rfl fun a hf => ?_))))
     obtain ⟨y12, hy12, hF⟩ := bind_some hF
     refine wl0 rfl (op_call hf TF.cl27 rfl (by decide) (laws_heldIntS_ok (S := fun _ => True) (mk_list (rep_true (α := List Int) (H.get 1 rfl))) mk_int hy12) fun v18 w a hp21 hf => ?_)
     obtain ⟨hb10, hp21⟩ := hp21
     obtain rfl := VR_int hp21
     have H := H.keep hb10
     refine pr 1 hf rfl rfl fun a hf => ?_
     refine wl_end (then_n (sq (sq (reg (pr 2 hf rfl rfl fun a hf => ?_)))))
     refine wl_end (then_n (iteB hF (fun hc10 hF => cd_t hf rfl hc10 ?_) fun hc10 hF => cd_f hf rfl hc10 ?_))
     ·refine sq (reg (pr 1 hf rfl rfl fun a hf => ?_))
      have hf := hf.prune [2] rfl
      refine wl_end (then_n (wp_ret (then_r (?_))))
      obtain rfl := Option.some.inj hF
      refine ret_1 (fn := Tryz.f5) (r := .tmp 2) hf rfl (rv_tmp hf rfl) ?_
      exact ⟨_, rfl, H.bel, mk_bool⟩
     ·refine wp_skip (then_n (sq (sq (reg (pr 3 hf rfl rfl fun a hf => ?_)))))
      refine wl_end (then_n (iteB hF (fun hc11 hF => cd_t hf rfl hc11 ?_) fun hc11 hF => cd_f hf rfl hc11 ?_))
      ·refine sq (reg (pr 1 hf rfl rfl fun a hf => ?_))
       have hf := hf.prune [2] rfl
       refine wl_end (then_n (wp_ret (then_r (?_))))
       obtain rfl := Option.some.inj hF
       refine ret_1 (fn := Tryz.f5) (r := .tmp 2) hf rfl (rv_tmp hf rfl) ?_
       exact ⟨_, rfl, H.bel, mk_bool⟩
      ·refine wp_skip (then_n (sq (reg (wl0 rfl (op_q hf (rq_loadBN hf H TF.la28 0 rfl rfl rfl rfl) rfl (by decide) fun a hf => ?_)))))
       obtain ⟨y13, hy13, hF⟩ := bind_some hF
       refine wl0 rfl (op_call hf TF.cl17 rfl (by decide) (laws_toPlan_ok (S := fun _ => True) (Plan_mkv (x := aP) (rep_true (α := List ByteArray) (H.get 4 rfl)) (rep_true (α := List Fiber) (H.get 3 rfl)) (rep_true (α := List Light) (H.get 2 rfl))) hy13) fun v19 w a hp22 hf => ?_)
       obtain ⟨hb11, F22, hp23, hN6⟩ := hp22
       obtain ⟨A15, c17, F23, A16, c18, F24, A17, c19, F25, rfl, rfl, hl18, hl19, hl20⟩ := Plan_vo hp23
       have H := H.addOwn hb11 (X := [(⟨F23, MP.own F23 [(.slice A15 y13.Network.Nodes.length c17)] (y13.Network.Nodes : List ByteArray)⟩ : DI), (⟨F24, MP.own F24 [(.slice A16 y13.Network.Fibers.length c18)] (y13.Network.Fibers : List Fiber)⟩ : DI), (⟨F25, MP.own F25 [(.slice A17 y13.Lights.length c19)] (y13.Lights : List Light)⟩ : DI)]) (by simpa using hN6.1) (ps1 hl18 (ps1 hl19 (ps1 hl20 ps0))) (by simpa using hN6.2)
       have H := H.lend 0 rfl
       have H := H.lend 1 rfl
       have H := H.lend 2 rfl
       obtain ⟨y14, hy14, hF⟩ := bind_some hF
       refine wl0 rfl (op_call hf TF.cl23 rfl (by decide) (impl_FragmentationOf_ok (S := fun _ => True) (Plan_mkv (x := y13) (rep_true (α := List ByteArray) (H.get 2 rfl)) (rep_true (α := List Fiber) (H.get 1 rfl)) (rep_true (α := List Light) (H.get 0 rfl))) hy14) fun v20 w a hp24 hf => ?_)
       obtain ⟨hb12, F26, v21, v22, v23, rfl, hp25, hp26, hp27, hN7⟩ := hp24
       obtain ⟨A18, c20, rfl, hl21⟩ := VO_list hp25
       obtain rfl := VR_int hp26
       obtain rfl := VR_bool hp27
       have H := H.addOwn hb12 (X := [(⟨F26, MP.own F26 [(.slice A18 y14.1.length c20)] (y14.1 : List Int)⟩ : DI)]) (by simpa using hN7.1) (ps1 hl21 ps0) (by simpa using hN7.2)
       have H := H.lend 0 rfl
       refine pr 7 hf rfl rfl fun a hf => ?_
       have hf := hf.prune [4, 5, 6, 8, 12, 14, 15, 16] rfl
       refine wl_end (then_n (sq (sq ?_)))
       obtain ⟨c21, hGc21, hF⟩ := bind_some hF
       have fh3 := hf.prune [8, 12] rfl
       have Hm3 := H.let [false] [] [false, false, false, false, true, false] [5] rfl rfl rfl rfl
       refine midF 108 (.bool c21) fh3 Hm3 ?_ fun a w hf H => ?_
       ·refine reg (pr 2 hf rfl rfl fun a hf => ?_)
        obtain ⟨y15, hy15, hGc21⟩ := bind_some hGc21
        refine wl0 rfl (op_call hf TF.cl24 rfl (by decide) (laws_eqIntS_ok (S := fun _ => True) (mk_list (rep_true (α := List Int) (H.get 0 rfl))) (mk_list (rep_true (α := List Int) (H.get 4 rfl))) hy15) fun v24 w a hp28 hf => ?_)
        obtain ⟨hb13, hp28⟩ := hp28
        obtain rfl := VR_bool hp28
        have H := H.keep hb13
        refine pr 2 hf rfl rfl fun a hf => ?_
        refine iteB hGc21 (fun hc12 hGc21 => ?_) fun hc12 hGc21 => ?_
        ·have hf := hf.lit 99 rfl hc12
         refine pr 9 hf rfl rfl fun a hf => ?_
         obtain rfl := Option.some.inj hGc21
         have hf := hf.prune [108, 8, 12] rfl
         have H := H.let [false] [] [false, false, false, false, true, false] [5] rfl rfl rfl rfl
         exact wl_end ⟨hf, H⟩
        ·have hf := hf.lit 99 rfl hc12
         refine pr 5 hf rfl rfl fun a hf => ?_
         refine iteB hGc21 (fun hc13 hGc21 => ?_) fun hc13 hGc21 => ?_
         ·have hf := hf.lit 104 rfl hc13
          refine pr 4 hf rfl rfl fun a hf => ?_
          obtain rfl := Option.some.inj hGc21
          have hf := hf.prune [108, 8, 12] rfl
          have H := H.let [false] [] [false, false, false, false, true, false] [5] rfl rfl rfl rfl
          exact wl_end ⟨hf, H⟩
         ·have hf := hf.lit 104 rfl hc13
          refine pr 4 hf rfl rfl fun a hf => ?_
          obtain rfl := Option.some.inj hGc21
          have hf := hf.prune [108, 8, 12] rfl
          have H := H.let [false] [] [false, false, false, false, true, false] [5] rfl rfl rfl rfl
          exact wl_end ⟨hf, H⟩
       refine then_n (iteB hF (fun hc14 hF => cd_t hf rfl hc14 ?_) fun hc14 hF => cd_f hf rfl hc14 ?_)
       ·refine sq (reg (pr 1 hf rfl rfl fun a hf => ?_))
        refine wl_end (then_n (wp_ret (then_r (?_))))
        obtain rfl := Option.some.inj hF
        refine ret_1 (fn := Tryz.f5) (r := .tmp 2) hf rfl (rv_tmp hf rfl) ?_
        exact ⟨_, rfl, H.bel, mk_bool⟩
       ·refine wp_skip (then_n (sq (reg (pr 1 hf rfl rfl fun a hf => ?_))))
        refine wl_end (then_n (sq (reg (pr 2 hf rfl rfl fun a hf => ?_))))
        obtain ⟨y16, hy16, hF⟩ := bind_some hF
        refine wl0 rfl (op_call hf TF.cl27 rfl (by decide) (laws_heldIntS_ok (S := fun _ => True) (mk_list (rep_true (α := List Int) (H.get 0 rfl))) mk_int hy16) fun v25 w a hp29 hf => ?_)
        obtain ⟨hb14, hp29⟩ := hp29
        obtain rfl := VR_int hp29
        have H := H.keep hb14
        refine pr 1 hf rfl rfl fun a hf => ?_
        refine wl_end (then_n (sq (sq (reg (pr 2 hf rfl rfl fun a hf => ?_)))))
        refine wl_end (then_n (iteB hF (fun hc15 hF => cd_t hf rfl hc15 ?_) fun hc15 hF => cd_f hf rfl hc15 ?_))
        ·refine sq (reg (pr 1 hf rfl rfl fun a hf => ?_))
         refine wl_end (then_n (wp_ret (then_r (?_))))
         obtain rfl := Option.some.inj hF
         refine ret_1 (fn := Tryz.f5) (r := .tmp 2) hf rfl (rv_tmp hf rfl) ?_
         exact ⟨_, rfl, H.bel, mk_bool⟩
        ·refine wp_skip (then_n (sq (sq (reg (pr 3 hf rfl rfl fun a hf => ?_)))))
         refine wl_end (then_n (iteB hF (fun hc16 hF => cd_t hf rfl hc16 ?_) fun hc16 hF => cd_f hf rfl hc16 ?_))
         ·refine sq (reg (pr 1 hf rfl rfl fun a hf => ?_))
          refine wl_end (then_n (wp_ret (then_r (?_))))
          obtain rfl := Option.some.inj hF
          refine ret_1 (fn := Tryz.f5) (r := .tmp 2) hf rfl (rv_tmp hf rfl) ?_
          exact ⟨_, rfl, H.bel, mk_bool⟩
         ·refine wp_skip (then_n (sq (reg (pr 1 hf rfl rfl fun a hf => ?_))))
          refine wl_end (then_n (wp_ret (?_)))
          obtain rfl := Option.some.inj hF
          refine ret_1 (fn := Tryz.f5) (r := .tmp 2) hf rfl (rv_tmp hf rfl) ?_
          exact ⟨_, rfl, H.bel, mk_bool⟩
end AT
