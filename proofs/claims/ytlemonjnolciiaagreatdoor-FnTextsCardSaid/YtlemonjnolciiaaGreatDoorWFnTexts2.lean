/- The Go functions do what is told of them, by program (gen.py). -/
import Derived.Test.YtlemonjnolciiaaGreatDoorWFnTexts1
set_option linter.unusedVariables false
set_option linter.unusedSimpArgs false
set_option maxRecDepth 100000
set_option maxHeartbeats 1000000
namespace AT
open Go Go.RowKit Go.Proofs
variable {fu : Nat} {w0 : World}
theorem impl_visited_ok {S : Nat → Prop} {v0_ : Value} {v1_ : Value} {n' : Network} {r' : Route} {r : List Int × Bool} (h0 : VR w0 S v0_ n') (h1 : VR w0 S v1_ r') (hF : impl_visited fu n' r' = some r) :
    Calls Tryz.prog 71 [v0_, v1_].toArray w0 fun e w' => ∃ v, e = .returned v ∧ (Below w0.heap.size w0 w' ∧ ∃ F0, ∃ u0 u1, v = .tuple #[u0, u1] ∧ VO w' F0 u0 r.1 ∧ VR w' (St ⟨w0, []⟩ S [] [] [] true) u1 r.2 ∧ New w0 w' F0) := by
 obtain ⟨A, c, A2, c2, rfl, hl, hl2⟩ := Network_open h0
 obtain ⟨A3, c3, rfl, hl3⟩ := Route_open h1
 have H := Mem.start ⟨w0, []⟩ S
 have H := H.pA hl
 have H := H.pA hl2
 have H := H.pA hl3
 refine en Tryz.func71 fun a hf => ?_
 rw [impl_visited] at hF
 refine bx hf H fun b' a w hf H => ?_
 refine wl0 rfl (op_box hf H rfl rfl (by decide) fun b2 a w hf H => ?_)
 refine pz 2 hf fun a hf => ?_
 refine wl_end (then_n (sq (sq ?_)))
 obtain ⟨c4, hGc4, hF⟩ := bs_ hF
 have fh := hf.prune [2, 3] rfl
 have Hm := H.lm 3 0 0 3 7
 refine midF 23 (.bool c4) fh Hm ?_ fun a w hf H => ?_
 ·refine reg (pz 1 hf fun a hf => ?_)
  refine lB 0 hf H TF.ls3 fun a hf => ?_
  refine pz 1 hf fun a hf => ?_
  refine lB 1 hf H TF.ls24 fun a hf => ?_
  refine pz 2 hf fun a hf => ?_
  obtain ⟨y, hy, hGc4⟩ := bs_ hGc4
  refine oc hf TF.cl57 (impl_within_ok (S := TT) mk_int mk_int mk_int hy) fun v w a hp hf => ?_
  obtain ⟨hb, hp⟩ := hp
  obtain rfl := VR_bool hp
  have H := H.keep hb
  refine pz 2 hf fun a hf => ?_
  refine iteB hGc4 (fun hc hGc4 => ?_) fun hc hGc4 => ?_
  ·have hf := hf.lit 18 rfl hc
   refine pz 5 hf fun a hf => ?_
   obtain rfl := oi hGc4
   have hf := hf.pn [23, 2, 3]
   have H := H.lm 3 0 0 3 7
   exact wl_end ⟨hf, H⟩
  ·have hf := hf.lit 18 rfl hc
   refine pz 1 hf fun a hf => ?_
   refine wlg hf rfl rfl rfl (op_q hf (rq_loadB hf H TF.ls28 0 rfl rfl rfl) rfl (by decide) fun a hf => ?_)
   refine pz 3 hf fun a hf => ?_
   obtain rfl := oi hGc4
   have hf := hf.pn [23, 2, 3]
   have H := H.lm 3 0 0 3 7
   exact wl_end ⟨hf, H⟩
 refine then_n (ib hF hf (fun hc2 hF => ?_) fun hc2 hF => ?_)
 ·refine sqz (pz 2 hf fun a hf => ?_)
  refine wl_end (then_n (wp_ret (then_r (?_))))
  have H := H.ownNil (Int)
  have H := H.lend 0 rfl
  obtain rfl := oi hF
  refine ret_2 hf rfl (rv_tmp hf rfl) (rv_tmp hf rfl) ?_
  have hN := H.ends1
  exact ⟨_, rfl, H.bel, [], _, _, rfl, (mko_list (H.ownAt 0 rfl)), mk_bool, by first | exact hN | simpa using hN⟩
 ·refine wp_skip (then_n (sq (dw [] 7 fun w hb => ?_)))
  have H := H.keep hb
  refine zp 0 hf trivial fun a hf => ?_
  refine strT (H.lk 1 0 0 []) (fun w H => trivial) fun hS => ?_
  refine zS 1 [] rfl rfl rfl rfl hf hS (fun w H => rq_loadB hf H TF.ls3 0 rfl rfl rfl) fun a hf => ?_
  refine zp 3 hf hS fun a hf => ?_
  refine zS 4 [] rfl rfl rfl rfl hf hS (fun w H => rq_loadB hf H TF.ls3 0 rfl rfl rfl) fun a hf => ?_
  refine nn 2 rfl (bl hf H 3 ([r'.Start] : List Int) [(.int .i64 r'.Start)] (el1 (y := r'.Start) (rfl)) fun A4 a w hf H => ?_)
  have hS := H.lk 1 0 0 []
  refine aS hS ?_
  refine zp 5 hf hS fun a hf => ?_
  refine zp 6 hf hS fun a hf => ?_
  refine dk ?_
  refine then_n (sq (sqz (pz 1 hf fun a hf => ?_)))
  refine lB 0 hf H TF.ls28 fun a hf => ?_
  refine pz 2 hf fun a hf => ?_
  refine wl_end (then_n ?_)
  obtain ⟨out2, hB1, hF⟩ := bs_ hF
  have hf := hf.pn [2, 6, 7, 30, 31, 32]
  have H := H.lm 2 1 0 3 7
  refine loopC (fun (s : List Int × Int × Int) (a : Act) (w : World) => match s with | (out', at', i) => ∃ (A5 : Option Addr) (c5 : Nat) (E : Go.TypeId), Fr a 63 [(2, (.pointer (some ⟨b', 0, none⟩))), (6, (.slice A5 out'.length c5)), (7, (.int .i64 at')), (30, (.slice A3 r'.Fibers.length c3)), (31, (.int .i64 (r'.Fibers.length : Int))), (32, (.int .i64 i))] ∧ Mem ⟨w0, []⟩ S [⟨b', 27, [(.slice A n'.Nodes.length c), (.slice A2 n'.Fibers.length c2)]⟩] [⟨.sh true, E, A5, c5, (out' : List Int)⟩] [] [(false, MP.val [(.slice A3 r'.Fibers.length c3)] (r'.Fibers : List Int)), (false, MP.val [(.slice A2 n'.Fibers.length c2)] (n'.Fibers : List Fiber)), (false, MP.val [(.slice A n'.Nodes.length c)] (n'.Nodes : List ByteArray))] w) (fun k (s : List Int × Int × Int) => impl_visited_L1 fu n' r' k s.1 s.2.1 s.2.2 = some out2) (fun s => out2 = Out.next s) ([r'.Start], r'.Start, 0) fu hB1 ⟨A4, 1, 3, hf, H⟩ (fun s h => by cases h) ?_ ?_
  ·rintro fk ⟨out', at', i⟩ a w hR1 hI
   replace hR1 : impl_visited_L1 fu n' r' (fk + 1) out' at' i = some out2 := hR1
   rw [impl_visited_L1] at hR1
   obtain ⟨A5, c5, E, hf, H⟩ := hI
   refine sqz (pz 1 hf fun a hf => ?_)
   refine wl_end (then_n (sq (ib hR1 hf (fun hc3 hR1 => ?_) fun hc3 hR1 => ?_)))
   ·refine wp_skip (then_n (sq (wp_block (sq (reg ?_)))))
    obtain ⟨e, he, hR1⟩ := bs_ hR1
    refine wl0 rfl (op_iaddr hf H Tryz.underlying28 TF.sz3 0 rfl rfl rfl he (by decide) fun p o cs a hf hr H => ?_)
    obtain rfl := hr
    refine oq hf (rq_loadI hf H TF.ls3 0 0 rfl rfl rfl) fun a hf => ?_
    refine pz 1 hf fun a hf => ?_
    refine we (sqz (pz 2 hf fun a hf => ?_))
    refine lB 0 hf H TF.ls25 fun a hf => ?_
    refine pz 2 hf fun a hf => ?_
    obtain ⟨y2, hy2, hR1⟩ := bs_ hR1
    refine oc hf TF.cl57 (impl_within_ok (S := TT) mk_int mk_int mk_int hy2) fun v2 w a hp2 hf => ?_
    obtain ⟨hb2, hp2⟩ := hp2
    obtain rfl := VR_bool hp2
    have H := H.keep hb2
    refine pz 1 hf fun a hf => ?_
    refine wl_end (then_n (ib hR1 hf (fun hc4 hR1 => ?_) fun hc4 hR1 => ?_))
    ·refine sqz (pz 2 hf fun a hf => ?_)
     have hf := hf.pn [4, 5]
     refine wl_end (then_n (wp_ret (then_r (blk_r (then_r (then_r (blk_r (then_r (then_r (?_))))))))))
     have H := H.ownNil (Int)
     have H := H.lend 0 rfl
     obtain rfl := oi hR1
     replace hF := on_ret hF
     obtain rfl := oi hF
     refine ret_2 hf rfl (rv_tmp hf rfl) (rv_tmp hf rfl) ?_
     have hN := H.ends1
     exact ⟨_, rfl, H.bel, [], _, _, rfl, (mko_list (H.ownAt 0 rfl)), mk_bool, by first | exact hN | simpa using hN⟩
    ·refine wp_skip (then_n (sqz (pz 1 hf fun a hf => ?_)))
     refine lB 0 hf H TF.ls25 fun a hf => ?_
     refine pz 1 hf fun a hf => ?_
     obtain ⟨e2, he2, hR1⟩ := bs_ hR1
     refine wl0 rfl (op_iaddr hf H Tryz.underlying25 TF.sz63 2 rfl rfl rfl he2 (by decide) fun p2 o2 cs2 a hf hr2 H => ?_)
     obtain rfl := Fiber_cells hr2
     refine oq hf (rq_loadIN hf H TF.la63 0 0 rfl rfl rfl rfl) fun a hf => ?_
     refine pz 1 hf fun a hf => ?_
     obtain ⟨y3, hy3, hR1⟩ := bs_ hR1
     refine oc hf TF.cl107 (impl_otherEnd_ok (S := TT) Fiber_mkv mk_int hy3) fun v3 w a hp3 hf => ?_
     obtain ⟨hb3, hp3⟩ := hp3
     obtain rfl := VR_int hp3
     have H := H.keep hb3
     refine pz 1 hf fun a hf => ?_
     have hf := hf.pn [2, 6, 7, 30, 31, 32]
     refine wl_end (then_n (sq (sq ?_)))
     obtain ⟨c6, hGc6, hR1⟩ := bs_ hR1
     have fh2 := hf.prune [2, 6, 7, 30, 31, 32] rfl
     have Hm2 := H.lm 1 1 0 5 28
     refine midF 56 (.bool c6) fh2 Hm2 ?_ fun a w hf H => ?_
     ·refine reg (pz 3 hf fun a hf => ?_)
      refine iteB hGc6 (fun hc5 hGc6 => ?_) fun hc5 hGc6 => ?_
      ·have hf := hf.lit 52 rfl hc5
       refine pz 4 hf fun a hf => ?_
       obtain rfl := oi hGc6
       have hf := hf.pn [56, 2, 6, 7, 30, 31, 32]
       have H := H.lm 1 1 0 5 28
       exact wl_end ⟨hf, H⟩
      ·have hf := hf.lit 52 rfl hc5
       refine pz 2 hf fun a hf => ?_
       obtain ⟨y4, hy4, hGc6⟩ := bs_ hGc6
       refine wlg hf rfl rfl rfl (oC hf TF.cl108 (slices_Contains_int_int_ok (S := TT) (mk_list (H.rowTrue 0 rfl)) mk_int hy4) fun v4 w a hp4 hf => ?_)
       obtain ⟨hb4, hp4⟩ := hp4
       obtain rfl := VR_bool hp4
       have H := H.keep hb4
       refine pz 1 hf fun a hf => ?_
       obtain rfl := oi hGc6
       have hf := hf.pn [56, 2, 6, 7, 30, 31, 32]
       have H := H.lm 1 1 0 5 28
       exact wl_end ⟨hf, H⟩
     refine then_n (ib hR1 hf (fun hc6 hR1 => ?_) fun hc6 hR1 => ?_)
     ·refine sqz (pz 2 hf fun a hf => ?_)
      refine wl_end (then_n (wp_ret (then_r (blk_r (then_r (then_r (blk_r (then_r (then_r (?_))))))))))
      have H := H.ownNil (Int)
      have H := H.lend 0 rfl
      obtain rfl := oi hR1
      replace hF := on_ret hF
      obtain rfl := oi hF
      refine ret_2 hf rfl (rv_tmp hf rfl) (rv_tmp hf rfl) ?_
      have hN := H.ends1
      exact ⟨_, rfl, H.bel, [], _, _, rfl, (mko_list (H.ownAt 0 rfl)), mk_bool, by first | exact hN | simpa using hN⟩
     ·refine wp_skip (then_n (reg (pz 2 hf fun a hf => ?_)))
      refine wl0 rfl (bl hf H 3 ([y3] : List Int) [(.int .i64 y3)] (el1 (y := y3) (rfl)) fun A6 a w hf H => ?_)
      obtain ⟨l, hl_, hR1⟩ := bs_ hR1
      refine wl0 rfl (op_appR hf H Tryz.underlying28 TF.ai3 rfl (by decide) 1 0 rfl rfl rfl rfl (.inr rfl) hl_ (by decide) fun E2 A7 c7 a w hf H => ?_)
      refine pz 1 hf fun a hf => ?_
      refine wl_end (blk_n (then_n (reg (pz 2 hf fun a hf => ?_))))
      refine wl_end ?_
      have hf := hf.pn [2, 6, 7, 30, 31, 32]
      have H := H.lm 1 2 0 3 7
      exact then_n ⟨(l, y3, w64 (i + 1)), hR1, A7, c7, E2, hf, H⟩
   ·refine wp_exit (then_x (then_x (blk_e (?_))))
    have hf := hf.pn [2, 6, 7, 30, 31, 32]
    have H := H.lm 1 1 0 3 7
    exact ⟨(out', at', i), (Option.some.inj hR1).symm, A5, c5, E, hf, H⟩
  rintro a w ⟨⟨out3, at2, i2⟩, rfl, A8, c8, E3, hf, H⟩
  replace hF := on_next hF
  try dsimp only at hF
  refine then_n (sqz (pz 3 hf fun a hf => ?_))
  refine wer ?_
  have H := H.rowOwn 0 rfl rfl
  obtain ⟨F, H⟩ := H.freezeOwn 0 rfl
  have H := H.lend 0 rfl
  obtain rfl := oi hF
  refine ret_2 hf rfl (rv_tmp hf rfl) (rv_tmp hf rfl) ?_
  have hN := H.ends1
  exact ⟨_, rfl, H.bel, F, _, _, rfl, (mko_list (H.ownAt 0 rfl)), mk_bool, by first | exact hN | simpa using hN⟩
theorem impl_RouteNodes_ok {S : Nat → Prop} {v0_ : Value} {v1_ : Value} {n' : Network} {r' : Route} {r : List Int × Bool} (h0 : VR w0 S v0_ n') (h1 : VR w0 S v1_ r') (hF : impl_RouteNodes fu n' r' = some r) :
    Calls Tryz.prog 70 [v0_, v1_].toArray w0 fun e w' => ∃ v, e = .returned v ∧ (Below w0.heap.size w0 w' ∧ ∃ F0, ∃ u0 u1, v = .tuple #[u0, u1] ∧ VO w' F0 u0 r.1 ∧ VR w' (St ⟨w0, []⟩ S [] [] [] true) u1 r.2 ∧ New w0 w' F0) := by
 obtain ⟨A, c, A2, c2, rfl, hl, hl2⟩ := Network_open h0
 obtain ⟨A3, c3, rfl, hl3⟩ := Route_open h1
 have H := Mem.start ⟨w0, []⟩ S
 have H := H.pA hl
 have H := H.pA hl2
 have H := H.pA hl3
 refine en Tryz.func70 fun a hf => ?_
 rw [impl_RouteNodes] at hF
 refine bx hf H fun b' a w hf H => ?_
 refine wl0 rfl (op_box hf H rfl rfl (by decide) fun b2 a w hf H => ?_)
 refine pz 2 hf fun a hf => ?_
 refine wl_end (then_n (sq (sq (reg (lN 1 hf H TF.la27 fun a hf => ?_)))))
 obtain ⟨y, hy, hF⟩ := bs_ hF
 refine oc hf TF.cl25 (impl_IsValidNetwork_ok (S := TT) (Network_mkv (x := n') (H.rt 2 rfl) (H.rt 1 rfl)) hy) fun v w a hp hf => ?_
 obtain ⟨hb, hp⟩ := hp
 obtain rfl := VR_bool hp
 have H := H.keep hb
 refine pz 1 hf fun a hf => ?_
 refine wl_end (then_n (ib hF hf (fun hc hF => ?_) fun hc hF => ?_))
 ·refine sqz (pz 2 hf fun a hf => ?_)
  refine wl_end (then_n (wp_ret (then_r (?_))))
  have H := H.ownNil (Int)
  have H := H.lend 0 rfl
  obtain rfl := oi hF
  refine ret_2 hf rfl (rv_tmp hf rfl) (rv_tmp hf rfl) ?_
  have hN := H.ends1
  exact ⟨_, rfl, H.bel, [], _, _, rfl, (mko_list (H.ownAt 0 rfl)), mk_bool, by first | exact hN | simpa using hN⟩
 ·refine wp_skip (then_n (sq (reg (lN 1 hf H TF.la27 fun a hf => ?_))))
  refine lN 0 hf H TF.la30 fun a hf => ?_
  obtain ⟨y2, hy2, hF⟩ := bs_ hF
  refine oc hf TF.cl71 (impl_visited_ok (S := TT) (Network_mkv (x := n') (H.rt 2 rfl) (H.rt 1 rfl)) (Route_mkv (x := r') (H.rt 0 rfl)) hy2) fun v2 w a hp2 hf => ?_
  obtain ⟨hb2, F, v3, v4, rfl, hp3, hp4, hN⟩ := hp2
  obtain ⟨A4, c4, rfl, hl4⟩ := VO_list hp3
  obtain rfl := VR_bool hp4
  have H := H.aO1 hb2 hN hl4
  have H := H.lend 0 rfl
  refine pz 4 hf fun a hf => ?_
  refine wer ?_
  obtain rfl := oi hF
  refine ret_2 hf rfl (rv_tmp hf rfl) (rv_tmp hf rfl) ?_
  have hN := H.ends1
  exact ⟨_, rfl, H.bel, F, _, _, rfl, (mko_list (H.ownAt 0 rfl)), mk_bool, by first | exact hN | simpa using hN⟩
theorem impl_IsValidRoute_ok {S : Nat → Prop} {v0_ : Value} {v1_ : Value} {n' : Network} {r' : Route} {r : Bool} (h0 : VR w0 S v0_ n') (h1 : VR w0 S v1_ r') (hF : impl_IsValidRoute fu n' r' = some r) :
    Calls Tryz.prog 33 [v0_, v1_].toArray w0 fun e w' => ∃ v, e = .returned v ∧ (Below w0.heap.size w0 w' ∧ VR w' (St ⟨w0, []⟩ S [] [] [] true) v r) := by
 obtain ⟨A, c, A2, c2, rfl, hl, hl2⟩ := Network_open h0
 obtain ⟨A3, c3, rfl, hl3⟩ := Route_open h1
 have H := Mem.start ⟨w0, []⟩ S
 have H := H.pA hl
 have H := H.pA hl2
 have H := H.pA hl3
 refine en Tryz.func33 fun a hf => ?_
 rw [impl_IsValidRoute] at hF
 refine bx hf H fun b' a w hf H => ?_
 refine wl0 rfl (op_box hf H rfl rfl (by decide) fun b2 a w hf H => ?_)
 refine pz 1 hf fun a hf => ?_
 refine wr (lN 1 hf H TF.la27 fun a hf => ?_)
 refine lN 0 hf H TF.la30 fun a hf => ?_
 obtain ⟨y, hy, hF⟩ := bs_ hF
 refine oc hf TF.cl70 (impl_RouteNodes_ok (S := TT) (Network_mkv (x := n') (H.rt 2 rfl) (H.rt 1 rfl)) (Route_mkv (x := r') (H.rt 0 rfl)) hy) fun v w a hp hf => ?_
 obtain ⟨hb, F, v2, v3, rfl, hp2, hp3, hN⟩ := hp
 obtain ⟨A4, c4, rfl, hl4⟩ := VO_list hp2
 obtain rfl := VR_bool hp3
 have H := H.aO1 hb hN hl4
 have H := H.lend 0 rfl
 refine pz 5 hf fun a hf => ?_
 refine wr (pz 2 hf fun a hf => ?_)
 have hf := hf.pn [4]
 refine wer ?_
 obtain rfl := oi hF
 refine rT hf ?_
 exact ⟨_, rfl, H.bel, mk_bool⟩
theorem impl_routeText_ok {S : Nat → Prop} {v0_ : Value} {v1_ : Value} {n' : Network} {r' : Route} {r : ByteArray} (h0 : VR w0 S v0_ n') (h1 : VR w0 S v1_ r') (hG : (GLm 0 1 2).pred w0 S) (hF : impl_routeText fu n' r' = some r) :
    Calls Tryz.prog 34 [v0_, v1_].toArray w0 fun e w' => ∃ v, e = .returned v ∧ (Below w0.heap.size w0 w' ∧ VR w' (St ⟨w0, []⟩ S [] [] [] true) v r) := by
 obtain ⟨A, c, A2, c2, rfl, hl, hl2⟩ := Network_open h0
 obtain ⟨A3, c3, rfl, hl3⟩ := Route_open h1
 have H := Mem.start ⟨w0, []⟩ S
 have H := H.pA hl
 have H := H.pA hl2
 have H := H.pA hl3
 have H := H.pushArg (GLm 0 1 2) hG
 refine en Tryz.func34 fun a hf => ?_
 rw [impl_routeText] at hF
 refine bx hf H fun b' a w hf H => ?_
 refine wl0 rfl (op_box hf H rfl rfl (by decide) fun b2 a w hf H => ?_)
 refine pz 1 hf fun a hf => ?_
 refine wr (lN 1 hf H TF.la27 fun a hf => ?_)
 refine lN 0 hf H TF.la30 fun a hf => ?_
 obtain ⟨y, hy, hF⟩ := bs_ hF
 refine oc hf TF.cl71 (impl_visited_ok (S := TT) (Network_mkv (x := n') (H.rt 3 rfl) (H.rt 2 rfl)) (Route_mkv (x := r') (H.rt 1 rfl)) hy) fun v w a hp hf => ?_
 obtain ⟨hb, F, v2, v3, rfl, hp2, hp3, hN⟩ := hp
 obtain ⟨A4, c4, rfl, hl4⟩ := VO_list hp2
 obtain rfl := VR_bool hp3
 have H := H.aO1 hb hN hl4
 have H := H.lend 0 rfl
 refine pz 5 hf fun a hf => ?_
 refine wl_end (then_n (sq (dw [] 8 fun w hb => ?_)))
 have H := H.keep hb
 refine zp 0 hf trivial fun a hf => ?_
 refine strT (H.lk 2 0 0 []) (fun w H => trivial) fun hS => ?_
 refine zS 1 [] rfl rfl rfl rfl hf hS (fun w H => rq_loadB hf H TF.ls24 0 rfl rfl rfl) fun a hf => ?_
 refine zp 2 hf hS fun a hf => ?_
 obtain ⟨e, he, hF⟩ := bs_ hF
 obtain ⟨p, o, cs, hx, hr, H⟩ := pre_iaddr H Tryz.underlying28 TF.sz3 0 rfl he
 refine zP 3 rfl rfl rfl rfl hf hS (fun w => rq_iaddrE hf rfl rfl rfl hx w) fun a hf => ?_
 obtain rfl := hr
 refine strT (H.lk 2 0 0 [0]) (fun w H => H.lk 1 0 0 []) fun hS => ?_
 refine zS 4 [] rfl rfl rfl rfl hf hS (fun w H => rq_loadI hf H TF.ls3 0 0 rfl rfl rfl) fun a hf => ?_
 obtain ⟨e2, he2, hF⟩ := bs_ hF
 obtain ⟨p2, o2, cs2, hx2, hr2, H⟩ := pre_iaddr H Tryz.underlying24 TF.sz9 5 rfl he2
 refine zP 5 rfl rfl rfl rfl hf hS (fun w => rq_iaddrE hf rfl rfl rfl hx2 w) fun a hf => ?_
 obtain rfl := hr2
 refine strT (H.lk 2 0 0 [0,1]) (fun w H => H.lk 1 0 0 [1]) fun hS => ?_
 refine zS 6 [] rfl rfl rfl rfl hf hS (fun w H => rq_loadI hf H TF.ls9 0 0 rfl rfl rfl) fun a hf => ?_
 refine zp 7 hf hS fun a hf => ?_
 refine dk ?_
 have hf := hf.pn [2, 3, 5, 7]
 refine then_n (sq (sqz (pz 1 hf fun a hf => ?_)))
 refine lB 0 hf H TF.ls28 fun a hf => ?_
 refine pz 2 hf fun a hf => ?_
 refine wl_end (then_n ?_)
 obtain ⟨out2, hB1, hF⟩ := bs_ hF
 have hf := hf.pn [2, 5, 7, 24, 25, 26]
 have H := H.lm 2 0 1 7 124
 refine loopC (fun (s : ByteArray × Int) (a : Act) (w : World) => match s with | (out', i) => Fr a 49 [(2, (.pointer (some ⟨b', 0, none⟩))), (5, (.slice A4 y.1.length c4)), (7, (.string out')), (24, (.slice A3 r'.Fibers.length c3)), (25, (.int .i64 (r'.Fibers.length : Int))), (26, (.int .i64 i))] ∧ Mem ⟨w0, []⟩ S [⟨b', 27, [(.slice A n'.Nodes.length c), (.slice A2 n'.Fibers.length c2)]⟩] [] [⟨F, MP.own F [(.slice A4 y.1.length c4)] (y.1 : List Int)⟩] [(true, MP.val [(.slice A4 y.1.length c4)] (y.1 : List Int)), (false, GLm 0 1 2), (false, MP.val [(.slice A3 r'.Fibers.length c3)] (r'.Fibers : List Int)), (false, MP.val [(.slice A2 n'.Fibers.length c2)] (n'.Fibers : List Fiber)), (false, MP.val [(.slice A n'.Nodes.length c)] (n'.Nodes : List ByteArray))] w) (fun k (s : ByteArray × Int) => impl_routeText_L1 fu n' r' y k s.1 s.2 = some out2) (fun s => out2 = s) (e2, 0) fu hB1 ⟨hf, H⟩ (fun s h => by cases h) ?_ ?_
 ·rintro fk ⟨out', i⟩ a w hR1 hI
  replace hR1 : impl_routeText_L1 fu n' r' y (fk + 1) out' i = some out2 := hR1
  rw [impl_routeText_L1] at hR1
  obtain ⟨hf, H⟩ := hI
  refine sqz (pz 1 hf fun a hf => ?_)
  refine wl_end (then_n (sq (ib hR1 hf (fun hc hR1 => ?_) fun hc hR1 => ?_)))
  ·refine ws (pz 1 hf fun a hf => ?_)
   obtain ⟨e3, he3, hR1⟩ := bs_ hR1
   refine wl0 rfl (op_iaddr hf H Tryz.underlying28 TF.sz3 2 rfl rfl rfl he3 (by decide) fun p3 o3 cs3 a hf hr3 H => ?_)
   obtain rfl := hr3
   refine oq hf (rq_loadI hf H TF.ls3 0 0 rfl rfl rfl) fun a hf => ?_
   refine pz 2 hf fun a hf => ?_
   refine wl_end (then_n (dw [] 17 fun w hb => ?_))
   have H := H.keep hb
   refine zp 0 hf trivial fun a hf => ?_
   refine zp 1 hf trivial fun a hf => ?_
   refine zp 5 hf trivial fun a hf => ?_
   refine strT (H.lk 1 0 0 []) (fun w H => trivial) fun hS => ?_
   refine zS 6 [] rfl rfl rfl rfl hf hS (fun w H => rq_loadB hf H TF.ls24 0 rfl rfl rfl) fun a hf => ?_
   refine zp 7 hf hS fun a hf => ?_
   refine zp 8 hf hS fun a hf => ?_
   refine zp 9 hf hS fun a hf => ?_
   obtain ⟨e4, he4, hR1⟩ := bs_ hR1
   obtain ⟨p4, o4, cs4, hx3, hr4, H⟩ := pre_iaddr H Tryz.underlying28 TF.sz3 1 rfl he4
   refine zP 10 rfl rfl rfl rfl hf hS (fun w => rq_iaddrE hf rfl rfl rfl hx3 w) fun a hf => ?_
   obtain rfl := hr4
   refine strT (H.lk 1 0 0 [0]) (fun w H => H.lk 1 0 0 []) fun hS => ?_
   refine zS 11 [] rfl rfl rfl rfl hf hS (fun w H => rq_loadI hf H TF.ls3 0 0 rfl rfl rfl) fun a hf => ?_
   obtain ⟨e5, he5, hR1⟩ := bs_ hR1
   obtain ⟨p5, o5, cs5, hx4, hr5, H⟩ := pre_iaddr H Tryz.underlying24 TF.sz9 6 rfl he5
   refine zP 12 rfl rfl rfl rfl hf hS (fun w => rq_iaddrE hf rfl rfl rfl hx4 w) fun a hf => ?_
   obtain rfl := hr5
   refine strT (H.lk 1 0 0 [0,1]) (fun w H => H.lk 1 0 0 [1]) fun hS => ?_
   refine zS 13 [] rfl rfl rfl rfl hf hS (fun w H => rq_loadI hf H TF.ls9 0 0 rfl rfl rfl) fun a hf => ?_
   obtain ⟨y2, hy2, hR1⟩ := bs_ hR1
   refine nn 2 rfl (oC hf TF.cl27 (strconv_Itoa_ok (S := TT) mk_int (mp_true (H.get 4 rfl)) hy2) fun v4 w a hp4 hf => ?_)
   obtain ⟨hb2, hp4⟩ := hp4
   obtain rfl := VR_str hp4
   have H := H.keep hb2
   have hS := H.lk 1 0 0 [0,1]
   refine aS hS ?_
   obtain ⟨s', hs', hR1⟩ := bs_ hR1
   refine zP 3 rfl rfl rfl rfl hf hS (fun w => rq_scat hf rfl rfl hs') fun a hf => ?_
   obtain ⟨s2, hs2, hR1⟩ := bs_ hR1
   refine zP 4 rfl rfl rfl rfl hf hS (fun w => rq_scat hf rfl rfl hs2) fun a hf => ?_
   obtain ⟨s3, hs3, hR1⟩ := bs_ hR1
   refine zP 14 rfl rfl rfl rfl hf hS (fun w => rq_scat hf rfl rfl hs3) fun a hf => ?_
   obtain ⟨s4, hs4, hR1⟩ := bs_ hR1
   refine zP 15 rfl rfl rfl rfl hf hS (fun w => rq_scat hf rfl rfl hs4) fun a hf => ?_
   refine zp 16 hf hS fun a hf => ?_
   refine dk ?_
   have hf := hf.pn [2, 5, 7, 24, 25, 26]
   refine blk_n (then_n (reg (pz 2 hf fun a hf => ?_)))
   refine wl_end ?_
   have hf := hf.pn [2, 5, 7, 24, 25, 26]
   have H := H.lm 1 0 1 8 248
   exact then_n ⟨(s4, w64 (i + 1)), hR1, hf, H⟩
  ·refine wp_exit (then_x (then_x (blk_e (?_))))
   have hf := hf.pn [2, 5, 7, 24, 25, 26]
   have H := H.lm 1 0 1 5 31
   exact ⟨(out', i), (Option.some.inj hR1).symm, hf, H⟩
 rintro a w ⟨⟨out3, i2⟩, rfl, hf, H⟩
 try dsimp only at hF
 refine then_n (sqz (pz 2 hf fun a hf => ?_))
 refine wer ?_
 obtain rfl := oi hF
 refine rT hf ?_
 exact ⟨_, rfl, H.bel, mk_str⟩
theorem impl_FormatRoute_ok {S : Nat → Prop} {v0_ : Value} {v1_ : Value} {n' : Network} {r' : Route} {r : ByteArray × Bool} (h0 : VR w0 S v0_ n') (h1 : VR w0 S v1_ r') (hG : (GLm 0 1 2).pred w0 S) (hF : impl_FormatRoute fu n' r' = some r) :
    Calls Tryz.prog 10 [v0_, v1_].toArray w0 fun e w' => ∃ v, e = .returned v ∧ (Below w0.heap.size w0 w' ∧ ∃ u0 u1, v = .tuple #[u0, u1] ∧ VR w' (St ⟨w0, []⟩ S [] [] [] true) u0 r.1 ∧ VR w' (St ⟨w0, []⟩ S [] [] [] true) u1 r.2) := by
 obtain ⟨A, c, A2, c2, rfl, hl, hl2⟩ := Network_open h0
 obtain ⟨A3, c3, rfl, hl3⟩ := Route_open h1
 have H := Mem.start ⟨w0, []⟩ S
 have H := H.pA hl
 have H := H.pA hl2
 have H := H.pA hl3
 have H := H.pushArg (GLm 0 1 2) hG
 refine en Tryz.func10 fun a hf => ?_
 rw [impl_FormatRoute] at hF
 refine bx hf H fun b' a w hf H => ?_
 refine wl0 rfl (op_box hf H rfl rfl (by decide) fun b2 a w hf H => ?_)
 refine pz 2 hf fun a hf => ?_
 refine wl_end (then_n (sq (sq (reg (lN 1 hf H TF.la27 fun a hf => ?_)))))
 refine lN 0 hf H TF.la30 fun a hf => ?_
 obtain ⟨y, hy, hF⟩ := bs_ hF
 refine oc hf TF.cl33 (impl_IsValidRoute_ok (S := TT) (Network_mkv (x := n') (H.rt 3 rfl) (H.rt 2 rfl)) (Route_mkv (x := r') (H.rt 1 rfl)) hy) fun v w a hp hf => ?_
 obtain ⟨hb, hp⟩ := hp
 obtain rfl := VR_bool hp
 have H := H.keep hb
 refine pz 1 hf fun a hf => ?_
 refine wl_end (then_n (ib hF hf (fun hc hF => ?_) fun hc hF => ?_))
 ·refine sqz (pz 2 hf fun a hf => ?_)
  refine wl_end (then_n (wp_ret (then_r (?_))))
  obtain rfl := oi hF
  refine ret_2 hf rfl (rv_tmp hf rfl) (rv_tmp hf rfl) ?_
  exact ⟨_, rfl, H.bel, _, _, rfl, mk_str, mk_bool⟩
 ·refine wp_skip (then_n (sq (reg (lN 1 hf H TF.la27 fun a hf => ?_))))
  refine lN 0 hf H TF.la30 fun a hf => ?_
  obtain ⟨y2, hy2, hF⟩ := bs_ hF
  refine oc hf TF.cl34 (impl_routeText_ok (S := TT) (Network_mkv (x := n') (H.rt 3 rfl) (H.rt 2 rfl)) (Route_mkv (x := r') (H.rt 1 rfl)) (mp_true (H.get 0 rfl)) hy2) fun v2 w a hp2 hf => ?_
  obtain ⟨hb2, hp2⟩ := hp2
  obtain rfl := VR_str hp2
  have H := H.keep hb2
  refine pz 2 hf fun a hf => ?_
  refine wer ?_
  obtain rfl := oi hF
  refine ret_2 hf rfl (rv_tmp hf rfl) (rv_tmp hf rfl) ?_
  exact ⟨_, rfl, H.bel, _, _, rfl, mk_str, mk_bool⟩
theorem impl_ParseRoute_ok {S : Nat → Prop} {v0_ : Value} {v1_ : Value} {n' : Network} {s' : ByteArray} {r : Route × Bool} (h0 : VR w0 S v0_ n') (h1 : VR w0 S v1_ s') (hG : (GLm 0 1 2).pred w0 S) (hF : impl_ParseRoute fu n' s' = some r) :
    Calls Tryz.prog 11 [v0_, v1_].toArray w0 fun e w' => ∃ v, e = .returned v ∧ (Below w0.heap.size w0 w' ∧ ∃ F0, ∃ u0 u1, v = .tuple #[u0, u1] ∧ VO w' F0 u0 r.1 ∧ VR w' (St ⟨w0, []⟩ S [] [] [] true) u1 r.2 ∧ New w0 w' F0) := by
 obtain ⟨A, c, A2, c2, rfl, hl, hl2⟩ := Network_open h0
 obtain rfl := VR_str h1
 have H := Mem.start ⟨w0, []⟩ S
 have H := H.pA hl
 have H := H.pA hl2
 have H := H.pushArg (GLm 0 1 2) hG
 refine en Tryz.func11 fun a hf => ?_
 rw [impl_ParseRoute] at hF
 refine bx hf H fun b' a w hf H => ?_
 refine aL hf H TF.zv30 fun b2 a w hf H => ?_
 refine pz 1 hf fun a hf => ?_
 refine wr (pz 1 hf fun a hf => ?_)
 obtain ⟨y, hy, hF⟩ := bs_ hF
 refine oc hf TF.cl29 (strings_Split_ok (S := TT) mk_str mk_str (mp_true (H.get 0 rfl)) hy) fun v w a hp hf => ?_
 obtain ⟨hb, F, hp2, hN⟩ := hp
 obtain ⟨A3, c3, rfl, hl3⟩ := VO_list hp2
 have H := H.aO1 hb hN hl3
 have H := H.lend 0 rfl
 refine pz 1 hf fun a hf => ?_
 refine wl_end (then_n (sq (dw [] 11 fun w hb => ?_)))
 have H := H.keep hb
 refine zp 0 hf trivial fun a hf => ?_
 refine strT (H.lk 2 0 0 []) (fun w H => trivial) fun hS => ?_
 refine zS 1 [] rfl rfl rfl rfl hf hS (fun w H => rq_loadB hf H TF.ls24 0 rfl rfl rfl) fun a hf => ?_
 refine zp 2 hf hS fun a hf => ?_
 obtain ⟨e, he, hF⟩ := bs_ hF
 obtain ⟨p, o, cs, hx, hr, H⟩ := pre_iaddr H Tryz.underlying24 TF.sz9 0 rfl he
 refine zP 3 rfl rfl rfl rfl hf hS (fun w => rq_iaddrE hf rfl rfl rfl hx w) fun a hf => ?_
 obtain rfl := hr
 refine strT (H.lk 2 0 0 [0]) (fun w H => H.lk 1 0 0 []) fun hS => ?_
 refine zS 4 [] rfl rfl rfl rfl hf hS (fun w H => rq_loadI hf H TF.ls9 0 0 rfl rfl rfl) fun a hf => ?_
 obtain ⟨y2, hy2, hF⟩ := bs_ hF
 refine nn 5 rfl (oC hf TF.cl35 (impl_indexOf_ok (S := TT) (mk_list (H.rt 4 rfl)) mk_str hy2) fun v2 w a hp3 hf => ?_)
 obtain ⟨hb2, v3, v4, rfl, hp4, hp5⟩ := hp3
 obtain rfl := VR_int hp4
 obtain rfl := VR_bool hp5
 have H := H.keep hb2
 have hS := H.lk 2 0 0 [0]
 refine aS hS ?_
 refine zp 6 hf hS fun a hf => ?_
 refine zp 7 hf hS fun a hf => ?_
 refine zp 8 hf hS fun a hf => ?_
 refine zp 9 hf hS fun a hf => ?_
 refine zp 10 hf hS fun a hf => ?_
 refine dk ?_
 have hf := hf.pn [1, 2, 4, 6, 7, 8]
 refine then_n (sq (sq ?_))
 obtain ⟨c4, hGc4, hF⟩ := bs_ hF
 have fh := hf.prune [1, 2, 4, 6, 7] rfl
 have Hm := H.lm 3 0 1 5 30
 refine midF 32 (.bool c4) fh Hm ?_ fun a w hf H => ?_
 ·refine reg (pz 3 hf fun a hf => ?_)
  refine iteB hGc4 (fun hc hGc4 => ?_) fun hc hGc4 => ?_
  ·have hf := hf.lit 28 rfl hc
   refine pz 4 hf fun a hf => ?_
   obtain rfl := oi hGc4
   have hf := hf.pn [32, 1, 2, 4, 6, 7]
   have H := H.lm 3 0 1 5 30
   exact wl_end ⟨hf, H⟩
  ·have hf := hf.lit 28 rfl hc
   refine pz 4 hf fun a hf => ?_
   obtain rfl := oi hGc4
   have hf := hf.pn [32, 1, 2, 4, 6, 7]
   have H := H.lm 3 0 1 5 30
   exact wl_end ⟨hf, H⟩
 refine then_n (ib hF hf (fun hc2 hF => ?_) fun hc2 hF => ?_)
 ·refine sq (reg (oq hf (rq_build hf (cs := [(.int .i64 0), (.slice none 0 0)]) rfl (fun w => by kernel_rfl)) fun a hf => ?_))
  refine sB 0 hf H TF.sz30 fun w H => ?_
  refine pz 1 hf fun a hf => ?_
  refine wl_end (then_n (wp_ret (then_r (?_))))
  have H := H.ownNil (Int)
  have H := H.lend 0 rfl
  obtain rfl := oi hF
  refine ret_2 hf rfl (rv_cellN hf H 0 TF.la30 rfl rfl rfl) (rv_tmp hf rfl) ?_
  have hN := H.ends1
  exact ⟨_, rfl, H.bel, [], _, _, rfl, ⟨_, Route_ownmk (x := ({ Start := 0, Fibers := [] } : Route)) (H.ownAt 0 rfl), rfl⟩, mk_bool, by first | exact hN | simpa using hN⟩
 ·refine wp_skip (then_n (sqz (pz 1 hf fun a hf => ?_)))
  refine oq hf (rq_build hf (cs := [(.int .i64 y2.1), (.slice none 0 0)]) rfl (fun w => by kernel_rfl)) fun a hf => ?_
  refine aL hf H TF.zv30 fun b3 a w hf H => ?_
  refine sB 0 hf H TF.sz30 fun w H => ?_
  refine we (sqz (pz 1 hf fun a hf => ?_))
  refine wl_end (then_n ?_)
  have H := H.nilRow (Int) (.sh true) rfl trivial 3
  obtain ⟨out', hB1, hF⟩ := bs_ hF
  have hf := hf.pn [1, 2, 4, 6, 9, 10]
  have H := H.lm 7 1 1 4 15
  refine loopC (fun (s : Int × List Int) (a : Act) (w : World) => match s with | (k', m) => ∃ (A4 : Option Addr) (c5 : Nat) (E : Go.TypeId), Fr a 74 [(1, (.string s')), (2, (.pointer (some ⟨b', 0, none⟩))), (4, (.pointer (some ⟨b2, 0, none⟩))), (6, (.slice A3 y.length c3)), (9, (.pointer (some ⟨b3, 0, none⟩))), (10, (.int .i64 k'))] ∧ Mem ⟨w0, []⟩ S [⟨b3, 30, [(.int .i64 y2.1), (.slice A4 m.length c5)]⟩, ⟨b2, 30, [(.int .i64 0), (.slice none 0 0)]⟩, ⟨b', 27, [(.slice A n'.Nodes.length c), (.slice A2 n'.Fibers.length c2)]⟩] [⟨.sh true, E, A4, c5, (m : List Int)⟩] [⟨F, MP.own F [(.slice A3 y.length c3)] (y : List ByteArray)⟩] [(true, MP.val [(.slice A3 y.length c3)] (y : List ByteArray)), (false, GLm 0 1 2), (false, MP.val [(.slice A2 n'.Fibers.length c2)] (n'.Fibers : List Fiber)), (false, MP.val [(.slice A n'.Nodes.length c)] (n'.Nodes : List ByteArray))] w) (fun k (s : Int × List Int) => impl_ParseRoute_L1 fu y k s.1 s.2 = some out') (fun s => out' = Out.next s) (1, ([] : List Int)) fu hB1 ⟨none, 0, 3, hf, H⟩ (fun s h => by cases h) ?_ ?_
  ·rintro fk ⟨k', m⟩ a w hR1 hI
   replace hR1 : impl_ParseRoute_L1 fu y (fk + 1) k' m = some out' := hR1
   rw [impl_ParseRoute_L1] at hR1
   obtain ⟨A4, c5, E, hf, H⟩ := hI
   refine sq (sqz (pz 4 hf fun a hf => ?_))
   refine wl_end (then_n (ib hR1 hf (fun hc3 hR1 => ?_) fun hc3 hR1 => ?_))
   ·refine ws (pz 2 hf fun a hf => ?_)
    obtain ⟨e2, he2, hR1⟩ := bs_ hR1
    refine wl0 rfl (op_iaddr hf H Tryz.underlying24 TF.sz9 0 rfl rfl rfl he2 (by decide) fun p2 o2 cs2 a hf hr2 H => ?_)
    obtain rfl := hr2
    refine oq hf (rq_loadI hf H TF.ls9 0 0 rfl rfl rfl) fun a hf => ?_
    obtain ⟨y3, hy3, hR1⟩ := bs_ hR1
    refine oc hf TF.cl36 (impl_ParseInt_ok (S := TT) mk_str (mp_true (H.get 2 rfl)) hy3) fun v5 w a hp6 hf => ?_
    obtain ⟨hb3, v6, v7, rfl, hp7, hp8⟩ := hp6
    obtain rfl := VR_int hp7
    obtain rfl := VR_bool hp8
    have H := H.keep hb3
    refine pz 5 hf fun a hf => ?_
    refine we (sqz (pz 2 hf fun a hf => ?_))
    have hf := hf.pn [1, 2, 4, 6, 9, 10, 11, 51]
    refine wl_end (then_n (ib hR1 hf (fun hc4 hR1 => ?_) fun hc4 hR1 => ?_))
    ·refine sq (reg (oq hf (rq_build hf (cs := [(.int .i64 0), (.slice none 0 0)]) rfl (fun w => by kernel_rfl)) fun a hf => ?_))
     refine sB 1 hf H TF.sz30 fun w H => ?_
     refine pz 1 hf fun a hf => ?_
     refine wl_end (then_n (wp_ret (then_r (blk_r (then_r (then_r (blk_r (then_r (then_r (?_))))))))))
     have H := H.ownNil (Int)
     have H := H.lend 0 rfl
     obtain rfl := oi hR1
     replace hF := on_ret hF
     obtain rfl := oi hF
     refine ret_2 hf rfl (rv_cellN hf H 1 TF.la30 rfl rfl rfl) (rv_tmp hf rfl) ?_
     have hN := H.ends1
     exact ⟨_, rfl, H.bel, [], _, _, rfl, ⟨_, Route_ownmk (x := ({ Start := 0, Fibers := [] } : Route)) (H.ownAt 0 rfl), rfl⟩, mk_bool, by first | exact hN | simpa using hN⟩
    ·refine wp_skip (then_n (reg (pz 1 hf fun a hf => ?_)))
     refine lB 0 hf H TF.ls28 fun a hf => ?_
     refine pz 1 hf fun a hf => ?_
     refine wl0 rfl (bl hf H 3 ([y3.1] : List Int) [(.int .i64 y3.1)] (el1 (y := y3.1) (rfl)) fun A5 a w hf H => ?_)
     obtain ⟨l, hl_, hR1⟩ := bs_ hR1
     refine wl0 rfl (op_appR hf H Tryz.underlying28 TF.ai3 rfl (by decide) 1 0 rfl rfl rfl rfl (.inr rfl) hl_ (by decide) fun E2 A6 c6 a w hf H => ?_)
     refine pz 1 hf fun a hf => ?_
     refine sB 0 hf H TF.sz28 fun w H => ?_
     refine wl_end (blk_n (then_n (reg (pz 3 hf fun a hf => ?_))))
     refine wl_end ?_
     have hf := hf.pn [1, 2, 4, 6, 9, 10]
     have H := H.lm 7 2 1 5 30
     exact then_n ⟨(w64 (k' + 2), l), hR1, A6, c6, E2, hf, H⟩
   ·refine wp_exit (then_x (then_x (blk_e (?_))))
    have hf := hf.pn [1, 2, 4, 6, 9, 10]
    have H := H.lm 7 1 1 4 15
    exact ⟨(k', m), (Option.some.inj hR1).symm, A4, c5, E, hf, H⟩
  rintro a w ⟨⟨k2, m2⟩, rfl, A7, c7, E3, hf, H⟩
  replace hF := on_next hF
  try dsimp only at hF
  refine then_n (sq (sq (reg (lN 2 hf H TF.la27 fun a hf => ?_))))
  refine lN 0 hf H TF.la30 fun a hf => ?_
  obtain ⟨y4, hy4, hF⟩ := bs_ hF
  refine oc hf TF.cl10 (impl_FormatRoute_ok (S := TT) (Network_mkv (x := n') (H.rt 3 rfl) (H.rt 2 rfl)) (Route_mkv (x := ({ Start := y2.1, Fibers := m2 } : Route)) (H.rowTrue 0 rfl)) (mp_true (H.get 1 rfl)) hy4) fun v8 w a hp9 hf => ?_
  obtain ⟨hb4, v9, v10, rfl, hp10, hp11⟩ := hp9
  obtain rfl := VR_str hp10
  obtain rfl := VR_bool hp11
  have H := H.keep hb4
  refine pz 5 hf fun a hf => ?_
  refine wl_end (then_n (sq ?_))
  obtain ⟨c8, hGc8, hF⟩ := bs_ hF
  have fh2 := hf.prune [4, 9] rfl
  have Hm2 := H.lk 3 1 0 [1]
  refine midF 71 (.bool c8) fh2 Hm2 ?_ fun a w hf H => ?_
  ·refine reg (pz 3 hf fun a hf => ?_)
   refine iteB hGc8 (fun hc5 hGc8 => ?_) fun hc5 hGc8 => ?_
   ·have hf := hf.lit 67 rfl hc5
    refine pz 4 hf fun a hf => ?_
    obtain rfl := oi hGc8
    have hf := hf.pn [71, 4, 9]
    have H := H.lk 3 1 0 [1]
    exact wl_end ⟨hf, H⟩
   ·have hf := hf.lit 67 rfl hc5
    refine pz 4 hf fun a hf => ?_
    obtain rfl := oi hGc8
    have hf := hf.pn [71, 4, 9]
    have H := H.lk 3 1 0 [1]
    exact wl_end ⟨hf, H⟩
  refine then_n (ib hF hf (fun hc6 hF => ?_) fun hc6 hF => ?_)
  ·refine sq (reg (oq hf (rq_build hf (cs := [(.int .i64 0), (.slice none 0 0)]) rfl (fun w => by kernel_rfl)) fun a hf => ?_))
   refine sB 1 hf H TF.sz30 fun w H => ?_
   refine pz 1 hf fun a hf => ?_
   refine wl_end (then_n (wp_ret (then_r (?_))))
   have H := H.ownNil (Int)
   have H := H.lend 0 rfl
   obtain rfl := oi hF
   refine ret_2 hf rfl (rv_cellN hf H 1 TF.la30 rfl rfl rfl) (rv_tmp hf rfl) ?_
   have hN := H.ends1
   exact ⟨_, rfl, H.bel, [], _, _, rfl, ⟨_, Route_ownmk (x := ({ Start := 0, Fibers := [] } : Route)) (H.ownAt 0 rfl), rfl⟩, mk_bool, by first | exact hN | simpa using hN⟩
  ·refine wp_skip (then_n (sq (reg (lN 0 hf H TF.la30 fun a hf => ?_))))
   refine sB 1 hf H TF.sz30 fun w H => ?_
   refine pz 1 hf fun a hf => ?_
   refine wer ?_
   have H := H.rowOwn 0 rfl rfl
   obtain ⟨F3, H⟩ := H.freezeOwn 0 rfl
   have H := H.lend 0 rfl
   obtain rfl := oi hF
   refine ret_2 hf rfl (rv_cellN hf H 1 TF.la30 rfl rfl rfl) (rv_tmp hf rfl) ?_
   have hN := H.ends1
   exact ⟨_, rfl, H.bel, F3, _, _, rfl, ⟨_, Route_ownmk (x := ({ Start := y2.1, Fibers := m2 } : Route)) (H.ownAt 0 rfl), rfl⟩, mk_bool, by first | exact hN | simpa using hN⟩
theorem spec_l4Walk_ok {S : Nat → Prop} {v0_ : Value} {v1_ : Value} {n' : Network} {r' : Route} {r : List Int × Bool} (h0 : VR w0 S v0_ n') (h1 : VR w0 S v1_ r') (hF : spec_l4Walk fu n' r' = some r) :
    Calls Tryz.prog 74 [v0_, v1_].toArray w0 fun e w' => ∃ v, e = .returned v ∧ (Below w0.heap.size w0 w' ∧ ∃ F0, ∃ u0 u1, v = .tuple #[u0, u1] ∧ VO w' F0 u0 r.1 ∧ VR w' (St ⟨w0, []⟩ S [] [] [] true) u1 r.2 ∧ New w0 w' F0) := by
 obtain ⟨A, c, A2, c2, rfl, hl, hl2⟩ := Network_open h0
 obtain ⟨A3, c3, rfl, hl3⟩ := Route_open h1
 have H := Mem.start ⟨w0, []⟩ S
 have H := H.pA hl
 have H := H.pA hl2
 have H := H.pA hl3
 refine en Tryz.func74 fun a hf => ?_
 rw [spec_l4Walk] at hF
 refine bx hf H fun b' a w hf H => ?_
 refine wl0 rfl (op_box hf H rfl rfl (by decide) fun b2 a w hf H => ?_)
 refine pz 2 hf fun a hf => ?_
 refine wr (pz 1 hf fun a hf => ?_)
 refine lB 0 hf H TF.ls3 fun a hf => ?_
 refine wl0 rfl (bl hf H 3 ([r'.Start] : List Int) [(.int .i64 r'.Start)] (el1 (y := r'.Start) (rfl)) fun A4 a w hf H => ?_)
 refine pz 1 hf fun a hf => ?_
 refine wl_end (then_n (sq (sq ?_)))
 obtain ⟨c4, hGc4, hF⟩ := bs_ hF
 have fh := hf.prune [2, 3, 6] rfl
 have Hm := H.lm 3 1 0 3 7
 refine midF 25 (.bool c4) fh Hm ?_ fun a w hf H => ?_
 ·refine reg (pz 1 hf fun a hf => ?_)
  refine lB 0 hf H TF.ls3 fun a hf => ?_
  refine pz 1 hf fun a hf => ?_
  refine lB 1 hf H TF.ls24 fun a hf => ?_
  refine pz 2 hf fun a hf => ?_
  obtain ⟨y, hy, hGc4⟩ := bs_ hGc4
  refine oc hf TF.cl65 (spec_l1In_ok (S := TT) mk_int mk_int mk_int hy) fun v w a hp hf => ?_
  obtain ⟨hb, hp⟩ := hp
  obtain rfl := VR_bool hp
  have H := H.keep hb
  refine pz 2 hf fun a hf => ?_
  refine iteB hGc4 (fun hc hGc4 => ?_) fun hc hGc4 => ?_
  ·have hf := hf.lit 20 rfl hc
   refine pz 5 hf fun a hf => ?_
   obtain rfl := oi hGc4
   have hf := hf.pn [25, 2, 3, 6]
   have H := H.lm 3 1 0 3 7
   exact wl_end ⟨hf, H⟩
  ·have hf := hf.lit 20 rfl hc
   refine pz 1 hf fun a hf => ?_
   refine wlg hf rfl rfl rfl (op_q hf (rq_loadB hf H TF.ls28 0 rfl rfl rfl) rfl (by decide) fun a hf => ?_)
   refine pz 3 hf fun a hf => ?_
   obtain rfl := oi hGc4
   have hf := hf.pn [25, 2, 3, 6]
   have H := H.lm 3 1 0 3 7
   exact wl_end ⟨hf, H⟩
 refine then_n (ib hF hf (fun hc2 hF => ?_) fun hc2 hF => ?_)
 ·refine sqz (pz 3 hf fun a hf => ?_)
  refine wl_end (then_n (wp_ret (then_r (?_))))
  have H := H.rowOwn 0 rfl rfl
  obtain ⟨F, H⟩ := H.freezeOwn 0 rfl
  have H := H.lend 0 rfl
  obtain rfl := oi hF
  refine ret_2 hf rfl (rv_tmp hf rfl) (rv_tmp hf rfl) ?_
  have hN := H.ends1
  exact ⟨_, rfl, H.bel, F, _, _, rfl, (mko_list (H.ownAt 0 rfl)), mk_bool, by first | exact hN | simpa using hN⟩
 ·refine wp_skip (then_n (sq (sqz (pz 1 hf fun a hf => ?_))))
  refine wl_end (then_n ?_)
  obtain ⟨out2, hB1, hF⟩ := bs_ hF
  have hf := hf.pn [2, 3, 6, 7]
  have H := H.lm 3 1 0 3 7
  refine loopC (fun (s : List Int × Int) (a : Act) (w : World) => match s with | (out', i) => ∃ (A5 : Option Addr) (c5 : Nat) (E : Go.TypeId), Fr a 72 [(2, (.pointer (some ⟨b', 0, none⟩))), (3, (.pointer (some ⟨b2, 0, none⟩))), (6, (.slice A5 out'.length c5)), (7, (.int .i64 i))] ∧ Mem ⟨w0, []⟩ S [⟨b2, 30, [(.int .i64 r'.Start), (.slice A3 r'.Fibers.length c3)]⟩, ⟨b', 27, [(.slice A n'.Nodes.length c), (.slice A2 n'.Fibers.length c2)]⟩] [⟨.sh true, E, A5, c5, (out' : List Int)⟩] [] [(false, MP.val [(.slice A3 r'.Fibers.length c3)] (r'.Fibers : List Int)), (false, MP.val [(.slice A2 n'.Fibers.length c2)] (n'.Fibers : List Fiber)), (false, MP.val [(.slice A n'.Nodes.length c)] (n'.Nodes : List ByteArray))] w) (fun k (s : List Int × Int) => spec_l4Walk_L1 fu n' r' k s.1 s.2 = some out2) (fun s => out2 = Out.next s) ([r'.Start], 0) fu hB1 ⟨A4, 1, 3, hf, H⟩ (fun s h => by cases h) ?_ ?_
  ·rintro fk ⟨out', i⟩ a w hR1 hI
   replace hR1 : spec_l4Walk_L1 fu n' r' (fk + 1) out' i = some out2 := hR1
   rw [spec_l4Walk_L1] at hR1
   obtain ⟨A5, c5, E, hf, H⟩ := hI
   refine sq (sqz (pz 2 hf fun a hf => ?_))
   refine lB 0 hf H TF.ls28 fun a hf => ?_
   refine pz 2 hf fun a hf => ?_
   refine wl_end (then_n (ib hR1 hf (fun hc3 hR1 => ?_) fun hc3 hR1 => ?_))
   ·refine wp_skip (then_n (sq (wp_block (sq (sq (dw [] 11 fun w hb => ?_))))))
    have H := H.keep hb
    refine zp 0 hf trivial fun a hf => ?_
    refine strT (H.lk 1 0 0 []) (fun w H => trivial) fun hS => ?_
    refine zS 1 [] rfl rfl rfl rfl hf hS (fun w H => rq_loadB hf H TF.ls28 0 rfl rfl rfl) fun a hf => ?_
    refine zp 2 hf hS fun a hf => ?_
    obtain ⟨e, he, hR1⟩ := bs_ hR1
    obtain ⟨p, o, cs, hx, hr, H⟩ := pre_iaddr H Tryz.underlying28 TF.sz3 0 rfl he
    refine zP 3 rfl rfl rfl rfl hf hS (fun w => rq_iaddrE hf rfl rfl rfl hx w) fun a hf => ?_
    obtain rfl := hr
    refine strT (H.lk 1 0 0 [0]) (fun w H => H.lk 1 0 0 []) fun hS => ?_
    refine zS 4 [] rfl rfl rfl rfl hf hS (fun w H => rq_loadI hf H TF.ls3 0 0 rfl rfl rfl) fun a hf => ?_
    refine zp 5 hf hS fun a hf => ?_
    refine strT (H.lk 3 0 0 [0]) (fun w H => H.lk 1 0 0 [0]) fun hS => ?_
    refine zS 6 [] rfl rfl rfl rfl hf hS (fun w H => rq_loadB hf H TF.ls25 1 rfl rfl rfl) fun a hf => ?_
    refine zp 7 hf hS fun a hf => ?_
    refine zp 8 hf hS fun a hf => ?_
    obtain ⟨y2, hy2, hR1⟩ := bs_ hR1
    refine nn 9 rfl (oC hf TF.cl65 (spec_l1In_ok (S := TT) mk_int mk_int mk_int hy2) fun v2 w a hp2 hf => ?_)
    obtain ⟨hb2, hp2⟩ := hp2
    obtain rfl := VR_bool hp2
    have H := H.keep hb2
    have hS := H.lk 3 0 0 [0]
    refine aS hS ?_
    refine zp 10 hf hS fun a hf => ?_
    refine dk ?_
    have hf := hf.pn [2, 3, 6, 7, 44]
    refine then_n (ib hR1 hf (fun hc4 hR1 => ?_) fun hc4 hR1 => ?_)
    ·refine sqz (pz 3 hf fun a hf => ?_)
     refine wl_end (then_n (wp_ret (then_r (blk_r (then_r (then_r (blk_r (then_r (then_r (?_))))))))))
     have H := H.rowOwn 0 rfl rfl
     obtain ⟨F2, H⟩ := H.freezeOwn 0 rfl
     have H := H.lend 0 rfl
     obtain rfl := oi hR1
     replace hF := on_ret hF
     obtain rfl := oi hF
     refine ret_2 hf rfl (rv_tmp hf rfl) (rv_tmp hf rfl) ?_
     have hN := H.ends1
     exact ⟨_, rfl, H.bel, F2, _, _, rfl, (mko_list (H.ownAt 0 rfl)), mk_bool, by first | exact hN | simpa using hN⟩
    ·refine wp_skip (then_n (sq (dw [] 14 fun w hb => ?_)))
     have H := H.keep hb
     refine strT (H.lk 2 0 0 []) (fun w H => trivial) fun hS => ?_
     refine zS 0 [] rfl rfl rfl rfl hf hS (fun w H => rq_loadBN hf H TF.la27 0 rfl rfl rfl rfl) fun a hf => ?_
     refine zp 1 hf hS fun a hf => ?_
     refine strT (H.lk 3 0 0 []) (fun w H => H.lk 2 0 0 []) fun hS => ?_
     refine zS 2 [] rfl rfl rfl rfl hf hS (fun w H => rq_loadB hf H TF.ls28 0 rfl rfl rfl) fun a hf => ?_
     refine zp 3 hf hS fun a hf => ?_
     obtain ⟨e2, he2, hR1⟩ := bs_ hR1
     obtain ⟨p2, o2, cs2, hx2, hr2, H⟩ := pre_iaddr H Tryz.underlying28 TF.sz3 1 rfl he2
     refine zP 4 rfl rfl rfl rfl hf hS (fun w => rq_iaddrE hf rfl rfl rfl hx2 w) fun a hf => ?_
     obtain rfl := hr2
     refine strT (H.lk 3 0 0 [0]) (fun w H => H.lk 3 0 0 []) fun hS => ?_
     refine zS 5 [] rfl rfl rfl rfl hf hS (fun w H => rq_loadI hf H TF.ls3 0 0 rfl rfl rfl) fun a hf => ?_
     refine zp 6 hf hS fun a hf => ?_
     refine zp 7 hf hS fun a hf => ?_
     refine zp 8 hf hS fun a hf => ?_
     refine zp 9 hf hS fun a hf => ?_
     obtain ⟨e3, he3, hR1⟩ := bs_ hR1
     obtain ⟨p3, o3, hA, hx3⟩ := pre_iaddrR H Tryz.underlying28 TF.sz3 0 rfl he3
     refine zP 10 rfl rfl rfl rfl hf hS (fun w => rq_iaddrE hf rfl rfl rfl hx3 w) fun a hf => ?_
     refine strT (H.lk 3 1 0 [0]) (fun w H => H.lk 3 0 0 [0]) fun hS => ?_
     refine zS 11 [] rfl rfl rfl rfl hf hS (fun w H => rq_loadRow (off := 0) hf H TF.ls3 0 rfl rfl hA he3 (fun w T cs h => by obtain rfl := h; rfl)) fun a hf => ?_
     obtain ⟨y3, hy3, hR1⟩ := bs_ hR1
     refine nn 12 rfl (oC hf TF.cl111 (spec_l2Other_ok (S := TT) (Network_mkv (x := n') (H.rt 4 rfl) (H.rt 3 rfl)) mk_int mk_int hy3) fun v3 w a hp3 hf => ?_)
     obtain ⟨hb3, hp3⟩ := hp3
     obtain rfl := VR_int hp3
     have H := H.keep hb3
     have hS := H.lk 3 1 0 [0]
     refine aS hS ?_
     refine zp 13 hf hS fun a hf => ?_
     refine dk ?_
     have hf := hf.pn [2, 3, 6, 7, 8]
     refine then_n (sq (sq ?_))
     obtain ⟨c6, hGc6, hR1⟩ := bs_ hR1
     have fh2 := hf.prune [2, 3, 6, 7, 8] rfl
     have Hm2 := H.lm 3 1 0 5 28
     refine midF 65 (.bool c6) fh2 Hm2 ?_ fun a w hf H => ?_
     ·refine reg (pz 3 hf fun a hf => ?_)
      refine iteB hGc6 (fun hc5 hGc6 => ?_) fun hc5 hGc6 => ?_
      ·have hf := hf.lit 61 rfl hc5
       refine pz 4 hf fun a hf => ?_
       obtain rfl := oi hGc6
       have hf := hf.pn [65, 2, 3, 6, 7, 8]
       have H := H.lm 3 1 0 5 28
       exact wl_end ⟨hf, H⟩
      ·have hf := hf.lit 61 rfl hc5
       refine pz 2 hf fun a hf => ?_
       obtain ⟨y4, hy4, hGc6⟩ := bs_ hGc6
       refine wlg hf rfl rfl rfl (oC hf TF.cl112 (spec_l1Has_ok (S := TT) (mk_list (H.rowTrue 0 rfl)) mk_int hy4) fun v4 w a hp4 hf => ?_)
       obtain ⟨hb4, hp4⟩ := hp4
       obtain rfl := VR_bool hp4
       have H := H.keep hb4
       refine pz 1 hf fun a hf => ?_
       obtain rfl := oi hGc6
       have hf := hf.pn [65, 2, 3, 6, 7, 8]
       have H := H.lm 3 1 0 5 28
       exact wl_end ⟨hf, H⟩
     refine then_n (ib hR1 hf (fun hc6 hR1 => ?_) fun hc6 hR1 => ?_)
     ·refine sqz (pz 3 hf fun a hf => ?_)
      refine wl_end (then_n (wp_ret (then_r (blk_r (then_r (then_r (blk_r (then_r (then_r (?_))))))))))
      have H := H.rowOwn 0 rfl rfl
      obtain ⟨F3, H⟩ := H.freezeOwn 0 rfl
      have H := H.lend 0 rfl
      obtain rfl := oi hR1
      replace hF := on_ret hF
      obtain rfl := oi hF
      refine ret_2 hf rfl (rv_tmp hf rfl) (rv_tmp hf rfl) ?_
      have hN := H.ends1
      exact ⟨_, rfl, H.bel, F3, _, _, rfl, (mko_list (H.ownAt 0 rfl)), mk_bool, by first | exact hN | simpa using hN⟩
     ·refine wp_skip (then_n (reg (pz 2 hf fun a hf => ?_)))
      refine wl0 rfl (bl hf H 3 ([y3] : List Int) [(.int .i64 y3)] (el1 (y := y3) (rfl)) fun A6 a w hf H => ?_)
      obtain ⟨l, hl_, hR1⟩ := bs_ hR1
      refine wl0 rfl (op_appR hf H Tryz.underlying28 TF.ai3 rfl (by decide) 1 0 rfl rfl rfl rfl (.inr rfl) hl_ (by decide) fun E2 A7 c7 a w hf H => ?_)
      refine pz 1 hf fun a hf => ?_
      refine wl_end (blk_n (then_n (reg (pz 3 hf fun a hf => ?_))))
      refine wl_end ?_
      have hf := hf.pn [2, 3, 6, 7]
      have H := H.lm 3 2 0 3 7
      exact then_n ⟨(l, w64 (i + 1)), hR1, A7, c7, E2, hf, H⟩
   ·refine wp_exit (then_x (then_x (blk_e (?_))))
    have hf := hf.pn [2, 3, 6, 7]
    have H := H.lm 3 1 0 3 7
    exact ⟨(out', i), (Option.some.inj hR1).symm, A5, c5, E, hf, H⟩
  rintro a w ⟨⟨out3, i2⟩, rfl, A8, c8, E3, hf, H⟩
  replace hF := on_next hF
  try dsimp only at hF
  refine then_n (sqz (pz 3 hf fun a hf => ?_))
  refine wer ?_
  have H := H.rowOwn 0 rfl rfl
  obtain ⟨F4, H⟩ := H.freezeOwn 0 rfl
  have H := H.lend 0 rfl
  obtain rfl := oi hF
  refine ret_2 hf rfl (rv_tmp hf rfl) (rv_tmp hf rfl) ?_
  have hN := H.ends1
  exact ⟨_, rfl, H.bel, F4, _, _, rfl, (mko_list (H.ownAt 0 rfl)), mk_bool, by first | exact hN | simpa using hN⟩
theorem spec_l4Good_ok {S : Nat → Prop} {v0_ : Value} {v1_ : Value} {n' : Network} {r' : Route} {r : Bool} (h0 : VR w0 S v0_ n') (h1 : VR w0 S v1_ r') (hF : spec_l4Good fu n' r' = some r) :
    Calls Tryz.prog 37 [v0_, v1_].toArray w0 fun e w' => ∃ v, e = .returned v ∧ (Below w0.heap.size w0 w' ∧ VR w' (St ⟨w0, []⟩ S [] [] [] true) v r) := by
 obtain ⟨A, c, A2, c2, rfl, hl, hl2⟩ := Network_open h0
 obtain ⟨A3, c3, rfl, hl3⟩ := Route_open h1
 have H := Mem.start ⟨w0, []⟩ S
 have H := H.pA hl
 have H := H.pA hl2
 have H := H.pA hl3
 refine en Tryz.func37 fun a hf => ?_
 rw [spec_l4Good] at hF
 refine bx hf H fun b' a w hf H => ?_
 refine wl0 rfl (op_box hf H rfl rfl (by decide) fun b2 a w hf H => ?_)
 refine pz 1 hf fun a hf => ?_
 refine wl_end (then_n (sq (sq (reg (lN 1 hf H TF.la27 fun a hf => ?_)))))
 obtain ⟨y, hy, hF⟩ := bs_ hF
 refine oc hf TF.cl32 (spec_l2Good_ok (S := TT) (Network_mkv (x := n') (H.rt 2 rfl) (H.rt 1 rfl)) hy) fun v w a hp hf => ?_
 obtain ⟨hb, hp⟩ := hp
 obtain rfl := VR_bool hp
 have H := H.keep hb
 refine pz 1 hf fun a hf => ?_
 refine wl_end (then_n (ib hF hf (fun hc hF => ?_) fun hc hF => ?_))
 ·refine sqz (pz 1 hf fun a hf => ?_)
  refine wl_end (then_n (wp_ret (then_r (?_))))
  obtain rfl := oi hF
  refine rT hf ?_
  exact ⟨_, rfl, H.bel, mk_bool⟩
 ·refine wp_skip (then_n (sq (reg (lN 1 hf H TF.la27 fun a hf => ?_))))
  refine lN 0 hf H TF.la30 fun a hf => ?_
  obtain ⟨y2, hy2, hF⟩ := bs_ hF
  refine oc hf TF.cl74 (spec_l4Walk_ok (S := TT) (Network_mkv (x := n') (H.rt 2 rfl) (H.rt 1 rfl)) (Route_mkv (x := r') (H.rt 0 rfl)) hy2) fun v2 w a hp2 hf => ?_
  obtain ⟨hb2, F, v3, v4, rfl, hp3, hp4, hN⟩ := hp2
  obtain ⟨A4, c4, rfl, hl4⟩ := VO_list hp3
  obtain rfl := VR_bool hp4
  have H := H.aO1 hb2 hN hl4
  have H := H.lend 0 rfl
  refine pz 5 hf fun a hf => ?_
  have hf := hf.pn [6]
  refine wr (pz 2 hf fun a hf => ?_)
  refine wer ?_
  obtain rfl := oi hF
  refine rT hf ?_
  exact ⟨_, rfl, H.bel, mk_bool⟩
theorem spec_IsValidRoute_ok {S : Nat → Prop} {v0_ : Value} {v1_ : Value} {n' : Network} {r' : Route} {r : Bool} (h0 : VR w0 S v0_ n') (h1 : VR w0 S v1_ r') (hF : spec_IsValidRoute fu n' r' = some r) :
    Calls Tryz.prog 12 [v0_, v1_].toArray w0 fun e w' => ∃ v, e = .returned v ∧ (Below w0.heap.size w0 w' ∧ VR w' (St ⟨w0, []⟩ S [] [] [] true) v r) := by
 obtain ⟨A, c, A2, c2, rfl, hl, hl2⟩ := Network_open h0
 obtain ⟨A3, c3, rfl, hl3⟩ := Route_open h1
 have H := Mem.start ⟨w0, []⟩ S
 have H := H.pA hl
 have H := H.pA hl2
 have H := H.pA hl3
 refine en Tryz.func12 fun a hf => ?_
 rw [spec_IsValidRoute] at hF
 refine bx hf H fun b' a w hf H => ?_
 refine wl0 rfl (op_box hf H rfl rfl (by decide) fun b2 a w hf H => ?_)
 refine pz 1 hf fun a hf => ?_
 refine wr (lN 1 hf H TF.la27 fun a hf => ?_)
 refine lN 0 hf H TF.la30 fun a hf => ?_
 obtain ⟨y, hy, hF⟩ := bs_ hF
 refine oc hf TF.cl37 (spec_l4Good_ok (S := TT) (Network_mkv (x := n') (H.rt 2 rfl) (H.rt 1 rfl)) (Route_mkv (x := r') (H.rt 0 rfl)) hy) fun v w a hp hf => ?_
 obtain ⟨hb, hp⟩ := hp
 obtain rfl := VR_bool hp
 have H := H.keep hb
 refine pz 1 hf fun a hf => ?_
 refine wer ?_
 obtain rfl := oi hF
 refine rT hf ?_
 exact ⟨_, rfl, H.bel, mk_bool⟩
theorem laws_vInts_ok {S : Nat → Prop} {v0_ : Value} {v1_ : Value} {a' : List Int} {b' : List Int} {r : Bool} (h0 : VR w0 S v0_ a') (h1 : VR w0 S v1_ b') (hF : laws_vInts fu a' b' = some r) :
    Calls Tryz.prog 38 [v0_, v1_].toArray w0 fun e w' => ∃ v, e = .returned v ∧ (Below w0.heap.size w0 w' ∧ VR w' (St ⟨w0, []⟩ S [] [] [] true) v r) := by
 obtain ⟨A, c, rfl, hl⟩ := VR_list h0
 obtain ⟨A2, c2, rfl, hl2⟩ := VR_list h1
 have H := Mem.start ⟨w0, []⟩ S
 have H := H.pA hl
 have H := H.pA hl2
 refine en Tryz.func38 fun a hf => ?_
 rw [laws_vInts] at hF
 refine sqz (pz 1 hf fun a hf => ?_)
 refine we (sqz (pz 5 hf fun a hf => ?_))
 refine wl_end (then_n (ib hF hf (fun hc hF => ?_) fun hc hF => ?_))
 ·refine sqz (pz 1 hf fun a hf => ?_)
  refine wl_end (then_n (wp_ret (then_r (?_))))
  obtain rfl := oi hF
  refine rT hf ?_
  exact ⟨_, rfl, H.bel, mk_bool⟩
 ·refine wp_skip (then_n (sq (sqz (pz 1 hf fun a hf => ?_))))
  refine wl_end (then_n ?_)
  obtain ⟨out', hB1, hF⟩ := bs_ hF
  have hf := hf.pn [0, 1, 5]
  have H := H.lk 0 0 0 [0,1]
  refine loopC (fun (s : Int) (a : Act) (w : World) => match s with | i => Fr a 26 [(0, (.slice A a'.length c)), (1, (.slice A2 b'.length c2)), (5, (.int .i64 i))] ∧ Mem ⟨w0, []⟩ S [] [] [] [(false, MP.val [(.slice A2 b'.length c2)] (b' : List Int)), (false, MP.val [(.slice A a'.length c)] (a' : List Int))] w) (fun k (s : Int) => laws_vInts_L1 fu a' b' k s = some out') (fun s => out' = Out.next s) 0 fu hB1 ⟨hf, H⟩ (fun s h => by cases h) ?_ ?_
  ·rintro fk i a w hR1 hI
   replace hR1 : laws_vInts_L1 fu a' b' (fk + 1) i = some out' := hR1
   rw [laws_vInts_L1] at hR1
   obtain ⟨hf, H⟩ := hI
   refine sq (sqz (pz 4 hf fun a hf => ?_))
   refine wl_end (then_n (ib hR1 hf (fun hc2 hR1 => ?_) fun hc2 hR1 => ?_))
   ·refine wp_skip (then_n (sq (wp_block (sq (dw [] 9 fun w hb => ?_)))))
    have H := H.keep hb
    refine zp 0 hf trivial fun a hf => ?_
    refine zp 1 hf trivial fun a hf => ?_
    obtain ⟨e, he, hR1⟩ := bs_ hR1
    obtain ⟨p, o, cs, hx, hr, H⟩ := pre_iaddr H Tryz.underlying28 TF.sz3 1 rfl he
    refine tP 2 rfl rfl rfl rfl hf (by kernel_rfl) (fun _ => trivial) (fun w => rq_iaddrE hf rfl rfl rfl hx w) fun a hf => ?_
    obtain rfl := hr
    refine strT (H.lk 0 0 0 [0]) (fun w H => trivial) fun hS => ?_
    refine zS 3 [] rfl rfl rfl rfl hf hS (fun w H => rq_loadI hf H TF.ls3 0 0 rfl rfl rfl) fun a hf => ?_
    refine zp 4 hf hS fun a hf => ?_
    refine zp 5 hf hS fun a hf => ?_
    obtain ⟨e2, he2, hR1⟩ := bs_ hR1
    obtain ⟨p2, o2, cs2, hx2, hr2, H⟩ := pre_iaddr H Tryz.underlying28 TF.sz3 1 rfl he2
    refine zP 6 rfl rfl rfl rfl hf hS (fun w => rq_iaddrE hf rfl rfl rfl hx2 w) fun a hf => ?_
    obtain rfl := hr2
    refine strT (H.lk 0 0 0 [0,1]) (fun w H => H.lk 0 0 0 [1]) fun hS => ?_
    refine zS 7 [] rfl rfl rfl rfl hf hS (fun w H => rq_loadI hf H TF.ls3 0 0 rfl rfl rfl) fun a hf => ?_
    refine zp 8 hf hS fun a hf => ?_
    refine dk ?_
    refine then_n (ib hR1 hf (fun hc3 hR1 => ?_) fun hc3 hR1 => ?_)
    ·refine sqz (pz 1 hf fun a hf => ?_)
     have hf := hf.pn [4]
     refine wl_end (then_n (wp_ret (blk_r (then_r (then_r (blk_r (then_r (then_r (?_)))))))))
     obtain rfl := oi hR1
     replace hF := on_ret hF
     obtain rfl := oi hF
     refine rT hf ?_
     exact ⟨_, rfl, H.bel, mk_bool⟩
    ·refine wp_skip (blk_n (then_n (reg (pz 3 hf fun a hf => ?_))))
     have hf := hf.pn [0, 1, 5]
     refine wl_end ?_
     have hf := hf.pn [0, 1, 5]
     have H := H.lk 0 0 0 [2,3]
     exact then_n ⟨w64 (i + 1), hR1, hf, H⟩
   ·refine wp_exit (then_x (then_x (blk_e (?_))))
    have hf := hf.pn [0, 1, 5]
    have H := H.lk 0 0 0 [0,1]
    exact ⟨i, (Option.some.inj hR1).symm, hf, H⟩
  rintro a w ⟨i2, rfl, hf, H⟩
  replace hF := on_next hF
  refine then_n (sqz (pz 1 hf fun a hf => ?_))
  refine wer ?_
  obtain rfl := oi hF
  refine rT hf ?_
  exact ⟨_, rfl, H.bel, mk_bool⟩
theorem laws_vRoutes_ok {S : Nat → Prop} {v0_ : Value} {v1_ : Value} {a' : Route} {b' : Route} {r : Bool} (h0 : VR w0 S v0_ a') (h1 : VR w0 S v1_ b') (hF : laws_vRoutes fu a' b' = some r) :
    Calls Tryz.prog 13 [v0_, v1_].toArray w0 fun e w' => ∃ v, e = .returned v ∧ (Below w0.heap.size w0 w' ∧ VR w' (St ⟨w0, []⟩ S [] [] [] true) v r) := by
 obtain ⟨A, c, rfl, hl⟩ := Route_open h0
 obtain ⟨A2, c2, rfl, hl2⟩ := Route_open h1
 have H := Mem.start ⟨w0, []⟩ S
 have H := H.pA hl
 have H := H.pA hl2
 refine en Tryz.func13 fun a hf => ?_
 rw [laws_vRoutes] at hF
 refine bx hf H fun b2 a w hf H => ?_
 refine wl0 rfl (op_box hf H rfl rfl (by decide) fun b3 a w hf H => ?_)
 refine pz 1 hf fun a hf => ?_
 refine wl_end (then_n (sq ?_))
 obtain ⟨c3, hGc3, hF⟩ := bs_ hF
 have fh := hf.prune [] rfl
 have Hm := H.lk 0 0 0 []
 refine midF 4 (.bool c3) fh Hm ?_ fun a w hf H => ?_
 ·refine reg (pz 1 hf fun a hf => ?_)
  refine lB 1 hf H TF.ls3 fun a hf => ?_
  refine pz 1 hf fun a hf => ?_
  refine lB 0 hf H TF.ls3 fun a hf => ?_
  refine pz 2 hf fun a hf => ?_
  refine iteB hGc3 (fun hc hGc3 => ?_) fun hc hGc3 => ?_
  ·have hf := hf.lit 10 rfl hc
   refine pz 1 hf fun a hf => ?_
   refine wlg hf rfl rfl rfl (op_q hf (rq_loadB hf H TF.ls28 1 rfl rfl rfl) rfl (by decide) fun a hf => ?_)
   refine pz 1 hf fun a hf => ?_
   refine wlg hf rfl rfl rfl (op_q hf (rq_loadB hf H TF.ls28 0 rfl rfl rfl) rfl (by decide) fun a hf => ?_)
   obtain ⟨y, hy, hGc3⟩ := bs_ hGc3
   refine wlg hf rfl rfl rfl (oC hf TF.cl38 (laws_vInts_ok (S := TT) (mk_list (H.rt 1 rfl)) (mk_list (H.rt 0 rfl)) hy) fun v w a hp hf => ?_)
   obtain ⟨hb, hp⟩ := hp
   obtain rfl := VR_bool hp
   have H := H.keep hb
   refine pz 2 hf fun a hf => ?_
   obtain rfl := oi hGc3
   have hf := hf.pn [4]
   have H := H.lk 0 0 0 []
   exact wl_end ⟨hf, H⟩
  ·have hf := hf.lit 10 rfl hc
   refine pz 7 hf fun a hf => ?_
   obtain rfl := oi hGc3
   have hf := hf.pn [4]
   have H := H.lk 0 0 0 []
   exact wl_end ⟨hf, H⟩
 refine then_n (wp_ret (?_))
 obtain rfl := oi hF
 refine rT hf ?_
 exact ⟨_, rfl, H.bel, mk_bool⟩
theorem spec_l1Cur_block_ok {S : Nat → Prop} {b0 : Nat} {cs0 : List Value} {c : L1CurP} {r : Block × L1CurP} (hp0 : w0.heap[b0]? = some (.cells cs0.toArray 87 (0, 0))) (hr0 : GoTy.rep w0 S cs0 c) (hS0 : ¬ S b0) (hF : spec_l1Cur_block fu c = some r) :
    Calls Tryz.prog 76 [(.pointer (some ⟨b0, 0, none⟩))].toArray w0 fun e w' => ∃ v, e = .returned v ∧ (Chg w0 w' [b0] ∧ ∃ cs', w'.heap[b0]? = some (.cells cs'.toArray 87 (0, 0)) ∧ GoTy.rep w' (St ⟨w0, [b0]⟩ S [⟨b0, 87, cs'⟩] [] [] false) cs' r.2 ∧ (cs'[0]? = cs0[0]? ∧ r.2.code = c.code) ∧ VR w' (St ⟨w0, [b0]⟩ S [⟨b0, 87, cs'⟩] [] [] true) v r.1) := by
 obtain ⟨A, c2, rfl, hl⟩ := L1CurP_cells hr0
 have H := Mem.startB S hp0
 have H := H.pB hS0 hl
 refine en Tryz.func76 fun a hf => ?_
 rw [spec_l1Cur_block] at hF
 refine sq (reg (aL hf H TF.zv45 fun b2 a w hf H => ?_))
 refine we (sqz (pz 1 hf fun a hf => ?_))
 obtain ⟨y, hy, hF⟩ := bs_ hF
 refine oc hf TF.cl51 (spec_l1Cur_one_ok (S := NB b0) (H.boxAt 1 rfl) ((L1CurP_mk (x := c) (H.nb 1 rfl (H.get 0 rfl)))) (fun h => h rfl) mk_int hy) fun v w a hp2 hf => ?_
 obtain ⟨hch, cs2, hbx, hr2, ⟨hx, hx2⟩, hs⟩ := hp2
 obtain rfl := VR_bool hs
 obtain ⟨A2, c3, rfl, hl2⟩ := L1CurP_cells hr2
 obtain ⟨rfl, rfl⟩ := fx_slice hx rfl rfl
 have H := H.wroteBox 1 rfl hch hbx
 have H := H.pX 0 rfl hx2
 refine wl_end (then_n (ib hF hf (fun hc hF => ?_) fun hc hF => ?_))
 ·refine sqz (pz 1 hf fun a hf => ?_)
  obtain ⟨y2, hy2, hF⟩ := bs_ hF
  refine oc hf TF.cl75 (spec_l1Cur_pick_ok (S := NB b0) (H.boxAt 1 rfl) ((L1CurP_mk (x := y.2) (H.nb 1 rfl (H.get 0 rfl)))) (fun h => h rfl) mk_int hy2) fun v2 w a hp3 hf => ?_
  obtain ⟨hch2, cs3, hbx2, hr3, ⟨hx3, hx4⟩, hs2⟩ := hp3
  obtain rfl := VR_int hs2
  obtain ⟨A3, c4, rfl, hl3⟩ := L1CurP_cells hr3
  obtain ⟨rfl, rfl⟩ := fx_slice hx3 rfl rfl
  have hx5 := hx4.trans hx2
  have H := H.wroteBox 1 rfl hch2 hbx2
  have H := H.pX 0 rfl hx4
  refine pz 2 hf fun a hf => ?_
  obtain ⟨y3, hy3, hF⟩ := bs_ hF
  refine oc hf TF.cl75 (spec_l1Cur_pick_ok (S := NB b0) (H.boxAt 1 rfl) ((L1CurP_mk (x := y2.2) (H.nb 1 rfl (H.get 0 rfl)))) (fun h => h rfl) mk_int hy3) fun v3 w a hp4 hf => ?_
  obtain ⟨hch3, cs4, hbx3, hr4, ⟨hx6, hx7⟩, hs3⟩ := hp4
  obtain rfl := VR_int hs3
  obtain ⟨A4, c5, rfl, hl4⟩ := L1CurP_cells hr4
  obtain ⟨rfl, rfl⟩ := fx_slice hx6 rfl rfl
  have hx8 := hx7.trans hx5
  have H := H.wroteBox 1 rfl hch3 hbx3
  have H := H.pX 0 rfl hx7
  refine pz 1 hf fun a hf => ?_
  refine oq hf (rq_build hf (cs := [(.int .i64 (w64 (y2.1 - 1))), (.int .i64 (w64 (y3.1 - 1)))]) rfl (fun w => by kernel_rfl)) fun a hf => ?_
  refine sB 0 hf H TF.sz45 fun w H => ?_
  refine wl_end (then_n (wp_ret (then_r (?_))))
  obtain rfl := oi hF
  refine ret_1 hf rfl (rv_cellN hf H 0 TF.la45 rfl rfl rfl) ?_
  exact ⟨_, rfl, H.chg, _, H.boxAt 1 rfl, (L1CurP_mk (x := y3.2) (eB 1 (H.get 0 rfl))), ⟨fxc hx8, hx8⟩, Block_mkv⟩
 ·refine wp_skip (then_n (sqz (pz 1 hf fun a hf => ?_)))
  obtain ⟨y4, hy4, hF⟩ := bs_ hF
  refine oc hf TF.cl75 (spec_l1Cur_pick_ok (S := NB b0) (H.boxAt 1 rfl) ((L1CurP_mk (x := y.2) (H.nb 1 rfl (H.get 0 rfl)))) (fun h => h rfl) mk_int hy4) fun v4 w a hp5 hf => ?_
  obtain ⟨hch4, cs5, hbx4, hr5, ⟨hx9, hx10⟩, hs4⟩ := hp5
  obtain rfl := VR_int hs4
  obtain ⟨A5, c6, rfl, hl5⟩ := L1CurP_cells hr5
  obtain ⟨rfl, rfl⟩ := fx_slice hx9 rfl rfl
  have hx11 := hx10.trans hx2
  have H := H.wroteBox 1 rfl hch4 hbx4
  have H := H.pX 0 rfl hx10
  refine pz 2 hf fun a hf => ?_
  refine wr (pz 4 hf fun a hf => ?_)
  obtain ⟨y5, hy5, hF⟩ := bs_ hF
  refine oc hf TF.cl75 (spec_l1Cur_pick_ok (S := NB b0) (H.boxAt 1 rfl) ((L1CurP_mk (x := y4.2) (H.nb 1 rfl (H.get 0 rfl)))) (fun h => h rfl) mk_int hy5) fun v5 w a hp6 hf => ?_
  obtain ⟨hch5, cs6, hbx5, hr6, ⟨hx12, hx13⟩, hs5⟩ := hp6
  obtain rfl := VR_int hs5
  obtain ⟨A6, c7, rfl, hl6⟩ := L1CurP_cells hr6
  obtain ⟨rfl, rfl⟩ := fx_slice hx12 rfl rfl
  have hx14 := hx13.trans hx11
  have H := H.wroteBox 1 rfl hch5 hbx5
  have H := H.pX 0 rfl hx13
  refine pz 1 hf fun a hf => ?_
  refine oq hf (rq_build hf (cs := [(.int .i64 y5.1), (.int .i64 (w64 (1 + y4.1)))]) rfl (fun w => by kernel_rfl)) fun a hf => ?_
  refine sB 0 hf H TF.sz45 fun w H => ?_
  have hf := hf.pn [2]
  refine wer ?_
  obtain rfl := oi hF
  refine ret_1 hf rfl (rv_cellN hf H 0 TF.la45 rfl rfl rfl) ?_
  exact ⟨_, rfl, H.chg, _, H.boxAt 1 rfl, (L1CurP_mk (x := y5.2) (eB 1 (H.get 0 rfl))), ⟨fxc hx14, hx14⟩, Block_mkv⟩
theorem spec_DrawIsValidBlock_ok {S : Nat → Prop} {v0_ : Value} {code : List By} {r : Block} (h0 : VR w0 S v0_ code) (hF : spec_DrawIsValidBlock fu code = some r) :
    Calls Tryz.prog 39 [v0_].toArray w0 fun e w' => ∃ v, e = .returned v ∧ (Below w0.heap.size w0 w' ∧ VR w' (St ⟨w0, []⟩ S [] [] [] true) v r) := by
 obtain ⟨A, c, rfl, hl⟩ := VR_list h0
 have H := Mem.start ⟨w0, []⟩ S
 have H := H.pA hl
 refine en Tryz.func39 fun a hf => ?_
 rw [spec_DrawIsValidBlock] at hF
 refine sq (reg (aL hf H TF.zv45 fun b' a w hf H => ?_))
 refine wr (pz 1 hf fun a hf => ?_)
 refine oq hf (rq_build hf (cs := [(.slice A code.length c), (.int .i64 0), (.int .u64 0)]) rfl (fun w => by kernel_rfl)) fun a hf => ?_
 refine wl0 rfl (op_box hf H rfl rfl (by decide) fun b2 a w hf H => ?_)
 refine pz 1 hf fun a hf => ?_
 refine we (sqz (pz 1 hf fun a hf => ?_))
 obtain ⟨y, hy, hF⟩ := bs_ hF
 refine oc hf TF.cl51 (spec_l1Cur_one_ok (S := NB b2) (H.boxAt 0 rfl) ((L1CurP_mk (x := ({ code := code, at_ := 0, seed := (⟨0⟩ : U64) } : L1CurP)) (H.nb 0 rfl (H.get 0 rfl)))) (fun h => h rfl) mk_int hy) fun v w a hp hf => ?_
 obtain ⟨hch, cs, hbx, hr, ⟨hx, hx2⟩, hs⟩ := hp
 obtain rfl := VR_bool hs
 obtain ⟨A2, c2, rfl, hl2⟩ := L1CurP_cells hr
 obtain ⟨rfl, rfl⟩ := fx_slice hx rfl rfl
 have H := H.wroteBox 0 rfl hch hbx
 have H := H.pX 0 rfl hx2
 refine wl_end (then_n (ib hF hf (fun hc hF => ?_) fun hc hF => ?_))
 ·refine sqz (pz 1 hf fun a hf => ?_)
  obtain ⟨y2, hy2, hF⟩ := bs_ hF
  refine oc hf TF.cl75 (spec_l1Cur_pick_ok (S := NB b2) (H.boxAt 0 rfl) ((L1CurP_mk (x := y.2) (H.nb 0 rfl (H.get 0 rfl)))) (fun h => h rfl) mk_int hy2) fun v2 w a hp2 hf => ?_
  obtain ⟨hch2, cs2, hbx2, hr2, ⟨hx3, hx4⟩, hs2⟩ := hp2
  obtain rfl := VR_int hs2
  obtain ⟨A3, c3, rfl, hl3⟩ := L1CurP_cells hr2
  obtain ⟨rfl, rfl⟩ := fx_slice hx3 rfl rfl
  have hx5 := hx4.trans hx2
  have H := H.wroteBox 0 rfl hch2 hbx2
  have H := H.pX 0 rfl hx4
  refine pz 2 hf fun a hf => ?_
  obtain ⟨y3, hy3, hF⟩ := bs_ hF
  refine oc hf TF.cl75 (spec_l1Cur_pick_ok (S := NB b2) (H.boxAt 0 rfl) ((L1CurP_mk (x := y2.2) (H.nb 0 rfl (H.get 0 rfl)))) (fun h => h rfl) mk_int hy3) fun v3 w a hp3 hf => ?_
  obtain ⟨hch3, cs3, hbx3, hr3, ⟨hx6, hx7⟩, hs3⟩ := hp3
  obtain rfl := VR_int hs3
  obtain ⟨A4, c4, rfl, hl4⟩ := L1CurP_cells hr3
  obtain ⟨rfl, rfl⟩ := fx_slice hx6 rfl rfl
  have hx8 := hx7.trans hx5
  have H := H.wroteBox 0 rfl hch3 hbx3
  have H := H.pX 0 rfl hx7
  refine pz 1 hf fun a hf => ?_
  refine oq hf (rq_build hf (cs := [(.int .i64 (w64 (y2.1 - 1))), (.int .i64 (w64 (y3.1 - 1)))]) rfl (fun w => by kernel_rfl)) fun a hf => ?_
  refine sB 1 hf H TF.sz45 fun w H => ?_
  have hf := hf.pn [2]
  refine wl_end (then_n (wp_ret (then_r (?_))))
  obtain rfl := oi hF
  refine ret_1 hf rfl (rv_cellN hf H 1 TF.la45 rfl rfl rfl) ?_
  exact ⟨_, rfl, H.bel, Block_mkv⟩
 ·refine wp_skip (then_n (sqz (pz 1 hf fun a hf => ?_)))
  obtain ⟨y4, hy4, hF⟩ := bs_ hF
  refine oc hf TF.cl76 (spec_l1Cur_block_ok (S := NB b2) (H.boxAt 0 rfl) ((L1CurP_mk (x := y.2) (H.nb 0 rfl (H.get 0 rfl)))) (fun h => h rfl) hy4) fun v4 w a hp4 hf => ?_
  obtain ⟨hch4, cs4, hbx4, hr4, ⟨hx9, hx10⟩, hs4⟩ := hp4
  obtain rfl := Block_open hs4
  obtain ⟨A5, c5, rfl, hl5⟩ := L1CurP_cells hr4
  obtain ⟨rfl, rfl⟩ := fx_slice hx9 rfl rfl
  have hx11 := hx10.trans hx2
  have H := H.wroteBox 0 rfl hch4 hbx4
  have H := H.pX 0 rfl hx10
  refine sB 1 hf H TF.sz45 fun w H => ?_
  refine wer ?_
  obtain rfl := oi hF
  refine ret_1 hf rfl (rv_cellN hf H 1 TF.la45 rfl rfl rfl) ?_
  exact ⟨_, rfl, H.bel, Block_mkv⟩
theorem spec_DrawFormatBlock_ok {S : Nat → Prop} {v0_ : Value} {code : List By} {r : Block} (h0 : VR w0 S v0_ code) (hF : spec_DrawFormatBlock fu code = some r) :
    Calls Tryz.prog 14 [v0_].toArray w0 fun e w' => ∃ v, e = .returned v ∧ (Below w0.heap.size w0 w' ∧ VR w' (St ⟨w0, []⟩ S [] [] [] true) v r) := by
 obtain ⟨A, c, rfl, hl⟩ := VR_list h0
 have H := Mem.start ⟨w0, []⟩ S
 have H := H.pA hl
 refine en Tryz.func14 fun a hf => ?_
 rw [spec_DrawFormatBlock] at hF
 refine sq (reg (aL hf H TF.zv45 fun b' a w hf H => ?_))
 refine wr (pz 1 hf fun a hf => ?_)
 obtain ⟨y, hy, hF⟩ := bs_ hF
 refine oc hf TF.cl39 (spec_DrawIsValidBlock_ok (S := TT) (mk_list (H.rt 0 rfl)) hy) fun v w a hp hf => ?_
 obtain ⟨hb, hp⟩ := hp
 obtain rfl := Block_open hp
 have H := H.keep hb
 refine sB 0 hf H TF.sz45 fun w H => ?_
 refine wer ?_
 obtain rfl := oi hF
 refine ret_1 hf rfl (rv_cellN hf H 0 TF.la45 rfl rfl rfl) ?_
 exact ⟨_, rfl, H.bel, Block_mkv⟩
theorem impl_IsValidBlock_ok {S : Nat → Prop} {v0_ : Value} {b' : Block} {r : Bool} (h0 : VR w0 S v0_ b') (hF : impl_IsValidBlock fu b' = some r) :
    Calls Tryz.prog 40 [v0_].toArray w0 fun e w' => ∃ v, e = .returned v ∧ (Below w0.heap.size w0 w' ∧ VR w' (St ⟨w0, []⟩ S [] [] [] true) v r) := by
 obtain rfl := Block_open h0
 have H := Mem.start ⟨w0, []⟩ S
 refine en Tryz.func40 fun a hf => ?_
 rw [impl_IsValidBlock] at hF
 refine bx hf H fun b2 a w hf H => ?_
 refine pz 1 hf fun a hf => ?_
 refine wl_end (then_n (sq ?_))
 obtain ⟨c, hGc, hF⟩ := bs_ hF
 have fh := hf.prune [] rfl
 have Hm := H.lk 0 0 0 []
 refine midF 2 (.bool c) fh Hm ?_ fun a w hf H => ?_
 ·refine reg (pz 1 hf fun a hf => ?_)
  refine lB 0 hf H TF.ls3 fun a hf => ?_
  refine pz 2 hf fun a hf => ?_
  refine iteB hGc (fun hc hGc => ?_) fun hc hGc => ?_
  ·have hf := hf.lit 6 rfl hc
   refine pz 1 hf fun a hf => ?_
   refine wlg hf rfl rfl rfl (op_q hf (rq_loadB hf H TF.ls3 0 rfl rfl rfl) rfl (by decide) fun a hf => ?_)
   obtain ⟨y, hy, hGc⟩ := bs_ hGc
   refine wlg hf rfl rfl rfl (oC hf TF.cl57 (impl_within_ok (S := TT) mk_int mk_int mk_int hy) fun v w a hp hf => ?_)
   obtain ⟨hb, hp⟩ := hp
   obtain rfl := VR_bool hp
   have H := H.keep hb
   refine pz 2 hf fun a hf => ?_
   refine iteB hGc (fun hc2 hGc => ?_) fun hc2 hGc => ?_
   ·have hf := hf.lit 11 rfl hc2
    refine pz 1 hf fun a hf => ?_
    refine wlg hf rfl rfl rfl (op_q hf (rq_loadB hf H TF.ls3 0 rfl rfl rfl) rfl (by decide) fun a hf => ?_)
    refine pz 1 hf fun a hf => ?_
    refine wlg hf rfl rfl rfl (op_q hf (rq_loadB hf H TF.ls3 0 rfl rfl rfl) rfl (by decide) fun a hf => ?_)
    refine pz 4 hf fun a hf => ?_
    obtain rfl := oi hGc
    have hf := hf.pn [2]
    have H := H.lk 0 0 0 []
    exact wl_end ⟨hf, H⟩
   ·have hf := hf.lit 11 rfl hc2
    refine pz 8 hf fun a hf => ?_
    obtain rfl := oi hGc
    have hf := hf.pn [2]
    have H := H.lk 0 0 0 []
    exact wl_end ⟨hf, H⟩
  ·have hf := hf.lit 6 rfl hc
   refine pz 13 hf fun a hf => ?_
   obtain rfl := oi hGc
   have hf := hf.pn [2]
   have H := H.lk 0 0 0 []
   exact wl_end ⟨hf, H⟩
 refine then_n (wp_ret (?_))
 obtain rfl := oi hF
 refine rT hf ?_
 exact ⟨_, rfl, H.bel, mk_bool⟩
theorem impl_blockText_ok {S : Nat → Prop} {v0_ : Value} {b' : Block} {r : ByteArray} (h0 : VR w0 S v0_ b') (hG : (GLm 0 1 2).pred w0 S) (hF : impl_blockText fu b' = some r) :
    Calls Tryz.prog 41 [v0_].toArray w0 fun e w' => ∃ v, e = .returned v ∧ (Below w0.heap.size w0 w' ∧ VR w' (St ⟨w0, []⟩ S [] [] [] true) v r) := by
 obtain rfl := Block_open h0
 have H := Mem.start ⟨w0, []⟩ S
 have H := H.pushArg (GLm 0 1 2) hG
 refine en Tryz.func41 fun a hf => ?_
 rw [impl_blockText] at hF
 refine bx hf H fun b2 a w hf H => ?_
 refine pz 1 hf fun a hf => ?_
 refine wl_end (then_n (sq (dw [] 9 fun w hb => ?_)))
 have H := H.keep hb
 refine zp 0 hf trivial fun a hf => ?_
 refine strT (H.lk 1 0 0 []) (fun w H => trivial) fun hS => ?_
 refine zS 1 [] rfl rfl rfl rfl hf hS (fun w H => rq_loadB hf H TF.ls3 0 rfl rfl rfl) fun a hf => ?_
 refine zp 4 hf hS fun a hf => ?_
 refine zS 5 [] rfl rfl rfl rfl hf hS (fun w H => rq_loadB hf H TF.ls3 0 rfl rfl rfl) fun a hf => ?_
 obtain ⟨y, hy, hF⟩ := bs_ hF
 refine nn 2 rfl (oC hf TF.cl27 (strconv_Itoa_ok (S := TT) mk_int (mp_true (H.get 0 rfl)) hy) fun v w a hp hf => ?_)
 obtain ⟨hb, hp⟩ := hp
 obtain rfl := VR_str hp
 have H := H.keep hb
 have hS := H.lk 1 0 0 []
 refine aS hS ?_
 obtain ⟨s', hs', hF⟩ := bs_ hF
 refine zP 3 rfl rfl rfl rfl hf hS (fun w => rq_scat hf rfl rfl hs') fun a hf => ?_
 obtain ⟨y2, hy2, hF⟩ := bs_ hF
 refine nn 6 rfl (oC hf TF.cl27 (strconv_Itoa_ok (S := TT) mk_int (mp_true (H.get 0 rfl)) hy2) fun v2 w a hp2 hf => ?_)
 obtain ⟨hb2, hp2⟩ := hp2
 obtain rfl := VR_str hp2
 have H := H.keep hb2
 have hS := H.lk 1 0 0 []
 refine aS hS ?_
 obtain ⟨s2, hs2, hF⟩ := bs_ hF
 refine zP 7 rfl rfl rfl rfl hf hS (fun w => rq_scat hf rfl rfl hs2) fun a hf => ?_
 refine zp 8 hf hS fun a hf => ?_
 refine dk ?_
 refine then_n (wp_ret (?_))
 obtain rfl := oi hF
 refine rT hf ?_
 exact ⟨_, rfl, H.bel, mk_str⟩
theorem impl_FormatBlock_ok {S : Nat → Prop} {v0_ : Value} {b' : Block} {r : ByteArray × Bool} (h0 : VR w0 S v0_ b') (hG : (GLm 0 1 2).pred w0 S) (hF : impl_FormatBlock fu b' = some r) :
    Calls Tryz.prog 15 [v0_].toArray w0 fun e w' => ∃ v, e = .returned v ∧ (Below w0.heap.size w0 w' ∧ ∃ u0 u1, v = .tuple #[u0, u1] ∧ VR w' (St ⟨w0, []⟩ S [] [] [] true) u0 r.1 ∧ VR w' (St ⟨w0, []⟩ S [] [] [] true) u1 r.2) := by
 obtain rfl := Block_open h0
 have H := Mem.start ⟨w0, []⟩ S
 have H := H.pushArg (GLm 0 1 2) hG
 refine en Tryz.func15 fun a hf => ?_
 rw [impl_FormatBlock] at hF
 refine bx hf H fun b2 a w hf H => ?_
 refine pz 2 hf fun a hf => ?_
 refine wl_end (then_n (sq (sq (reg (lN 0 hf H TF.la45 fun a hf => ?_)))))
 obtain ⟨y, hy, hF⟩ := bs_ hF
 refine oc hf TF.cl40 (impl_IsValidBlock_ok (S := TT) Block_mkv hy) fun v w a hp hf => ?_
 obtain ⟨hb, hp⟩ := hp
 obtain rfl := VR_bool hp
 have H := H.keep hb
 refine pz 1 hf fun a hf => ?_
 refine wl_end (then_n (ib hF hf (fun hc hF => ?_) fun hc hF => ?_))
 ·refine sqz (pz 2 hf fun a hf => ?_)
  refine wl_end (then_n (wp_ret (then_r (?_))))
  obtain rfl := oi hF
  refine ret_2 hf rfl (rv_tmp hf rfl) (rv_tmp hf rfl) ?_
  exact ⟨_, rfl, H.bel, _, _, rfl, mk_str, mk_bool⟩
 ·refine wp_skip (then_n (sq (reg (lN 0 hf H TF.la45 fun a hf => ?_))))
  obtain ⟨y2, hy2, hF⟩ := bs_ hF
  refine oc hf TF.cl41 (impl_blockText_ok (S := TT) Block_mkv (mp_true (H.get 0 rfl)) hy2) fun v2 w a hp2 hf => ?_
  obtain ⟨hb2, hp2⟩ := hp2
  obtain rfl := VR_str hp2
  have H := H.keep hb2
  refine pz 2 hf fun a hf => ?_
  refine wer ?_
  obtain rfl := oi hF
  refine ret_2 hf rfl (rv_tmp hf rfl) (rv_tmp hf rfl) ?_
  exact ⟨_, rfl, H.bel, _, _, rfl, mk_str, mk_bool⟩
theorem strings_Cut_ok {S : Nat → Prop} {v0_ : Value} {s : ByteArray} {v1_ : Value} {sep : ByteArray} {r : ByteArray × ByteArray × Bool} (h0 : VR w0 S v0_ s) (h1 : VR w0 S v1_ sep) (hG : (GLm 0 1 2).pred w0 S) (hF : strings_Cut fu s sep = some r) :
    Calls Tryz.prog 42 [v0_, v1_].toArray w0 fun e w' => ∃ v, e = .returned v ∧ (Below w0.heap.size w0 w' ∧ ∃ u0 u1 u2, v = .tuple #[u0, u1, u2] ∧ VR w' (St ⟨w0, []⟩ S [] [] [] true) u0 r.1 ∧ VR w' (St ⟨w0, []⟩ S [] [] [] true) u1 r.2.1 ∧ VR w' (St ⟨w0, []⟩ S [] [] [] true) u2 r.2.2) := tx_cut Tryz.lay145 rfl rfl h0 h1 hG hF
theorem impl_ParseBlock_ok {S : Nat → Prop} {v0_ : Value} {s' : ByteArray} {r : Block × Bool} (h0 : VR w0 S v0_ s') (hG : (GLm 0 1 2).pred w0 S) (hF : impl_ParseBlock fu s' = some r) :
    Calls Tryz.prog 16 [v0_].toArray w0 fun e w' => ∃ v, e = .returned v ∧ (Below w0.heap.size w0 w' ∧ ∃ u0 u1, v = .tuple #[u0, u1] ∧ VR w' (St ⟨w0, []⟩ S [] [] [] true) u0 r.1 ∧ VR w' (St ⟨w0, []⟩ S [] [] [] true) u1 r.2) := by
 obtain rfl := VR_str h0
 have H := Mem.start ⟨w0, []⟩ S
 have H := H.pushArg (GLm 0 1 2) hG
 refine en Tryz.func16 fun a hf => ?_
 rw [impl_ParseBlock] at hF
 refine sq (reg (aL hf H TF.zv45 fun b' a w hf H => ?_))
 refine pz 1 hf fun a hf => ?_
 refine wr (pz 1 hf fun a hf => ?_)
 obtain ⟨y, hy, hF⟩ := bs_ hF
 refine oc hf TF.cl42 (strings_Cut_ok (S := TT) mk_str mk_str (mp_true (H.get 0 rfl)) hy) fun v w a hp hf => ?_
 obtain ⟨hb, v2, v3, v4, rfl, hp2, hp3, hp4⟩ := hp
 obtain rfl := VR_str hp2
 obtain rfl := VR_str hp3
 obtain rfl := VR_bool hp4
 have H := H.keep hb
 refine pz 7 hf fun a hf => ?_
 refine wr (pz 1 hf fun a hf => ?_)
 obtain ⟨y2, hy2, hF⟩ := bs_ hF
 refine oc hf TF.cl36 (impl_ParseInt_ok (S := TT) mk_str (mp_true (H.get 0 rfl)) hy2) fun v5 w a hp5 hf => ?_
 obtain ⟨hb2, v6, v7, rfl, hp6, hp7⟩ := hp5
 obtain rfl := VR_int hp6
 obtain rfl := VR_bool hp7
 have H := H.keep hb2
 refine pz 5 hf fun a hf => ?_
 have hf := hf.pn [0, 2, 5, 7, 8]
 refine wr (pz 1 hf fun a hf => ?_)
 obtain ⟨y3, hy3, hF⟩ := bs_ hF
 refine oc hf TF.cl36 (impl_ParseInt_ok (S := TT) mk_str (mp_true (H.get 0 rfl)) hy3) fun v8 w a hp8 hf => ?_
 obtain ⟨hb3, v9, v10, rfl, hp9, hp10⟩ := hp8
 obtain rfl := VR_int hp9
 obtain rfl := VR_bool hp10
 have H := H.keep hb3
 refine pz 5 hf fun a hf => ?_
 refine wr (pz 2 hf fun a hf => ?_)
 refine oq hf (rq_build hf (cs := [(.int .i64 y2.1), (.int .i64 y3.1)]) rfl (fun w => by kernel_rfl)) fun a hf => ?_
 refine aL hf H TF.zv45 fun b2 a w hf H => ?_
 refine sB 0 hf H TF.sz45 fun w H => ?_
 refine wl_end (then_n (sq (sq ?_)))
 obtain ⟨c, hGc, hF⟩ := bs_ hF
 have fh := hf.prune [2, 11] rfl
 have Hm := H.lk 3 0 0 [0]
 refine midF 47 (.bool c) fh Hm ?_ fun a w hf H => ?_
 ·refine reg (pz 3 hf fun a hf => ?_)
  refine iteB hGc (fun hc hGc => ?_) fun hc hGc => ?_
  ·have hf := hf.lit 33 rfl hc
   refine pz 14 hf fun a hf => ?_
   obtain rfl := oi hGc
   have hf := hf.pn [47, 2, 11]
   have H := H.lk 3 0 0 [0]
   exact wl_end ⟨hf, H⟩
  ·have hf := hf.lit 33 rfl hc
   refine pz 4 hf fun a hf => ?_
   refine iteB hGc (fun hc2 hGc => ?_) fun hc2 hGc => ?_
   ·have hf := hf.lit 37 rfl hc2
    refine pz 10 hf fun a hf => ?_
    obtain rfl := oi hGc
    have hf := hf.pn [47, 2, 11]
    have H := H.lk 3 0 0 [0]
    exact wl_end ⟨hf, H⟩
   ·have hf := hf.lit 37 rfl hc2
    refine wlg hf rfl rfl rfl (op_q hf (rq_loadBN hf H TF.la45 0 rfl rfl rfl rfl) rfl (by decide) fun a hf => ?_)
    obtain ⟨y4, hy4, hGc⟩ := bs_ hGc
    refine wlg hf rfl rfl rfl (oC hf TF.cl40 (impl_IsValidBlock_ok (S := TT) Block_mkv hy4) fun v11 w a hp11 hf => ?_)
    obtain ⟨hb4, hp11⟩ := hp11
    obtain rfl := VR_bool hp11
    have H := H.keep hb4
    refine pz 3 hf fun a hf => ?_
    refine iteB hGc (fun hc3 hGc => ?_) fun hc3 hGc => ?_
    ·have hf := hf.lit 42 rfl hc3
     refine pz 5 hf fun a hf => ?_
     obtain rfl := oi hGc
     have hf := hf.pn [47, 2, 11]
     have H := H.lk 3 0 0 [0]
     exact wl_end ⟨hf, H⟩
    ·have hf := hf.lit 42 rfl hc3
     refine wlg hf rfl rfl rfl (op_q hf (rq_loadBN hf H TF.la45 0 rfl rfl rfl rfl) rfl (by decide) fun a hf => ?_)
     obtain ⟨y5, hy5, hGc⟩ := bs_ hGc
     refine wlg hf rfl rfl rfl (oC hf TF.cl41 (impl_blockText_ok (S := TT) Block_mkv (mp_true (H.get 0 rfl)) hy5) fun v12 w a hp12 hf => ?_)
     obtain ⟨hb5, hp12⟩ := hp12
     obtain rfl := VR_str hp12
     have H := H.keep hb5
     refine pz 3 hf fun a hf => ?_
     obtain rfl := oi hGc
     have hf := hf.pn [47, 2, 11]
     have H := H.lk 3 0 0 [0]
     exact wl_end ⟨hf, H⟩
 refine then_n (ib hF hf (fun hc4 hF => ?_) fun hc4 hF => ?_)
 ·refine sq (reg (oq hf (rq_build hf (cs := [(.int .i64 0), (.int .i64 0)]) rfl (fun w => by kernel_rfl)) fun a hf => ?_))
  refine sB 1 hf H TF.sz45 fun w H => ?_
  refine pz 1 hf fun a hf => ?_
  refine wl_end (then_n (wp_ret (then_r (?_))))
  obtain rfl := oi hF
  refine ret_2 hf rfl (rv_cellN hf H 1 TF.la45 rfl rfl rfl) (rv_tmp hf rfl) ?_
  exact ⟨_, rfl, H.bel, _, _, rfl, Block_mkv, mk_bool⟩
 ·refine wp_skip (then_n (sq (reg (lN 0 hf H TF.la45 fun a hf => ?_))))
  refine sB 1 hf H TF.sz45 fun w H => ?_
  refine pz 1 hf fun a hf => ?_
  refine wer ?_
  obtain rfl := oi hF
  refine ret_2 hf rfl (rv_cellN hf H 1 TF.la45 rfl rfl rfl) (rv_tmp hf rfl) ?_
  exact ⟨_, rfl, H.bel, _, _, rfl, Block_mkv, mk_bool⟩
theorem spec_l8Good_ok {S : Nat → Prop} {v0_ : Value} {b' : Block} {r : Bool} (h0 : VR w0 S v0_ b') (hF : spec_l8Good fu b' = some r) :
    Calls Tryz.prog 43 [v0_].toArray w0 fun e w' => ∃ v, e = .returned v ∧ (Below w0.heap.size w0 w' ∧ VR w' (St ⟨w0, []⟩ S [] [] [] true) v r) := by
 obtain rfl := Block_open h0
 have H := Mem.start ⟨w0, []⟩ S
 refine en Tryz.func43 fun a hf => ?_
 rw [spec_l8Good] at hF
 refine bx hf H fun b2 a w hf H => ?_
 refine pz 1 hf fun a hf => ?_
 refine wl_end (then_n (sq ?_))
 obtain ⟨c, hGc, hF⟩ := bs_ hF
 have fh := hf.prune [] rfl
 have Hm := H.lk 0 0 0 []
 refine midF 2 (.bool c) fh Hm ?_ fun a w hf H => ?_
 ·refine reg (pz 1 hf fun a hf => ?_)
  refine lB 0 hf H TF.ls3 fun a hf => ?_
  obtain ⟨y, hy, hGc⟩ := bs_ hGc
  refine oc hf TF.cl65 (spec_l1In_ok (S := TT) mk_int mk_int mk_int hy) fun v w a hp hf => ?_
  obtain ⟨hb, hp⟩ := hp
  obtain rfl := VR_bool hp
  have H := H.keep hb
  refine pz 1 hf fun a hf => ?_
  refine iteB hGc (fun hc hGc => ?_) fun hc hGc => ?_
  ·have hf := hf.lit 6 rfl hc
   refine pz 1 hf fun a hf => ?_
   refine wlg hf rfl rfl rfl (op_q hf (rq_loadB hf H TF.ls3 0 rfl rfl rfl) rfl (by decide) fun a hf => ?_)
   refine pz 1 hf fun a hf => ?_
   refine wlg hf rfl rfl rfl (op_q hf (rq_loadB hf H TF.ls3 0 rfl rfl rfl) rfl (by decide) fun a hf => ?_)
   refine pz 1 hf fun a hf => ?_
   obtain ⟨y2, hy2, hGc⟩ := bs_ hGc
   refine wlg hf rfl rfl rfl (oC hf TF.cl65 (spec_l1In_ok (S := TT) mk_int mk_int mk_int hy2) fun v2 w a hp2 hf => ?_)
   obtain ⟨hb2, hp2⟩ := hp2
   obtain rfl := VR_bool hp2
   have H := H.keep hb2
   refine pz 2 hf fun a hf => ?_
   obtain rfl := oi hGc
   have hf := hf.pn [2]
   have H := H.lk 0 0 0 []
   exact wl_end ⟨hf, H⟩
  ·have hf := hf.lit 6 rfl hc
   refine pz 8 hf fun a hf => ?_
   obtain rfl := oi hGc
   have hf := hf.pn [2]
   have H := H.lk 0 0 0 []
   exact wl_end ⟨hf, H⟩
 refine then_n (wp_ret (?_))
 obtain rfl := oi hF
 refine rT hf ?_
 exact ⟨_, rfl, H.bel, mk_bool⟩
theorem spec_IsValidBlock_ok {S : Nat → Prop} {v0_ : Value} {b' : Block} {r : Bool} (h0 : VR w0 S v0_ b') (hF : spec_IsValidBlock fu b' = some r) :
    Calls Tryz.prog 17 [v0_].toArray w0 fun e w' => ∃ v, e = .returned v ∧ (Below w0.heap.size w0 w' ∧ VR w' (St ⟨w0, []⟩ S [] [] [] true) v r) := by
 obtain rfl := Block_open h0
 have H := Mem.start ⟨w0, []⟩ S
 refine en Tryz.func17 fun a hf => ?_
 rw [spec_IsValidBlock] at hF
 refine bx hf H fun b2 a w hf H => ?_
 refine pz 1 hf fun a hf => ?_
 refine wr (lN 0 hf H TF.la45 fun a hf => ?_)
 obtain ⟨y, hy, hF⟩ := bs_ hF
 refine oc hf TF.cl43 (spec_l8Good_ok (S := TT) Block_mkv hy) fun v w a hp hf => ?_
 obtain ⟨hb, hp⟩ := hp
 obtain rfl := VR_bool hp
 have H := H.keep hb
 refine pz 1 hf fun a hf => ?_
 refine wer ?_
 obtain rfl := oi hF
 refine rT hf ?_
 exact ⟨_, rfl, H.bel, mk_bool⟩
theorem spec_l1Cur_linked_ok {S : Nat → Prop} {b0 : Nat} {cs0 : List Value} {c : L1CurP} {r : Network × L1CurP} (hp0 : w0.heap[b0]? = some (.cells cs0.toArray 87 (0, 0))) (hr0 : GoTy.rep w0 S cs0 c) (hS0 : ¬ S b0) (hF : spec_l1Cur_linked fu c = some r) :
    Calls Tryz.prog 87 [(.pointer (some ⟨b0, 0, none⟩))].toArray w0 fun e w' => ∃ v, e = .returned v ∧ (Chg w0 w' [b0] ∧ ∃ cs', w'.heap[b0]? = some (.cells cs'.toArray 87 (0, 0)) ∧ GoTy.rep w' (St ⟨w0, [b0]⟩ S [⟨b0, 87, cs'⟩] [] [] false) cs' r.2 ∧ (cs'[0]? = cs0[0]? ∧ r.2.code = c.code) ∧ ∃ F0, VO w' F0 v r.1 ∧ New w0 w' F0) := by
 obtain ⟨A, c2, rfl, hl⟩ := L1CurP_cells hr0
 have H := Mem.startB S hp0
 have H := H.pB hS0 hl
 refine en Tryz.func87 fun a hf => ?_
 rw [spec_l1Cur_linked] at hF
 refine sq (reg (aL hf H TF.zv27 fun b2 a w hf H => ?_))
 refine wr (pz 1 hf fun a hf => ?_)
 obtain ⟨y, hy, hF⟩ := bs_ hF
 refine oc hf TF.cl92 (spec_l1Cur_network_ok (S := NB b0) (H.boxAt 1 rfl) ((L1CurP_mk (x := c) (H.nb 1 rfl (H.get 0 rfl)))) (fun h => h rfl) hy) fun v w a hp2 hf => ?_
 obtain ⟨hch, cs2, hbx, hr2, ⟨hx, hx2⟩, hs⟩ := hp2
 obtain ⟨F, hp3, hN⟩ := hs
 obtain ⟨A2, c3, F2, A3, c4, F3, rfl, rfl, hl2, hl3⟩ := Network_vo hp3
 obtain ⟨A4, c5, rfl, hl4⟩ := L1CurP_cells hr2
 obtain ⟨rfl, rfl⟩ := fx_slice hx rfl rfl
 have H := H.bO2 1 rfl hch hbx hN hl2 hl3
 have H := H.pX 0 rfl hx2
 have H := H.lend 0 rfl
 have H := H.lend 1 rfl
 refine aL hf H TF.zv27 fun b3 a w hf H => ?_
 refine sB 0 hf H TF.sz27 fun w H => ?_
 refine we (sqz (pz 1 hf fun a hf => ?_))
 refine lB 0 hf H TF.ls25 fun a hf => ?_
 refine pz 2 hf fun a hf => ?_
 refine wl_end (then_n (ib hF hf (fun hc hF => ?_) fun hc hF => ?_))
 ·refine reg (pz 1 hf fun a hf => ?_)
  refine lB 0 hf H TF.ls25 fun a hf => ?_
  refine oq hf (rq_build hf (cs := [(.int .i64 0), (.int .i64 1), (.int .i64 100), (.int .i64 0)]) rfl (fun w => by kernel_rfl)) fun a hf => ?_
  refine wl0 rfl (bl hf H 63 ([({ A := 0, B := 1, Length := 100, Risk := 0 } : Fiber)] : List Fiber) [(.int .i64 0), (.int .i64 1), (.int .i64 100), (.int .i64 0)] (el1 (y := ({ A := 0, B := 1, Length := 100, Risk := 0 } : Fiber)) ((Fiber_mk (x := ({ A := 0, B := 1, Length := 100, Risk := 0 } : Fiber))))) fun A5 a w hf H => ?_)
  have H := H.frontD 1 rfl
  obtain ⟨Fs, E, H, -⟩ := H.thaw rfl
  have H := H.rowSh 0 rfl
  have H := H.pB hS0 hl
  have H := H.argB (by simpa using hS0) (p := MP.val [(.slice A y.2.code.length c2)] (y.2.code : List By)) (by rw [hx2]; exact hl)
  have H := H.lend 0 rfl
  obtain ⟨l, hl_, hF⟩ := bs_ hF
  refine wl0 rfl (op_appR hf H Tryz.underlying25 TF.ai63 rfl (by decide) 0 1 rfl rfl rfl rfl (.inr rfl) hl_ (by decide) fun E2 A6 c6 a w hf H => ?_)
  refine pz 1 hf fun a hf => ?_
  refine sB 0 hf H TF.sz25 fun w H => ?_
  have hf := hf.pn [2, 3]
  refine wr (lN 0 hf H TF.la27 fun a hf => ?_)
  refine sB 1 hf H TF.sz27 fun w H => ?_
  refine wer ?_
  have H := H.rowOwn 0 rfl rfl
  obtain ⟨F4, H⟩ := H.freezeOwn 0 rfl
  have H := H.lend 0 rfl
  have H := H.frontD 1 rfl
  obtain rfl := oi hF
  refine ret_1 hf rfl (rv_cellN hf H 1 TF.la27 rfl rfl rfl) ?_
  have hN := H.endsB2 2 rfl
  exact ⟨_, rfl, H.chg, _, H.boxAt 2 rfl, (L1CurP_mk (x := y.2) (eB 2 (H.get 2 rfl))), ⟨fxc hx2, hx2⟩, (F2 ++ F4), ⟨_, Network_ownmk (x := ({ Nodes := y.1.Nodes, Fibers := l } : Network)) (H.ownAt 0 rfl) (H.ownAt 1 rfl), rfl⟩, by first | exact hN | simpa using hN⟩
 ·refine wp_skip (then_n (sq (reg (lN 0 hf H TF.la27 fun a hf => ?_))))
  refine sB 1 hf H TF.sz27 fun w H => ?_
  refine wer ?_
  have H := H.frontD 1 rfl
  have H := H.frontD 1 rfl
  obtain rfl := oi hF
  refine ret_1 hf rfl (rv_cellN hf H 1 TF.la27 rfl rfl rfl) ?_
  have hN := H.endsB2 2 rfl
  exact ⟨_, rfl, H.chg, _, H.boxAt 2 rfl, (L1CurP_mk (x := y.2) (eB 2 (H.get 2 rfl))), ⟨fxc hx2, hx2⟩, (F2 ++ F3), ⟨_, Network_ownmk (x := y.1) (H.ownAt 0 rfl) (H.ownAt 1 rfl), rfl⟩, by first | exact hN | simpa using hN⟩
theorem spec_l1Cur_routed_ok {S : Nat → Prop} {b0 : Nat} {cs0 : List Value} {v1_ : Value} {c : L1CurP} {n' : Network} {r : Route × L1CurP} (hp0 : w0.heap[b0]? = some (.cells cs0.toArray 87 (0, 0))) (hr0 : GoTy.rep w0 S cs0 c) (hS0 : ¬ S b0) (h1 : VR w0 S v1_ n') (hF : spec_l1Cur_routed fu c n' = some r) :
    Calls Tryz.prog 88 [(.pointer (some ⟨b0, 0, none⟩)), v1_].toArray w0 fun e w' => ∃ v, e = .returned v ∧ (Chg w0 w' [b0] ∧ ∃ cs', w'.heap[b0]? = some (.cells cs'.toArray 87 (0, 0)) ∧ GoTy.rep w' (St ⟨w0, [b0]⟩ S [⟨b0, 87, cs'⟩] [] [] false) cs' r.2 ∧ (cs'[0]? = cs0[0]? ∧ r.2.code = c.code) ∧ ∃ F0, VO w' F0 v r.1 ∧ New w0 w' F0) := by
 obtain ⟨A, c2, rfl, hl⟩ := L1CurP_cells hr0
 obtain ⟨A2, c3, A3, c4, rfl, hl2, hl3⟩ := Network_open h1
 have H := Mem.startB S hp0
 have H := H.pB hS0 hl
 have H := H.pB hS0 hl2
 have H := H.pB hS0 hl3
 refine en Tryz.func88 fun a hf => ?_
 rw [spec_l1Cur_routed] at hF
 refine bx hf H fun b3 a w hf H => ?_
 refine aL hf H TF.zv30 fun b4 a w hf H => ?_
 refine wr (pz 1 hf fun a hf => ?_)
 refine lN 1 hf H TF.la27 fun a hf => ?_
 obtain ⟨y, hy, hF⟩ := bs_ hF
 refine oc hf TF.cl95 (spec_l1Cur_route_ok (S := NB b0) (H.boxAt 2 rfl) ((L1CurP_mk (x := c) (H.nb 2 rfl (H.get 2 rfl)))) (fun h => h rfl) (Network_mkv (x := n') (H.nb 2 rfl (H.get 1 rfl)) (H.nb 2 rfl (H.get 0 rfl))) hy) fun v w a hp3 hf => ?_
 obtain ⟨hch, cs3, hbx, hr3, ⟨hx, hx2⟩, hs⟩ := hp3
 obtain ⟨F, hp4, hN⟩ := hs
 obtain ⟨A4, c5, F2, rfl, rfl, hl4⟩ := Route_vo hp4
 obtain ⟨A5, c6, rfl, hl5⟩ := L1CurP_cells hr3
 obtain ⟨rfl, rfl⟩ := fx_slice hx rfl rfl
 have H := H.bO1 2 rfl hch hbx hN hl4
 have H := H.pX 2 rfl hx2
 have H := H.lend 0 rfl
 refine aL hf H TF.zv30 fun b5 a w hf H => ?_
 refine sB 0 hf H TF.sz30 fun w H => ?_
 refine we (sqz (pz 1 hf fun a hf => ?_))
 refine lB 0 hf H TF.ls28 fun a hf => ?_
 refine pz 2 hf fun a hf => ?_
 refine wl_end (then_n (ib hF hf (fun hc hF => ?_) fun hc hF => ?_))
 ·refine sqz (pz 1 hf fun a hf => ?_)
  refine lB 2 hf H TF.ls25 fun a hf => ?_
  obtain ⟨e, he, hF⟩ := bs_ hF
  refine wl0 rfl (op_iaddr hf H Tryz.underlying25 TF.sz63 2 rfl rfl rfl he (by decide) fun p o3 cs4 a hf hr4 H => ?_)
  obtain rfl := Fiber_cells hr4
  refine pz 1 hf fun a hf => ?_
  refine oq hf (rq_loadI hf H TF.ls3 0 0 rfl rfl rfl) fun a hf => ?_
  refine wl0 rfl (bl hf H 3 ([0] : List Int) [(.int .i64 0)] (el1 (y := 0) (rfl)) fun A6 a w hf H => ?_)
  refine oq hf (rq_build hf (cs := [(.int .i64 e.A), (.slice A6 1 1)]) rfl (fun w => by kernel_rfl)) fun a hf => ?_
  refine sB 1 hf H TF.sz30 fun w H => ?_
  have hf := hf.pn [4]
  refine wl_end (then_n (wp_ret (then_r (?_))))
  have H := H.rowOwn 0 rfl rfl
  obtain ⟨F3, H⟩ := H.freezeOwn 0 rfl
  have H := H.lend 0 rfl
  obtain rfl := oi hF
  refine ret_1 hf rfl (rv_cellN hf H 1 TF.la30 rfl rfl rfl) ?_
  have hN := H.endsB1 3 rfl
  exact ⟨_, rfl, H.chg, _, H.boxAt 3 rfl, (L1CurP_mk (x := y.2) (eB 3 (H.get 3 rfl))), ⟨fxc hx2, hx2⟩, F3, ⟨_, Route_ownmk (x := ({ Start := e.A, Fibers := [0] } : Route)) (H.ownAt 0 rfl), rfl⟩, by first | exact hN | simpa using hN⟩
 ·refine wp_skip (then_n (sq (reg (lN 0 hf H TF.la30 fun a hf => ?_))))
  refine sB 1 hf H TF.sz30 fun w H => ?_
  refine wer ?_
  obtain rfl := oi hF
  refine ret_1 hf rfl (rv_cellN hf H 1 TF.la30 rfl rfl rfl) ?_
  have hN := H.endsB1 3 rfl
  exact ⟨_, rfl, H.chg, _, H.boxAt 3 rfl, (L1CurP_mk (x := y.2) (eB 3 (H.get 1 rfl))), ⟨fxc hx2, hx2⟩, F2, ⟨_, Route_ownmk (x := y.1) (H.ownAt 0 rfl), rfl⟩, by first | exact hN | simpa using hN⟩
theorem spec_l8Bits_ok {S : Nat → Prop} {v0_ : Value} {b' : Block} {r : Int} (h0 : VR w0 S v0_ b') (hF : spec_l8Bits fu b' = some r) :
    Calls Tryz.prog 119 [v0_].toArray w0 fun e w' => ∃ v, e = .returned v ∧ (Below w0.heap.size w0 w' ∧ VR w' (St ⟨w0, []⟩ S [] [] [] true) v r) := by
 obtain rfl := Block_open h0
 have H := Mem.start ⟨w0, []⟩ S
 refine en Tryz.func119 fun a hf => ?_
 rw [spec_l8Bits] at hF
 refine bx hf H fun b2 a w hf H => ?_
 refine pz 1 hf fun a hf => ?_
 refine wr (pz 1 hf fun a hf => ?_)
 refine lB 0 hf H TF.ls3 fun a hf => ?_
 refine oq hf (rq_conv u64w Tryz.underlying3 Tryz.underlying164 hf rfl) fun a hf => ?_
 obtain ⟨q, hq, hF⟩ := bs_ hF
 refine oq hf (rq_shl hf rfl rfl hq) fun a hf => ?_
 refine pz 2 hf fun a hf => ?_
 refine lB 0 hf H TF.ls3 fun a hf => ?_
 refine oq hf (rq_conv u64w Tryz.underlying3 Tryz.underlying164 hf rfl) fun a hf => ?_
 obtain ⟨q2, hq2, hF⟩ := bs_ hF
 refine oq hf (rq_shl hf rfl rfl hq2) fun a hf => ?_
 refine pz 1 hf fun a hf => ?_
 refine wer ?_
 obtain rfl := oi hF
 refine rT hf ?_
 exact ⟨_, rfl, H.bel, mk_int⟩
theorem spec_l9Used_ok {S : Nat → Prop} {v0_ : Value} {v1_ : Value} {p : Plan} {fiber : Int} {r : Int} (h0 : VR w0 S v0_ p) (h1 : VR w0 S v1_ fiber) (hF : spec_l9Used fu p fiber = some r) :
    Calls Tryz.prog 123 [v0_, v1_].toArray w0 fun e w' => ∃ v, e = .returned v ∧ (Below w0.heap.size w0 w' ∧ VR w' (St ⟨w0, []⟩ S [] [] [] true) v r) := by
 obtain ⟨A, c, A2, c2, A3, c3, rfl, hl, hl2, hl3⟩ := Plan_open h0
 obtain rfl := VR_int h1
 have H := Mem.start ⟨w0, []⟩ S
 have H := H.pA hl
 have H := H.pA hl2
 have H := H.pA hl3
 refine en Tryz.func123 fun a hf => ?_
 rw [spec_l9Used] at hF
 refine bx hf H fun b' a w hf H => ?_
 refine pz 1 hf fun a hf => ?_
 refine wr (pz 1 hf fun a hf => ?_)
 refine we (sqz (pz 1 hf fun a hf => ?_))
 refine wl_end (then_n ?_)
 obtain ⟨out2, hB1, hF⟩ := bs_ hF
 have hf := hf.pn [1, 2, 5, 6]
 have H := H.lm 1 0 0 3 7
 refine loopC (fun (s : Int × Int) (a : Act) (w : World) => match s with | (out', i) => Fr a 33 [(1, (.int .i64 fiber)), (2, (.pointer (some ⟨b', 0, none⟩))), (5, (.int .i64 out')), (6, (.int .i64 i))] ∧ Mem ⟨w0, []⟩ S [⟨b', 53, [(.slice A p.Network.Nodes.length c), (.slice A2 p.Network.Fibers.length c2), (.slice A3 p.Lights.length c3)]⟩] [] [] [(false, MP.val [(.slice A3 p.Lights.length c3)] (p.Lights : List Light)), (false, MP.val [(.slice A2 p.Network.Fibers.length c2)] (p.Network.Fibers : List Fiber)), (false, MP.val [(.slice A p.Network.Nodes.length c)] (p.Network.Nodes : List ByteArray))] w) (fun k (s : Int × Int) => spec_l9Used_L1 fu p fiber k s.1 s.2 = some out2) (fun s => out2 = s) (0, 0) fu hB1 ⟨hf, H⟩ (fun s h => by cases h) ?_ ?_
 ·rintro fk ⟨out', i⟩ a w hR1 hI
  replace hR1 : spec_l9Used_L1 fu p fiber (fk + 1) out' i = some out2 := hR1
  rw [spec_l9Used_L1] at hR1
  obtain ⟨hf, H⟩ := hI
  refine sq (sqz (pz 2 hf fun a hf => ?_))
  refine lB 0 hf H TF.ls51 fun a hf => ?_
  refine pz 2 hf fun a hf => ?_
  refine wl_end (then_n (ib hR1 hf (fun hc hR1 => ?_) fun hc hR1 => ?_))
  ·refine ws (pz 1 hf fun a hf => ?_)
   refine lB 0 hf H TF.ls51 fun a hf => ?_
   refine pz 1 hf fun a hf => ?_
   obtain ⟨e, he, hR1⟩ := bs_ hR1
   refine wl0 rfl (op_iaddr hf H Tryz.underlying51 TF.sz80 0 rfl rfl rfl he (by decide) fun p2 o cs a hf hr H => ?_)
   obtain ⟨A4, c4, rfl, hl4⟩ := Light_cells hr
   have H := H.pF hl4
   refine pz 2 hf fun a hf => ?_
   refine oq hf (rq_loadI hf H TF.ls28 1 2 rfl rfl rfl) fun a hf => ?_
   refine pz 1 hf fun a hf => ?_
   obtain ⟨y, hy, hR1⟩ := bs_ hR1
   refine oc hf TF.cl112 (spec_l1Has_ok (S := TT) (mk_list (H.rt 0 rfl)) mk_int hy) fun v w a hp hf => ?_
   obtain ⟨hb, hp⟩ := hp
   obtain rfl := VR_bool hp
   have H := H.keep hb
   have hf := hf.pn [1, 2, 5, 6, 22]
   refine wl_end (then_n (ib hR1 hf (fun hc2 hR1 => ?_) fun hc2 hR1 => ?_))
   ·refine reg (pz 2 hf fun a hf => ?_)
    refine lB 0 hf H TF.ls51 fun a hf => ?_
    refine pz 1 hf fun a hf => ?_
    obtain ⟨e2, he2, hR1⟩ := bs_ hR1
    refine wl0 rfl (op_iaddr hf H Tryz.underlying51 TF.sz80 2 rfl rfl rfl he2 (by decide) fun p3 o2 cs2 a hf hr2 H => ?_)
    obtain ⟨A5, c5, rfl, hl5⟩ := Light_cells hr2
    have H := H.pF hl5
    refine pz 1 hf fun a hf => ?_
    refine oq hf (rq_loadIN hf H TF.la45 1 3 rfl rfl rfl rfl) fun a hf => ?_
    obtain ⟨y2, hy2, hR1⟩ := bs_ hR1
    refine oc hf TF.cl119 (spec_l8Bits_ok (S := TT) Block_mkv hy2) fun v2 w a hp2 hf => ?_
    obtain ⟨hb2, hp2⟩ := hp2
    obtain rfl := VR_int hp2
    have H := H.keep hb2
    refine pz 2 hf fun a hf => ?_
    refine wl_end (blk_n (then_n (reg (pz 3 hf fun a hf => ?_))))
    refine wl_end ?_
    have hf := hf.pn [1, 2, 5, 6]
    have H := H.lm 1 0 0 7 112
    exact then_n ⟨(bor out' y2, w64 (i + 1)), hR1, hf, H⟩
   ·refine wp_skip (blk_n (then_n (reg (pz 3 hf fun a hf => ?_))))
    refine wl_end ?_
    have hf := hf.pn [1, 2, 5, 6]
    have H := H.lm 1 0 0 5 28
    exact then_n ⟨(out', w64 (i + 1)), hR1, hf, H⟩
  ·refine wp_exit (then_x (then_x (blk_e (?_))))
   have hf := hf.pn [1, 2, 5, 6]
   have H := H.lm 1 0 0 3 7
   exact ⟨(out', i), (Option.some.inj hR1).symm, hf, H⟩
 rintro a w ⟨⟨out3, i2⟩, rfl, hf, H⟩
 try dsimp only at hF
 refine then_n (sqz (pz 2 hf fun a hf => ?_))
 refine wer ?_
 obtain rfl := oi hF
 refine rT hf ?_
 exact ⟨_, rfl, H.bel, mk_int⟩
theorem spec_l9Along_ok {S : Nat → Prop} {v0_ : Value} {v1_ : Value} {p : Plan} {r' : Route} {r : Int} (h0 : VR w0 S v0_ p) (h1 : VR w0 S v1_ r') (hF : spec_l9Along fu p r' = some r) :
    Calls Tryz.prog 90 [v0_, v1_].toArray w0 fun e w' => ∃ v, e = .returned v ∧ (Below w0.heap.size w0 w' ∧ VR w' (St ⟨w0, []⟩ S [] [] [] true) v r) := by
 obtain ⟨A, c, A2, c2, A3, c3, rfl, hl, hl2, hl3⟩ := Plan_open h0
 obtain ⟨A4, c4, rfl, hl4⟩ := Route_open h1
 have H := Mem.start ⟨w0, []⟩ S
 have H := H.pA hl
 have H := H.pA hl2
 have H := H.pA hl3
 have H := H.pA hl4
 refine en Tryz.func90 fun a hf => ?_
 rw [spec_l9Along] at hF
 refine bx hf H fun b' a w hf H => ?_
 refine wl0 rfl (op_box hf H rfl rfl (by decide) fun b2 a w hf H => ?_)
 refine pz 1 hf fun a hf => ?_
 refine wr (pz 1 hf fun a hf => ?_)
 refine we (sqz (pz 1 hf fun a hf => ?_))
 refine wl_end (then_n ?_)
 obtain ⟨out2, hB1, hF⟩ := bs_ hF
 have hf := hf.pn [2, 3, 5, 6]
 have H := H.lm 3 0 0 4 15
 refine loopC (fun (s : Int × Int) (a : Act) (w : World) => match s with | (out', i) => Fr a 24 [(2, (.pointer (some ⟨b', 0, none⟩))), (3, (.pointer (some ⟨b2, 0, none⟩))), (5, (.int .i64 out')), (6, (.int .i64 i))] ∧ Mem ⟨w0, []⟩ S [⟨b2, 30, [(.int .i64 r'.Start), (.slice A4 r'.Fibers.length c4)]⟩, ⟨b', 53, [(.slice A p.Network.Nodes.length c), (.slice A2 p.Network.Fibers.length c2), (.slice A3 p.Lights.length c3)]⟩] [] [] [(false, MP.val [(.slice A4 r'.Fibers.length c4)] (r'.Fibers : List Int)), (false, MP.val [(.slice A3 p.Lights.length c3)] (p.Lights : List Light)), (false, MP.val [(.slice A2 p.Network.Fibers.length c2)] (p.Network.Fibers : List Fiber)), (false, MP.val [(.slice A p.Network.Nodes.length c)] (p.Network.Nodes : List ByteArray))] w) (fun k (s : Int × Int) => spec_l9Along_L1 fu p r' k s.1 s.2 = some out2) (fun s => out2 = s) (0, 0) fu hB1 ⟨hf, H⟩ (fun s h => by cases h) ?_ ?_
 ·rintro fk ⟨out', i⟩ a w hR1 hI
  replace hR1 : spec_l9Along_L1 fu p r' (fk + 1) out' i = some out2 := hR1
  rw [spec_l9Along_L1] at hR1
  obtain ⟨hf, H⟩ := hI
  refine sq (sqz (pz 2 hf fun a hf => ?_))
  refine lB 0 hf H TF.ls28 fun a hf => ?_
  refine pz 2 hf fun a hf => ?_
  refine wl_end (then_n (ib hR1 hf (fun hc hR1 => ?_) fun hc hR1 => ?_))
  ·refine wp_skip (then_n (sq (wp_block (dw [] 10 fun w hb => ?_))))
   have H := H.keep hb
   refine zp 0 hf trivial fun a hf => ?_
   refine strT (H.lk 2 0 0 []) (fun w H => trivial) fun hS => ?_
   refine zS 1 [] rfl rfl rfl rfl hf hS (fun w H => rq_loadBN hf H TF.la53 0 rfl rfl rfl rfl) fun a hf => ?_
   refine zp 2 hf hS fun a hf => ?_
   refine strT (H.lk 3 0 0 []) (fun w H => H.lk 2 0 0 []) fun hS => ?_
   refine zS 3 [] rfl rfl rfl rfl hf hS (fun w H => rq_loadB hf H TF.ls28 0 rfl rfl rfl) fun a hf => ?_
   refine zp 4 hf hS fun a hf => ?_
   obtain ⟨e, he, hR1⟩ := bs_ hR1
   obtain ⟨p2, o, cs, hx, hr, H⟩ := pre_iaddr H Tryz.underlying28 TF.sz3 0 rfl he
   refine zP 5 rfl rfl rfl rfl hf hS (fun w => rq_iaddrE hf rfl rfl rfl hx w) fun a hf => ?_
   obtain rfl := hr
   refine strT (H.lk 3 0 0 [0]) (fun w H => H.lk 3 0 0 []) fun hS => ?_
   refine zS 6 [] rfl rfl rfl rfl hf hS (fun w H => rq_loadI hf H TF.ls3 0 0 rfl rfl rfl) fun a hf => ?_
   obtain ⟨y, hy, hR1⟩ := bs_ hR1
   refine nn 7 rfl (oC hf TF.cl123 (spec_l9Used_ok (S := TT) (Plan_mkv (x := p) (H.rt 4 rfl) (H.rt 3 rfl) (H.rt 2 rfl)) mk_int hy) fun v w a hp hf => ?_)
   obtain ⟨hb, hp⟩ := hp
   obtain rfl := VR_int hp
   have H := H.keep hb
   have hS := H.lk 3 0 0 [0]
   refine aS hS ?_
   refine zp 8 hf hS fun a hf => ?_
   refine zp 9 hf hS fun a hf => ?_
   refine dk ?_
   have hf := hf.pn [2, 3, 5, 6]
   refine blk_n (then_n (reg (pz 3 hf fun a hf => ?_)))
   refine wl_end ?_
   have hf := hf.pn [2, 3, 5, 6]
   have H := H.lm 3 0 0 5 30
   exact then_n ⟨(bor out' y, w64 (i + 1)), hR1, hf, H⟩
  ·refine wp_exit (then_x (then_x (blk_e (?_))))
   have hf := hf.pn [2, 3, 5, 6]
   have H := H.lm 3 0 0 4 15
   exact ⟨(out', i), (Option.some.inj hR1).symm, hf, H⟩
 rintro a w ⟨⟨out3, i2⟩, rfl, hf, H⟩
 try dsimp only at hF
 refine then_n (sqz (pz 2 hf fun a hf => ?_))
 refine wer ?_
 obtain rfl := oi hF
 refine rT hf ?_
 exact ⟨_, rfl, H.bel, mk_int⟩
theorem spec_l8Fits_ok {S : Nat → Prop} {v0_ : Value} {v1_ : Value} {mask : Int} {count : Int} {r : List Int} (h0 : VR w0 S v0_ mask) (h1 : VR w0 S v1_ count) (hF : spec_l8Fits fu mask count = some r) :
    Calls Tryz.prog 89 [v0_, v1_].toArray w0 fun e w' => ∃ v, e = .returned v ∧ (Below w0.heap.size w0 w' ∧ ∃ F0, VO w' F0 v r ∧ New w0 w' F0) := by
 obtain rfl := VR_int h0
 obtain rfl := VR_int h1
 have H := Mem.start ⟨w0, []⟩ S
 refine en Tryz.func89 fun a hf => ?_
 rw [spec_l8Fits] at hF
 refine sqz (pz 1 hf fun a hf => ?_)
 refine wr (wl0 rfl (bl hf H 3 ([] : List Int) [] el0 fun A a w hf H => ?_))
 refine pz 1 hf fun a hf => ?_
 refine we (sqz (pz 1 hf fun a hf => ?_))
 refine wl_end (then_n ?_)
 obtain ⟨out2, hB1, hF⟩ := bs_ hF
 have hf := hf.pn [0, 1, 5, 6]
 have H := H.lk 0 1 0 []
 refine loopC (fun (s : List Int × Int) (a : Act) (w : World) => match s with | (out', s') => ∃ (A2 : Option Addr) (c : Nat) (E : Go.TypeId), Fr a 26 [(0, (.int .i64 mask)), (1, (.int .i64 count)), (5, (.slice A2 out'.length c)), (6, (.int .i64 s'))] ∧ Mem ⟨w0, []⟩ S [] [⟨.sh true, E, A2, c, (out' : List Int)⟩] [] [] w) (fun k (s : List Int × Int) => spec_l8Fits_L1 fu mask count k s.1 s.2 = some out2) (fun s => out2 = s) (([] : List Int), 0) fu hB1 ⟨A, 0, 3, hf, H⟩ (fun s h => by cases h) ?_ ?_
 ·rintro fk ⟨out', s'⟩ a w hR1 hI
  replace hR1 : spec_l8Fits_L1 fu mask count (fk + 1) out' s' = some out2 := hR1
  rw [spec_l8Fits_L1] at hR1
  obtain ⟨A2, c, E, hf, H⟩ := hI
  refine sq (sqz (pz 4 hf fun a hf => ?_))
  refine wl_end (then_n (ib hR1 hf (fun hc hR1 => ?_) fun hc hR1 => ?_))
  ·refine ws (pz 3 hf fun a hf => ?_)
   refine oq hf (rq_build hf (cs := [(.int .i64 s'), (.int .i64 count)]) rfl (fun w => by kernel_rfl)) fun a hf => ?_
   obtain ⟨y, hy, hR1⟩ := bs_ hR1
   refine oc hf TF.cl119 (spec_l8Bits_ok (S := TT) Block_mkv hy) fun v w a hp hf => ?_
   obtain ⟨hb, hp⟩ := hp
   obtain rfl := VR_int hp
   have H := H.keep hb
   refine pz 2 hf fun a hf => ?_
   refine wl_end (then_n (ib hR1 hf (fun hc2 hR1 => ?_) fun hc2 hR1 => ?_))
   ·refine reg (pz 2 hf fun a hf => ?_)
    refine wl0 rfl (bl hf H 3 ([s'] : List Int) [(.int .i64 s')] (el1 (y := s') (rfl)) fun A3 a w hf H => ?_)
    obtain ⟨l, hl_, hR1⟩ := bs_ hR1
    refine wl0 rfl (op_appR hf H Tryz.underlying28 TF.ai3 rfl (by decide) 1 0 rfl rfl rfl rfl (.inr rfl) hl_ (by decide) fun E2 A4 c2 a w hf H => ?_)
    refine pz 1 hf fun a hf => ?_
    have hf := hf.pn [0, 1, 5, 6]
    refine wl_end (blk_n (then_n (reg (pz 3 hf fun a hf => ?_))))
    refine wl_end ?_
    have hf := hf.pn [0, 1, 5, 6]
    have H := H.lk 0 2 0 []
    exact then_n ⟨(l, w64 (s' + 1)), hR1, A4, c2, E2, hf, H⟩
   ·refine wp_skip (blk_n (then_n (reg (pz 3 hf fun a hf => ?_))))
    have hf := hf.pn [0, 1, 5, 6]
    refine wl_end ?_
    have hf := hf.pn [0, 1, 5, 6]
    have H := H.lk 0 1 0 []
    exact then_n ⟨(out', w64 (s' + 1)), hR1, A2, c, E, hf, H⟩
  ·refine wp_exit (then_x (then_x (blk_e (?_))))
   have hf := hf.pn [0, 1, 5, 6]
   have H := H.lk 0 1 0 []
   exact ⟨(out', s'), (Option.some.inj hR1).symm, A2, c, E, hf, H⟩
 rintro a w ⟨⟨out3, s2⟩, rfl, A5, c3, E3, hf, H⟩
 try dsimp only at hF
 refine then_n (sqz (pz 2 hf fun a hf => ?_))
 refine wer ?_
 have H := H.rowOwn 0 rfl rfl
 obtain ⟨F, H⟩ := H.freezeOwn 0 rfl
 have H := H.lend 0 rfl
 obtain rfl := oi hF
 refine rT hf ?_
 have hN := H.ends1
 exact ⟨_, rfl, H.bel, F, (mko_list (H.ownAt 0 rfl)), by first | exact hN | simpa using hN⟩
theorem spec_l2Own_ok {S : Nat → Prop} {v0_ : Value} {n' : Network} {r : Network} (h0 : VR w0 S v0_ n') (hF : spec_l2Own fu n' = some r) :
    Calls Tryz.prog 152 [v0_].toArray w0 fun e w' => ∃ v, e = .returned v ∧ (Below w0.heap.size w0 w' ∧ ∃ F0, VO w' F0 v r ∧ New w0 w' F0) := by
 obtain ⟨A, c, A2, c2, rfl, hl, hl2⟩ := Network_open h0
 have H := Mem.start ⟨w0, []⟩ S
 have H := H.pA hl
 have H := H.pA hl2
 refine en Tryz.func152 fun a hf => ?_
 rw [spec_l2Own] at hF
 refine bx hf H fun b' a w hf H => ?_
 refine aL hf H TF.zv27 fun b2 a w hf H => ?_
 refine wl_end (then_n (sq ?_))
 obtain ⟨l, hl_, hF⟩ := bs_ hF
 obtain ⟨l2, hl2_, hF⟩ := bs_ hF
 refine mid (fun a w => ∃ (A4 : Option Addr) (c3 : Nat) (E : Go.TypeId) (A6 : Option Addr) (c4 : Nat) (E2 : Go.TypeId), Fr a 12 [(2, (.pointer (some ⟨b2, 0, none⟩)))] ∧ Mem ⟨w0, []⟩ S [⟨b2, 27, [(.slice A4 l.length c3), (.slice A6 l2.length c4)]⟩] [⟨.sh true, E2, A6, c4, (l2 : List Fiber)⟩, ⟨.sh true, E, A4, c3, (l : List ByteArray)⟩] [] [] w) ?_ ?_
 ·refine dw [9] 10 fun w hb => ?_
  have H := H.keep hb
  refine zp 1 hf trivial fun a hf => ?_
  refine strT (H.lk 2 0 0 []) (fun w H => trivial) fun hS => ?_
  refine zS 2 [2, 3, 7, 8, 9] rfl rfl rfl rfl hf hS (fun w H => rq_loadB hf H TF.ls24 0 rfl rfl rfl) fun a hf => ?_
  refine zp 5 hf hS fun a hf => ?_
  refine zS 6 [6, 7, 8, 9] rfl rfl rfl rfl hf hS (fun w H => rq_loadB hf H TF.ls25 0 rfl rfl rfl) fun a hf => ?_
  refine on2 (i := 0) (j := 4) (bi := [true, true, true, false, false, true, true, false, false, false]) (bj := [false, true, true, false, true, true, true, false, false, false]) (by kernel_rfl) rfl rfl rfl rfl rfl rfl ?_ ?_
  ·refine (bl hf H 9 ([] : List ByteArray) [] el0 fun A3 a w hf H => ?_)
   have hS := H.lk 2 0 0 []
   refine aS hS ?_
   refine on2 (i := 3) (j := 4) (bi := [true, true, true, true, false, true, true, false, false, false]) (bj := [true, true, true, false, true, true, true, false, false, false]) (by kernel_rfl) rfl rfl rfl rfl rfl rfl ?_ ?_
   ·have H := H.rowWeak 0 rfl
    refine (op_appI hf H Tryz.underlying24 TF.ai9 rfl (by decide) 0 1 rfl rfl rfl rfl (.inl rfl) hl_ (by decide) fun E A4 c3 a w hf H => ?_)
    have H := H.rowOwn 0 rfl rfl
    have H := H.rowSh 0 rfl
    have hS := H.lk 2 0 0 []
    refine aS hS ?_
    refine nn 4 rfl (bl hf H 63 ([] : List Fiber) [] el0 fun A5 a w hf H => ?_)
    have hS := H.lk 2 0 0 []
    refine aS hS ?_
    have H := H.rowWeak 0 rfl
    refine nn 7 rfl (op_appI hf H Tryz.underlying25 TF.ai63 rfl (by decide) 0 0 rfl rfl rfl rfl (.inl rfl) hl2_ (by decide) fun E2 A6 c4 a w hf H => ?_)
    have H := H.rowOwn 0 rfl rfl
    have H := H.rowSh 0 rfl
    have hS := H.lk 2 0 0 []
    refine aS hS ?_
    refine zP 8 rfl rfl rfl rfl hf hS (fun w => rq_build hf (cs := [(.slice A4 l.length c3), (.slice A6 l2.length c4)]) rfl (fun w => by kernel_rfl)) fun a hf => ?_
    refine nn 9 rfl (op_storeB hf H 0 TF.sz27 rfl rfl rfl rfl rfl rfl (nle rfl) fun w H => ?_)
    refine ⟨fun h => absurd h (by decide), ?_⟩
    refine dk ?_
    have hf := hf.pn [2]
    have H := H.lk 1 3 0 []
    exact ⟨A4, c3, E, A6, c4, E2, hf, H⟩
   ·refine (bl hf H 63 ([] : List Fiber) [] el0 fun A4 a w hf H => ?_)
    have hS := H.lk 2 0 0 []
    refine aS hS ?_
    have H := H.rowWeak 1 rfl
    refine nn 3 rfl (op_appI hf H Tryz.underlying24 TF.ai9 rfl (by decide) 1 1 rfl rfl rfl rfl (.inl rfl) hl_ (by decide) fun E A5 c3 a w hf H => ?_)
    have H := H.rowOwn 1 rfl rfl
    have H := H.rowSh 1 rfl
    have hS := H.lk 2 0 0 []
    refine aS hS ?_
    have H := H.rowWeak 0 rfl
    refine nn 7 rfl (op_appI hf H Tryz.underlying25 TF.ai63 rfl (by decide) 0 0 rfl rfl rfl rfl (.inl rfl) hl2_ (by decide) fun E2 A6 c4 a w hf H => ?_)
    have H := H.rowOwn 0 rfl rfl
    have H := H.rowSh 0 rfl
    have hS := H.lk 2 0 0 []
    refine aS hS ?_
    refine zP 8 rfl rfl rfl rfl hf hS (fun w => rq_build hf (cs := [(.slice A5 l.length c3), (.slice A6 l2.length c4)]) rfl (fun w => by kernel_rfl)) fun a hf => ?_
    refine nn 9 rfl (op_storeB hf H 0 TF.sz27 rfl rfl rfl rfl rfl rfl (nle rfl) fun w H => ?_)
    refine ⟨fun h => absurd h (by decide), ?_⟩
    refine dk ?_
    have hf := hf.pn [2]
    have H := H.lk 1 3 0 []
    exact ⟨A5, c3, E, A6, c4, E2, hf, H⟩
  ·refine (bl hf H 63 ([] : List Fiber) [] el0 fun A3 a w hf H => ?_)
   have hS := H.lk 2 0 0 []
   refine aS hS ?_
   refine nn 0 rfl (bl hf H 9 ([] : List ByteArray) [] el0 fun A4 a w hf H => ?_)
   have hS := H.lk 2 0 0 []
   refine aS hS ?_
   have H := H.rowWeak 0 rfl
   refine nn 3 rfl (op_appI hf H Tryz.underlying24 TF.ai9 rfl (by decide) 0 1 rfl rfl rfl rfl (.inl rfl) hl_ (by decide) fun E A5 c3 a w hf H => ?_)
   have H := H.rowOwn 0 rfl rfl
   have H := H.rowSh 0 rfl
   have hS := H.lk 2 0 0 []
   refine aS hS ?_
   have H := H.rowWeak 1 rfl
   refine nn 7 rfl (op_appI hf H Tryz.underlying25 TF.ai63 rfl (by decide) 1 0 rfl rfl rfl rfl (.inl rfl) hl2_ (by decide) fun E2 A6 c4 a w hf H => ?_)
   have H := H.rowOwn 1 rfl rfl
   have H := H.rowSh 1 rfl
   have hS := H.lk 2 0 0 []
   refine aS hS ?_
   refine zP 8 rfl rfl rfl rfl hf hS (fun w => rq_build hf (cs := [(.slice A5 l.length c3), (.slice A6 l2.length c4)]) rfl (fun w => by kernel_rfl)) fun a hf => ?_
   refine nn 9 rfl (op_storeB hf H 0 TF.sz27 rfl rfl rfl rfl rfl rfl (nle rfl) fun w H => ?_)
   refine ⟨fun h => absurd h (by decide), ?_⟩
   refine dk ?_
   have H := H.frontR 1 rfl
   have hf := hf.pn [2]
   have H := H.lk 1 3 0 []
   exact ⟨A5, c3, E, A6, c4, E2, hf, H⟩
 rintro a w ⟨A4, c3, E, A6, c4, E2, hf, H⟩
 refine then_n (wp_ret (?_))
 have H := H.rowOwn 1 rfl rfl
 obtain ⟨F, H⟩ := H.freezeOwn 1 rfl
 have H := H.lend 0 rfl
 have H := H.rowOwn 0 rfl rfl
 obtain ⟨F2, H⟩ := H.freezeOwn 0 rfl
 have H := H.lend 0 rfl
 have H := H.frontD 1 rfl
 obtain rfl := oi hF
 refine ret_1 hf rfl (rv_cellN hf H 0 TF.la27 rfl rfl rfl) ?_
 have hN := H.ends2
 exact ⟨_, rfl, H.bel, (F ++ F2), ⟨_, Network_ownmk (x := ({ Nodes := l, Fibers := l2 } : Network)) (H.ownAt 0 rfl) (H.ownAt 1 rfl), rfl⟩, by first | exact hN | simpa using hN⟩
theorem spec_l1Own_ok {S : Nat → Prop} {v0_ : Value} {l : List Int} {r : List Int} (h0 : VR w0 S v0_ l) (hF : spec_l1Own fu l = some r) :
    Calls Tryz.prog 167 [v0_].toArray w0 fun e w' => ∃ v, e = .returned v ∧ (Below w0.heap.size w0 w' ∧ ∃ F0, VO w' F0 v r ∧ New w0 w' F0) := by
 obtain ⟨A, c, rfl, hl⟩ := VR_list h0
 have H := Mem.start ⟨w0, []⟩ S
 have H := H.pA hl
 refine en Tryz.func167 fun a hf => ?_
 rw [spec_l1Own] at hF
 refine sqz (pz 1 hf fun a hf => ?_)
 refine wr (wl0 rfl (bl hf H 3 ([] : List Int) [] el0 fun A2 a w hf H => ?_))
 refine pz 1 hf fun a hf => ?_
 obtain ⟨l2, hl2_, hF⟩ := bs_ hF
 have H := H.rowWeak 0 rfl
 refine wl0 rfl (op_appI hf H Tryz.underlying28 TF.ai3 rfl (by decide) 0 0 rfl rfl rfl rfl (.inl rfl) hl2_ (by decide) fun E A3 c2 a w hf H => ?_)
 have H := H.rowOwn 0 rfl rfl
 have H := H.rowSh 0 rfl
 refine pz 1 hf fun a hf => ?_
 refine wer ?_
 have H := H.rowOwn 0 rfl rfl
 obtain ⟨F, H⟩ := H.freezeOwn 0 rfl
 have H := H.lend 0 rfl
 obtain rfl := oi hF
 refine rT hf ?_
 have hN := H.ends1
 exact ⟨_, rfl, H.bel, F, (mko_list (H.ownAt 0 rfl)), by first | exact hN | simpa using hN⟩
theorem spec_l4Own_ok {S : Nat → Prop} {v0_ : Value} {r' : Route} {r : Route} (h0 : VR w0 S v0_ r') (hF : spec_l4Own fu r' = some r) :
    Calls Tryz.prog 153 [v0_].toArray w0 fun e w' => ∃ v, e = .returned v ∧ (Below w0.heap.size w0 w' ∧ ∃ F0, VO w' F0 v r ∧ New w0 w' F0) := by
 obtain ⟨A, c, rfl, hl⟩ := Route_open h0
 have H := Mem.start ⟨w0, []⟩ S
 have H := H.pA hl
 refine en Tryz.func153 fun a hf => ?_
 rw [spec_l4Own] at hF
 refine bx hf H fun b' a w hf H => ?_
 refine aL hf H TF.zv30 fun b2 a w hf H => ?_
 refine wl_end (then_n (sq (dw [6] 7 fun w hb => ?_)))
 have H := H.keep hb
 refine zp 0 hf trivial fun a hf => ?_
 refine strT (H.lk 2 0 0 []) (fun w H => trivial) fun hS => ?_
 refine zS 1 [1, 5, 6] rfl rfl rfl rfl hf hS (fun w H => rq_loadB hf H TF.ls3 0 rfl rfl rfl) fun a hf => ?_
 refine zp 2 hf hS fun a hf => ?_
 refine zS 3 [3, 4, 5, 6] rfl rfl rfl rfl hf hS (fun w H => rq_loadB hf H TF.ls28 0 rfl rfl rfl) fun a hf => ?_
 obtain ⟨y, hy, hF⟩ := bs_ hF
 refine nn 4 rfl (oC hf TF.cl167 (spec_l1Own_ok (S := TT) (mk_list (H.rt 0 rfl)) hy) fun v w a hp hf => ?_)
 obtain ⟨hb, F, hp2, hN⟩ := hp
 obtain ⟨A2, c2, rfl, hl2⟩ := VO_list hp2
 have H := H.aO1 hb hN hl2
 have H := H.lend 0 rfl
 have hS := H.lk 2 0 0 []
 refine aS hS ?_
 refine zP 5 rfl rfl rfl rfl hf hS (fun w => rq_build hf (cs := [(.int .i64 r'.Start), (.slice A2 y.length c2)]) rfl (fun w => by kernel_rfl)) fun a hf => ?_
 refine nn 6 rfl (op_storeB hf H 0 TF.sz30 rfl rfl rfl rfl rfl rfl (nle rfl) fun w H => ?_)
 refine ⟨fun h => absurd h (by decide), ?_⟩
 refine dk ?_
 refine then_n (wp_ret (?_))
 obtain rfl := oi hF
 refine ret_1 hf rfl (rv_cellN hf H 0 TF.la30 rfl rfl rfl) ?_
 have hN := H.ends1
 exact ⟨_, rfl, H.bel, F, ⟨_, Route_ownmk (x := ({ Start := r'.Start, Fibers := y } : Route)) (H.ownAt 0 rfl), rfl⟩, by first | exact hN | simpa using hN⟩
theorem spec_l9Copy_ok {S : Nat → Prop} {v0_ : Value} {x1 : Light} {r : Light} (h0 : VR w0 S v0_ x1) (hF : spec_l9Copy fu x1 = some r) :
    Calls Tryz.prog 125 [v0_].toArray w0 fun e w' => ∃ v, e = .returned v ∧ (Below w0.heap.size w0 w' ∧ ∃ F0, VO w' F0 v r ∧ New w0 w' F0) := by
 obtain ⟨A, c, rfl, hl⟩ := Light_open h0
 have H := Mem.start ⟨w0, []⟩ S
 have H := H.pA hl
 refine en Tryz.func125 fun a hf => ?_
 rw [spec_l9Copy] at hF
 refine bx hf H fun b' a w hf H => ?_
 refine aL hf H TF.zv80 fun b2 a w hf H => ?_
 refine wl_end (then_n (sq (dw [8] 9 fun w hb => ?_)))
 have H := H.keep hb
 refine zp 0 hf trivial fun a hf => ?_
 refine strT (H.lk 2 0 0 []) (fun w H => trivial) fun hS => ?_
 refine zS 1 [1, 7, 8] rfl rfl rfl rfl hf hS (fun w H => rq_loadB hf H TF.ls3 0 rfl rfl rfl) fun a hf => ?_
 refine zp 2 hf hS fun a hf => ?_
 refine zS 3 [3, 4, 7, 8] rfl rfl rfl rfl hf hS (fun w H => rq_loadBN hf H TF.la30 0 rfl rfl rfl rfl) fun a hf => ?_
 refine zp 5 hf hS fun a hf => ?_
 refine zS 6 [6, 7, 8] rfl rfl rfl rfl hf hS (fun w H => rq_loadBN hf H TF.la45 0 rfl rfl rfl rfl) fun a hf => ?_
 obtain ⟨y, hy, hF⟩ := bs_ hF
 refine nn 4 rfl (oC hf TF.cl153 (spec_l4Own_ok (S := TT) (Route_mkv (x := x1.Route) (H.rt 0 rfl)) hy) fun v w a hp hf => ?_)
 obtain ⟨hb, F, hp2, hN⟩ := hp
 obtain ⟨A2, c2, F2, rfl, rfl, hl2⟩ := Route_vo hp2
 have H := H.aO1 hb hN hl2
 have H := H.lend 0 rfl
 have hS := H.lk 2 0 0 []
 refine aS hS ?_
 refine zP 7 rfl rfl rfl rfl hf hS (fun w => rq_build hf (cs := [(.int .i64 x1.Id), (.int .i64 y.Start), (.slice A2 y.Fibers.length c2), (.int .i64 x1.Block.First), (.int .i64 x1.Block.Count)]) rfl (fun w => by kernel_rfl)) fun a hf => ?_
 refine nn 8 rfl (op_storeB hf H 0 TF.sz80 rfl rfl rfl rfl rfl rfl (nle rfl) fun w H => ?_)
 refine ⟨fun h => absurd h (by decide), ?_⟩
 refine dk ?_
 refine then_n (wp_ret (?_))
 obtain rfl := oi hF
 refine ret_1 hf rfl (rv_cellN hf H 0 TF.la80 rfl rfl rfl) ?_
 have hN := H.ends1
 exact ⟨_, rfl, H.bel, F2, ⟨_, Light_ownmk (x := ({ Id := x1.Id, Route := y, Block := x1.Block } : Light)) (H.ownAt 0 rfl), rfl⟩, by first | exact hN | simpa using hN⟩
theorem spec_l9Own_ok {S : Nat → Prop} {v0_ : Value} {p : Plan} {r : Plan} (h0 : VR w0 S v0_ p) (hF : spec_l9Own fu p = some r) :
    Calls Tryz.prog 124 [v0_].toArray w0 fun e w' => ∃ v, e = .returned v ∧ (Below w0.heap.size w0 w' ∧ ∃ F0, VO w' F0 v r ∧ New w0 w' F0) := by
 obtain ⟨A, c, A2, c2, A3, c3, rfl, hl, hl2, hl3⟩ := Plan_open h0
 have H := Mem.start ⟨w0, []⟩ S
 have H := H.pA hl
 have H := H.pA hl2
 have H := H.pA hl3
 refine en Tryz.func124 fun a hf => ?_
 rw [spec_l9Own] at hF
 refine bx hf H fun b' a w hf H => ?_
 refine aL hf H TF.zv53 fun b2 a w hf H => ?_
 refine wr (pz 1 hf fun a hf => ?_)
 refine lN 1 hf H TF.la27 fun a hf => ?_
 obtain ⟨y, hy, hF⟩ := bs_ hF
 refine oc hf TF.cl152 (spec_l2Own_ok (S := TT) (Network_mkv (x := p.Network) (H.rt 2 rfl) (H.rt 1 rfl)) hy) fun v w a hp hf => ?_
 obtain ⟨hb, F, hp2, hN⟩ := hp
 obtain ⟨A4, c4, F2, A5, c5, F3, rfl, rfl, hl4, hl5⟩ := Network_vo hp2
 have H := H.aO2 hb hN hl4 hl5
 have H := H.lend 0 rfl
 have H := H.lend 1 rfl
 refine oq hf (rq_build hf (cs := [(.slice A4 y.Nodes.length c4), (.slice A5 y.Fibers.length c5), (.slice none 0 0)]) rfl (fun w => by kernel_rfl)) fun a hf => ?_
 refine aL hf H TF.zv53 fun b3 a w hf H => ?_
 refine sB 0 hf H TF.sz53 fun w H => ?_
 refine we (sqz (pz 1 hf fun a hf => ?_))
 refine wl_end (then_n ?_)
 have H := H.nilRow (Light) (.ow []) rfl rfl 80
 obtain ⟨out', hB1, hF⟩ := bs_ hF
 have hf := hf.pn [1, 2, 3, 4]
 have H := H.lm 7 1 3 5 31
 refine loopC (fun (s : Int × List Light) (a : Act) (w : World) => match s with | (i, m) => ∃ (A6 : Option Addr) (c6 : Nat) (E : Go.TypeId) (Fs : List (List Nat)), Fr a 28 [(1, (.pointer (some ⟨b', 0, none⟩))), (2, (.pointer (some ⟨b2, 0, none⟩))), (3, (.pointer (some ⟨b3, 0, none⟩))), (4, (.int .i64 i))] ∧ Mem ⟨w0, []⟩ S [⟨b3, 53, [(.slice A4 y.Nodes.length c4), (.slice A5 y.Fibers.length c5), (.slice A6 m.length c6)]⟩, ⟨b2, 53, [(.slice none 0 0), (.slice none 0 0), (.slice none 0 0)]⟩, ⟨b', 53, [(.slice A p.Network.Nodes.length c), (.slice A2 p.Network.Fibers.length c2), (.slice A3 p.Lights.length c3)]⟩] [⟨.ow Fs, E, A6, c6, (m : List Light)⟩] [⟨F2, MP.own F2 [(.slice A4 y.Nodes.length c4)] (y.Nodes : List ByteArray)⟩, ⟨F3, MP.own F3 [(.slice A5 y.Fibers.length c5)] (y.Fibers : List Fiber)⟩] [(true, MP.val [(.slice A5 y.Fibers.length c5)] (y.Fibers : List Fiber)), (true, MP.val [(.slice A4 y.Nodes.length c4)] (y.Nodes : List ByteArray)), (false, MP.val [(.slice A3 p.Lights.length c3)] (p.Lights : List Light)), (false, MP.val [(.slice A2 p.Network.Fibers.length c2)] (p.Network.Fibers : List Fiber)), (false, MP.val [(.slice A p.Network.Nodes.length c)] (p.Network.Nodes : List ByteArray))] w) (fun k (s : Int × List Light) => spec_l9Own_L1 fu p k s.1 s.2 = some out') (fun s => out' = s) (0, ([] : List Light)) fu hB1 ⟨none, 0, 80, [], hf, H⟩ (fun s h => by cases h) ?_ ?_
 ·rintro fk ⟨i, m⟩ a w hR1 hI
  replace hR1 : spec_l9Own_L1 fu p (fk + 1) i m = some out' := hR1
  rw [spec_l9Own_L1] at hR1
  obtain ⟨A6, c6, E, Fs, hf, H⟩ := hI
  refine sq (sqz (pz 2 hf fun a hf => ?_))
  refine lB 2 hf H TF.ls51 fun a hf => ?_
  refine pz 2 hf fun a hf => ?_
  refine wl_end (then_n (ib hR1 hf (fun hc hR1 => ?_) fun hc hR1 => ?_))
  ·refine wp_skip (then_n (sq (wp_block (dw [11] 12 fun w hb => ?_))))
   have H := H.keep hb
   refine zp 0 hf trivial fun a hf => ?_
   refine strT (H.lk 1 0 0 []) (fun w H => trivial) fun hS => ?_
   refine zS 1 [1, 9, 10, 11] rfl rfl rfl rfl hf hS (fun w H => rq_loadB hf H TF.ls51 0 rfl rfl rfl) fun a hf => ?_
   refine zp 2 hf hS fun a hf => ?_
   refine strT (H.lk 5 0 0 []) (fun w H => H.lk 1 0 0 []) fun hS => ?_
   refine zS 3 [3, 5, 6, 7, 8, 9, 10, 11] rfl rfl rfl rfl hf hS (fun w H => rq_loadB hf H TF.ls51 1 rfl rfl rfl) fun a hf => ?_
   refine zp 4 hf hS fun a hf => ?_
   obtain ⟨e, he, hR1⟩ := bs_ hR1
   obtain ⟨p2, o, cs, hx, hr, H⟩ := pre_iaddr H Tryz.underlying51 TF.sz80 2 rfl he
   refine zP 5 rfl rfl rfl rfl hf hS (fun w => rq_iaddrE hf rfl rfl rfl hx w) fun a hf => ?_
   obtain ⟨A7, c7, rfl, hl6⟩ := Light_cells hr
   have H := H.pF hl6
   refine strT (H.lk 5 0 0 [1]) (fun w H => H.lk 3 0 0 []) fun hS => ?_
   refine zS 6 [6, 7, 8, 9, 10, 11] rfl rfl rfl rfl hf hS (fun w H => rq_loadIN hf H TF.la80 0 0 rfl rfl rfl rfl) fun a hf => ?_
   obtain ⟨y2, hy2, hR1⟩ := bs_ hR1
   refine nn 7 rfl (oC hf TF.cl125 (spec_l9Copy_ok (S := TT) (Light_mkv (x := e) (H.rt 0 rfl)) hy2) fun v2 w a hp3 hf => ?_)
   obtain ⟨hb2, F4, hp4, hN2⟩ := hp3
   obtain ⟨A8, c8, F5, rfl, rfl, hl7⟩ := Light_vo hp4
   have H := H.aO1 hb2 hN2 hl7
   have H := H.lend 0 rfl
   have hS := H.lk 5 0 0 [2]
   refine aS hS ?_
   have H := H.recast (X := [(⟨F5, MP.own F5 [(.slice A8 y2.Route.Fibers.length c8)] (y2.Route.Fibers : List Int)⟩ : DI)]) (Y := [(⟨F5, MP.own F5 [(.int .i64 y2.Id), (.int .i64 y2.Route.Start), (.slice A8 y2.Route.Fibers.length c8), (.int .i64 y2.Block.First), (.int .i64 y2.Block.Count)] (y2 : Light)⟩ : DI)]) (List.Perm.of_eq (by simp)) fun _ => ps1 (Light_ownmk (x := y2) (H.ownAt 0 rfl)) ps0
   refine nn 8 rfl (op_bsliceO hf 80 H rfl (fun w => by kernel_rfl) (by decide) fun A9 a w hf H => ?_)
   have hS := H.lk 5 0 0 [2]
   refine aS hS ?_
   obtain ⟨al, hal, hR1⟩ := bs_ hR1
   have H := H.frontR 1 rfl
   refine nn 9 rfl (op_appO hf H Tryz.underlying51 TF.ai80 rfl (by decide) rfl rfl hal (by decide) fun E2 A10 c9 a w hf H => ?_)
   have hS := H.lk 5 0 0 [2]
   refine aS hS ?_
   refine zp 10 hf hS fun a hf => ?_
   refine nn 11 rfl (op_storeB hf H 0 TF.sz51 rfl rfl rfl rfl rfl rfl (nle rfl) fun w H => ?_)
   refine ⟨fun h => absurd h (by decide), ?_⟩
   refine dk ?_
   have hf := hf.pn [1, 2, 3, 4]
   refine blk_n (then_n (reg (pz 3 hf fun a hf => ?_)))
   refine wl_end ?_
   have hf := hf.pn [1, 2, 3, 4]
   have H := H.lm 7 1 3 8 248
   exact then_n ⟨(w64 (i + 1), al), hR1, A10, c9, E2, Fs ++ [F5], hf, H⟩
  ·refine wp_exit (then_x (then_x (blk_e (?_))))
   have hf := hf.pn [1, 2, 3, 4]
   have H := H.lm 7 1 3 5 31
   exact ⟨(i, m), (Option.some.inj hR1).symm, A6, c6, E, Fs, hf, H⟩
 rintro a w ⟨⟨i2, m2⟩, rfl, A11, c10, E3, Fs2, hf, H⟩
 try dsimp only at hF
 refine then_n (sq (reg (lN 0 hf H TF.la53 fun a hf => ?_)))
 refine sB 1 hf H TF.sz53 fun w H => ?_
 refine wer ?_
 obtain ⟨F6, H⟩ := H.freezeOwn 0 rfl
 have H := H.lend 0 rfl
 have H := H.frontD 2 rfl
 have H := H.frontD 2 rfl
 obtain rfl := oi hF
 refine ret_1 hf rfl (rv_cellN hf H 1 TF.la53 rfl rfl rfl) ?_
 have hN := H.ends3
 exact ⟨_, rfl, H.bel, (F2 ++ (F3 ++ F6)), ⟨_, Plan_ownmk (x := ({ Network := y, Lights := m2 } : Plan)) (H.ownAt 0 rfl) (H.ownAt 1 rfl) (H.ownAt 2 rfl), rfl⟩, by first | exact hN | simpa using hN⟩
theorem spec_l9Put_ok {S : Nat → Prop} {v0_ : Value} {v1_ : Value} {p : Plan} {x1 : Light} {r : Plan} (h0 : VR w0 S v0_ p) (h1 : VR w0 S v1_ x1) (hF : spec_l9Put fu p x1 = some r) :
    Calls Tryz.prog 91 [v0_, v1_].toArray w0 fun e w' => ∃ v, e = .returned v ∧ (∃ (A0_0 : Option Addr) (c0_0 : Nat) (F0_0 : List Nat) (A0_1 : Option Addr) (c0_1 : Nat) (F0_1 : List Nat) (A0_2 : Option Addr) (c0_2 : Nat) (E0_2 : Go.TypeId), v = (.agg #[(.slice A0_0 r.Network.Nodes.length c0_0), (.slice A0_1 r.Network.Fibers.length c0_1), (.slice A0_2 r.Lights.length c0_2)]) ∧ Mem ⟨w0, []⟩ S [] [⟨.sh true, E0_2, A0_2, c0_2, (r.Lights : List Light)⟩] [⟨F0_0, MP.own F0_0 [(.slice A0_0 r.Network.Nodes.length c0_0)] (r.Network.Nodes : List ByteArray)⟩, ⟨F0_1, MP.own F0_1 [(.slice A0_1 r.Network.Fibers.length c0_1)] (r.Network.Fibers : List Fiber)⟩] [] w') := by
 obtain ⟨A, c, A2, c2, A3, c3, rfl, hl, hl2, hl3⟩ := Plan_open h0
 obtain ⟨A4, c4, rfl, hl4⟩ := Light_open h1
 have H := Mem.start ⟨w0, []⟩ S
 have H := H.pA hl
 have H := H.pA hl2
 have H := H.pA hl3
 have H := H.pA hl4
 refine en Tryz.func91 fun a hf => ?_
 rw [spec_l9Put] at hF
 refine bx hf H fun b' a w hf H => ?_
 refine wl0 rfl (op_box hf H rfl rfl (by decide) fun b2 a w hf H => ?_)
 refine aL hf H TF.zv53 fun b3 a w hf H => ?_
 refine wr (lN 2 hf H TF.la53 fun a hf => ?_)
 obtain ⟨y, hy, hF⟩ := bs_ hF
 refine oc hf TF.cl124 (spec_l9Own_ok (S := TT) (Plan_mkv (x := p) (H.rt 3 rfl) (H.rt 2 rfl) (H.rt 1 rfl)) hy) fun v w a hp hf => ?_
 obtain ⟨hb, F, hp2, hN⟩ := hp
 obtain ⟨A5, c5, F2, A6, c6, F3, A7, c7, F4, rfl, rfl, hl5, hl6, hl7⟩ := Plan_vo hp2
 have H := H.aO3 hb (by first | exact hN | simpa using hN) hl5 hl6 hl7
 have H := H.lend 0 rfl
 have H := H.lend 1 rfl
 have H := H.lend 2 rfl
 refine aL hf H TF.zv53 fun b4 a w hf H => ?_
 refine sB 0 hf H TF.sz53 fun w H => ?_
 refine wr (pz 1 hf fun a hf => ?_)
 refine wl_end (then_n (sq ?_))
 obtain ⟨out', hB1, hF⟩ := bs_ hF
 have hf := hf.pn [3, 4, 5, 6]
 have H := H.lm 7 0 7 4 15
 refine loopC (fun (s : Int) (a : Act) (w : World) => match s with | i => Fr a 44 [(3, (.pointer (some ⟨b2, 0, none⟩))), (4, (.pointer (some ⟨b3, 0, none⟩))), (5, (.pointer (some ⟨b4, 0, none⟩))), (6, (.int .i64 i))] ∧ Mem ⟨w0, []⟩ S [⟨b4, 53, [(.slice A5 y.Network.Nodes.length c5), (.slice A6 y.Network.Fibers.length c6), (.slice A7 y.Lights.length c7)]⟩, ⟨b3, 53, [(.slice none 0 0), (.slice none 0 0), (.slice none 0 0)]⟩, ⟨b2, 80, [(.int .i64 x1.Id), (.int .i64 x1.Route.Start), (.slice A4 x1.Route.Fibers.length c4), (.int .i64 x1.Block.First), (.int .i64 x1.Block.Count)]⟩] [] [⟨F2, MP.own F2 [(.slice A5 y.Network.Nodes.length c5)] (y.Network.Nodes : List ByteArray)⟩, ⟨F3, MP.own F3 [(.slice A6 y.Network.Fibers.length c6)] (y.Network.Fibers : List Fiber)⟩, ⟨F4, MP.own F4 [(.slice A7 y.Lights.length c7)] (y.Lights : List Light)⟩] [(true, MP.val [(.slice A7 y.Lights.length c7)] (y.Lights : List Light)), (true, MP.val [(.slice A6 y.Network.Fibers.length c6)] (y.Network.Fibers : List Fiber)), (true, MP.val [(.slice A5 y.Network.Nodes.length c5)] (y.Network.Nodes : List ByteArray)), (false, MP.val [(.slice A4 x1.Route.Fibers.length c4)] (x1.Route.Fibers : List Int))] w) (fun k (s : Int) => spec_l9Put_L1 fu x1 y k s = some out') (fun s => out' = s) 0 fu hB1 ⟨hf, H⟩ (fun s h => by cases h) ?_ ?_
 ·rintro fk i a w hR1 hI
  replace hR1 : spec_l9Put_L1 fu x1 y (fk + 1) i = some out' := hR1
  rw [spec_l9Put_L1] at hR1
  obtain ⟨hf, H⟩ := hI
  refine sq (sq ?_)
  obtain ⟨c8, hGc8, hR1⟩ := bs_ hR1
  have fh := hf.prune [3, 4, 5, 6] rfl
  have Hm := H.lm 7 0 7 4 15
  refine midF 24 (.bool c8) fh Hm ?_ fun a w hf H => ?_
  ·refine dw [] 16 fun w hb => ?_
   have H := H.keep hb
   refine zp 0 hf trivial fun a hf => ?_
   refine zp 1 hf trivial fun a hf => ?_
   refine strT (H.lk 1 0 0 []) (fun w H => trivial) fun hS => ?_
   refine zS 2 [] rfl rfl rfl rfl hf hS (fun w H => rq_loadB hf H TF.ls51 0 rfl rfl rfl) fun a hf => ?_
   refine zp 3 hf hS fun a hf => ?_
   refine zp 4 hf hS fun a hf => ?_
   refine zp 5 hf hS fun a hf => ?_
   refine iteB hGc8 (fun hc hGc8 => ?_) fun hc hGc8 => ?_
   ·have hf := hf.lit 14 rfl hc
    refine zg 6 hf hS fun a hf => ?_
    refine tSg 7 [] rfl rfl rfl rfl rfl rfl hf (by kernel_rfl) (by kernel_rfl) hS (fun w H => rq_loadB hf H TF.ls51 0 rfl rfl rfl) fun a hf => ?_
    refine zg 8 hf hS fun a hf => ?_
    obtain ⟨e, he, hGc8⟩ := bs_ hGc8
    obtain ⟨p2, o, cs, hx, hr, H⟩ := pre_iaddr H Tryz.underlying51 TF.sz80 0 rfl he
    refine tPg 9 rfl rfl rfl rfl rfl rfl hf (by kernel_rfl) (fun _ => hS) (fun w => rq_iaddrE hf rfl rfl rfl hx w) fun a hf => ?_
    obtain ⟨A8, c9, rfl, hl8⟩ := Light_cells hr
    have H := H.pT hl8
    refine zg 10 hf hS fun a hf => ?_
    refine strT (H.lk 1 0 0 [1]) (fun w H => H.lk 1 0 0 []) fun hS => ?_
    refine tSg 11 [] rfl rfl rfl rfl rfl rfl hf (by kernel_rfl) (by kernel_rfl) hS (fun w H => rq_loadI hf H TF.ls3 0 0 rfl rfl rfl) fun a hf => ?_
    refine zg 12 hf hS fun a hf => ?_
    refine strT (H.lk 5 0 0 [1]) (fun w H => H.lk 1 0 0 [0]) fun hS => ?_
    refine tSg 13 [] rfl rfl rfl rfl rfl rfl hf (by kernel_rfl) (by kernel_rfl) hS (fun w H => rq_loadB hf H TF.ls3 1 rfl rfl rfl) fun a hf => ?_
    refine zg 14 hf hS fun a hf => ?_
    refine zp 15 hf hS fun a hf => ?_
    refine dk ?_
    obtain rfl := oi hGc8
    have hf := hf.pn [24, 3, 4, 5, 6]
    have H := H.lm 7 0 7 6 60
    exact ⟨hf, H⟩
   ·have hf := hf.lit 14 rfl hc
    refine zU 6 hf hS fun a hf => ?_
    refine zU 7 hf hS fun a hf => ?_
    refine zU 8 hf hS fun a hf => ?_
    refine zU 9 hf hS fun a hf => ?_
    refine zU 10 hf hS fun a hf => ?_
    refine zU 11 hf hS fun a hf => ?_
    refine zU 12 hf hS fun a hf => ?_
    refine zU 13 hf hS fun a hf => ?_
    refine zU 14 hf hS fun a hf => ?_
    refine zp 15 hf hS fun a hf => ?_
    refine dk ?_
    obtain rfl := oi hGc8
    have hf := hf.pn [24, 3, 4, 5, 6]
    have H := H.lm 7 0 7 4 15
    exact ⟨hf, H⟩
  refine then_n (ib hR1 hf (fun hc2 hR1 => ?_) fun hc2 hR1 => ?_)
  ·refine wp_skip (then_n (wp_block (reg (pz 3 hf fun a hf => ?_))))
   refine wl_end (blk_n ?_)
   have hf := hf.pn [3, 4, 5, 6]
   have H := H.lm 7 0 7 4 15
   exact then_n ⟨w64 (i + 1), hR1, hf, H⟩
  ·refine wp_exit (then_x (then_x (blk_e (?_))))
   have hf := hf.pn [3, 4, 5, 6]
   have H := H.lm 7 0 7 4 15
   exact ⟨i, (Option.some.inj hR1).symm, hf, H⟩
 rintro a w ⟨out', rfl, hf, H⟩
 refine then_n (sq (dw [16] 17 fun w hb => ?_))
 have H := H.keep hb
 refine zp 1 hf trivial fun a hf => ?_
 refine strT (H.lk 1 0 0 []) (fun w H => trivial) fun hS => ?_
 refine zS 2 [2, 4, 5, 7, 8, 9, 14, 15, 16] rfl rfl rfl rfl hf hS (fun w H => rq_loadB hf H TF.ls51 0 rfl rfl rfl) fun a hf => ?_
 refine zp 3 hf hS fun a hf => ?_
 obtain ⟨l, hl_, hF⟩ := bs_ hF
 obtain ⟨A9, c10, hx2, H⟩ := pre_slice H Tryz.underlying51 TF.sz80 0 (lov := none) (hiv := some (.int .i64 out')) (.inl ⟨rfl, rfl⟩) (.inr rfl) rfl hl_
 refine zP 4 rfl rfl rfl rfl hf hS (fun w => rq_sliceE hf rfl rfl rfl hx2 w) fun a hf => ?_
 refine strT (H.lk 5 0 0 []) (fun w H => H.lk 1 0 0 []) fun hS => ?_
 refine zS 6 [6, 7, 8, 9, 14, 15, 16] rfl rfl rfl rfl hf hS (fun w H => rq_loadBN hf H TF.la80 1 rfl rfl rfl rfl) fun a hf => ?_
 refine zp 10 hf hS fun a hf => ?_
 refine zS 11 [11, 13, 14, 15, 16] rfl rfl rfl rfl hf hS (fun w H => rq_loadB hf H TF.ls51 0 rfl rfl rfl) fun a hf => ?_
 refine zp 12 hf hS fun a hf => ?_
 obtain ⟨l2, hl2_, hF⟩ := bs_ hF
 obtain ⟨A10, c11, hx3, H⟩ := pre_slice H Tryz.underlying51 TF.sz80 1 (lov := some (.int .i64 out')) (hiv := none) (.inr rfl) (.inl ⟨rfl, rfl⟩) rfl hl2_
 refine zP 13 rfl rfl rfl rfl hf hS (fun w => rq_sliceE hf rfl rfl rfl hx3 w) fun a hf => ?_
 refine nn 0 rfl (bl hf H 80 ([] : List Light) [] el0 fun A11 a w hf H => ?_)
 have hS := H.lk 5 0 0 []
 refine aS hS ?_
 obtain ⟨l3, hl3_, hF⟩ := bs_ hF
 refine nn 5 rfl (op_appI hf H Tryz.underlying51 TF.ai80 rfl (by decide) 0 1 rfl rfl rfl rfl (.inr rfl) hl3_ (by decide) fun E A12 c12 a w hf H => ?_)
 have hS := H.lk 5 0 0 []
 refine aS hS ?_
 obtain ⟨y2, hy2, hF⟩ := bs_ hF
 refine nn 7 rfl (oC hf TF.cl125 (spec_l9Copy_ok (S := TT) (Light_mkv (x := x1) (H.rt 5 rfl)) hy2) fun v2 w a hp3 hf => ?_)
 obtain ⟨hb2, F5, hp4, hN2⟩ := hp3
 obtain ⟨A13, c13, F6, rfl, rfl, hl9⟩ := Light_vo hp4
 have H := H.aO1 hb2 hN2 hl9
 have H := H.lend 0 rfl
 have hS := H.lk 5 0 0 []
 refine aS hS ?_
 have H := H.recast (X := [(⟨F6, MP.own F6 [(.slice A13 y2.Route.Fibers.length c13)] (y2.Route.Fibers : List Int)⟩ : DI)]) (Y := [(⟨F6, MP.own F6 [(.int .i64 y2.Id), (.int .i64 y2.Route.Start), (.slice A13 y2.Route.Fibers.length c13), (.int .i64 y2.Block.First), (.int .i64 y2.Block.Count)] (y2 : Light)⟩ : DI)]) (List.Perm.of_eq (by simp)) fun _ => ps1 (Light_ownmk (x := y2) (H.ownAt 0 rfl)) ps0
 refine nn 8 rfl (op_bsliceO hf 80 H rfl (fun w => by kernel_rfl) (by decide) fun A14 a w hf H => ?_)
 have hS := H.lk 5 0 0 []
 refine aS hS ?_
 have H := H.rowSh 0 rfl
 obtain ⟨l4, hl4_, hF⟩ := bs_ hF
 refine nn 9 rfl (op_appR hf H Tryz.underlying51 TF.ai80 rfl (by decide) 1 0 rfl rfl rfl rfl (.inr rfl) hl4_ (by decide) fun E2 A15 c14 a w hf H => ?_)
 have hS := H.lk 5 0 0 []
 refine aS hS ?_
 obtain ⟨l5, hl5_, hF⟩ := bs_ hF
 refine nn 14 rfl (op_appI hf H Tryz.underlying51 TF.ai80 rfl (by decide) 1 1 rfl rfl rfl rfl (.inr rfl) hl5_ (by decide) fun E3 A16 c15 a w hf H => ?_)
 have hS := H.lk 5 0 0 []
 refine aS hS ?_
 refine zp 15 hf hS fun a hf => ?_
 refine nn 16 rfl (op_storeB hf H 0 TF.sz51 rfl rfl rfl rfl rfl rfl (nle rfl) fun w H => ?_)
 refine ⟨fun h => absurd h (by decide), ?_⟩
 refine dk ?_
 have hf := hf.pn [4, 5]
 refine then_n (sq (reg (lN 0 hf H TF.la53 fun a hf => ?_)))
 refine sB 1 hf H TF.sz53 fun w H => ?_
 refine wer ?_
 have H := H.lm 7 2 7 7 127
 have H := H.frontD 1 rfl
 have H := H.frontD 1 rfl
 obtain rfl := oi hF
 refine ret_1 hf rfl (rv_cellN hf H 1 TF.la53 rfl rfl rfl) ?_
 have H := H.lk 0 1 3 []
 exact ⟨_, rfl, A5, c5, F2, A6, c6, F3, A16, c15, E3, rfl, H⟩
end AT
