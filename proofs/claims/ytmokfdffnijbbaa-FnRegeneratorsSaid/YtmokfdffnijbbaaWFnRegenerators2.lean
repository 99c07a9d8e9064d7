/- The Go functions do what is told of them, by program (gen.py). -/
import Derived.Test.YtmokfdffnijbbaaWFnRegenerators1
set_option linter.unusedVariables false
set_option linter.unusedSimpArgs false
set_option maxRecDepth 100000
set_option maxHeartbeats 1000000
namespace AT
open Go Go.RowKit Go.Proofs
variable {fu : Nat} {w0 : World}
theorem spec_l4Walk_ok {S : Nat → Prop} {v0_ : Value} {v1_ : Value} {n' : Network} {r' : Route} {r : List Int × Bool} (h0 : VR w0 S v0_ n') (h1 : VR w0 S v1_ r') (hF : spec_l4Walk fu n' r' = some r) :
    Calls Try.prog 78 [v0_, v1_].toArray w0 fun e w' => ∃ v, e = .returned v ∧ (Below w0.heap.size w0 w' ∧ ∃ F0, ∃ u0 u1, v = .tuple #[u0, u1] ∧ VO w' F0 u0 r.1 ∧ VR w' (St ⟨w0, []⟩ S [] [] [] true) u1 r.2 ∧ New w0 w' F0) := by
 obtain ⟨A, c, A2, c2, rfl, hl, hl2⟩ := Network_open h0
 obtain ⟨A3, c3, rfl, hl3⟩ := Route_open h1
 have H := Mem.start ⟨w0, []⟩ S
 have H := H.pA hl
 have H := H.pA hl2
 have H := H.pA hl3
 refine en Try.func78 fun a hf => ?_
 rw [spec_l4Walk] at hF
 refine bx hf H fun b' a w hf H => ?_
 refine wl0 rfl (op_box hf H rfl rfl (by decide) fun b2 a w hf H => ?_)
 refine pz 2 hf fun a hf => ?_
 refine wr (pz 1 hf fun a hf => ?_)
 refine lB 0 hf H TF.ls3 fun a hf => ?_
 refine wl0 rfl (bl hf H 3 ([r'.Start] : List Int) [(.int .i64 r'.Start)] (el1 (y := r'.Start) (rfl)) fun A4 a w hf H => ?_)
 refine pz 1 hf fun a hf => ?_
 refine wl_end (then_n (sq (sq ?_)))
 obtain ⟨c4, hGc4, hF⟩ := bs_ hF
 have fh := hf.prune [2, 3, 6] rfl
 have Hm := H.lt_ [true, true] [true] [] [0, 1, 2]
 refine midF 25 (.bool c4) fh Hm ?_ fun a w hf H => ?_
 ·refine reg (pz 1 hf fun a hf => ?_)
  refine lB 0 hf H TF.ls3 fun a hf => ?_
  refine pz 1 hf fun a hf => ?_
  refine lB 1 hf H TF.ls24 fun a hf => ?_
  refine pz 2 hf fun a hf => ?_
  obtain ⟨y, hy, hGc4⟩ := bs_ hGc4
  refine oc hf TF.cl43 (spec_l1In_ok (S := TT) mk_int mk_int mk_int hy) fun v w a hp hf => ?_
  obtain ⟨hb, hp⟩ := hp
  obtain rfl := VR_bool hp
  have H := H.keep hb
  refine pz 2 hf fun a hf => ?_
  refine iteB hGc4 (fun hc hGc4 => ?_) fun hc hGc4 => ?_
  ·have hf := hf.lit 20 rfl hc
   refine pz 5 hf fun a hf => ?_
   obtain rfl := oi hGc4
   have hf := hf.pn [25, 2, 3, 6]
   have H := H.lt_ [true, true] [true] [] [0, 1, 2]
   exact wl_end ⟨hf, H⟩
  ·have hf := hf.lit 20 rfl hc
   refine pz 1 hf fun a hf => ?_
   refine wlg hf rfl rfl rfl (op_q hf (rq_loadB hf H TF.ls31 0 rfl rfl rfl) rfl (by decide) fun a hf => ?_)
   refine pz 3 hf fun a hf => ?_
   obtain rfl := oi hGc4
   have hf := hf.pn [25, 2, 3, 6]
   have H := H.lt_ [true, true] [true] [] [0, 1, 2]
   exact wl_end ⟨hf, H⟩
 refine then_n (ib hF hf (fun hc2 hF => ?_) fun hc2 hF => ?_)
 ·refine sqz (pz 3 hf fun a hf => ?_)
  refine wl_end (then_n (wp_ret (then_r (?_))))
  have H := H.rowOwn 0 rfl rfl
  obtain ⟨F, H⟩ := H.freezeOwn 0 rfl
  have H := H.lend 0 rfl
  obtain rfl := oi hF
  refine ret_2 hf rfl (rv_tmp hf rfl) (rv_tmp hf rfl) ?_
  have hN := H.ends1
  exact ⟨_, rfl, H.bel, F, _, _, rfl, (mko_list (H.ownAt 0 rfl)), mk_bool, by first | exact hN | simpa using hN⟩
 ·refine wp_skip (then_n (sq (sqz (pz 1 hf fun a hf => ?_))))
  refine wl_end (then_n ?_)
  obtain ⟨out2, hB1, hF⟩ := bs_ hF
  have hf := hf.pn [2, 3, 6, 7]
  have H := H.lt_ [true, true] [true] [] [0, 1, 2]
  refine loopC (fun (s : List Int × Int) (a : Act) (w : World) => match s with | (out', i) => ∃ (A5 : Option Addr) (c5 : Nat) (E : Go.TypeId), Fr a 72 [(2, (.pointer (some ⟨b', 0, none⟩))), (3, (.pointer (some ⟨b2, 0, none⟩))), (6, (.slice A5 out'.length c5)), (7, (.int .i64 i))] ∧ Mem ⟨w0, []⟩ S [⟨b2, 40, [(.int .i64 r'.Start), (.slice A3 r'.Fibers.length c3)]⟩, ⟨b', 27, [(.slice A n'.Nodes.length c), (.slice A2 n'.Fibers.length c2)]⟩] [⟨.sh true, E, A5, c5, (out' : List Int)⟩] [] [(false, MP.val [(.slice A3 r'.Fibers.length c3)] (r'.Fibers : List Int)), (false, MP.val [(.slice A2 n'.Fibers.length c2)] (n'.Fibers : List Fiber)), (false, MP.val [(.slice A n'.Nodes.length c)] (n'.Nodes : List ByteArray))] w) (fun k (s : List Int × Int) => spec_l4Walk_L1 fu n' r' k s.1 s.2 = some out2) (fun s => out2 = Out.next s) ([r'.Start], 0) fu hB1 ⟨A4, 1, 3, hf, H⟩ (fun s h => by cases h) ?_ ?_
  ·rintro fk ⟨out', i⟩ a w hR1 hI
   replace hR1 : spec_l4Walk_L1 fu n' r' (fk + 1) out' i = some out2 := hR1
   rw [spec_l4Walk_L1] at hR1
   obtain ⟨A5, c5, E, hf, H⟩ := hI
   refine sq (sqz (pz 2 hf fun a hf => ?_))
   refine lB 0 hf H TF.ls31 fun a hf => ?_
   refine pz 2 hf fun a hf => ?_
   refine wl_end (then_n (ib hR1 hf (fun hc3 hR1 => ?_) fun hc3 hR1 => ?_))
   ·refine wp_skip (then_n (sq (wp_block (sq (sq (dw [] 11 fun w hb => ?_))))))
    have H := H.keep hb
    refine zp 0 hf trivial fun a hf => ?_
    refine strT (H.lt_ [true, false] [false] [] []) (fun w H => trivial) fun hS => ?_
    refine zS 1 [] rfl rfl rfl rfl hf hS (fun w H => rq_loadB hf H TF.ls31 0 rfl rfl rfl) fun a hf => ?_
    refine zp 2 hf hS fun a hf => ?_
    obtain ⟨e, he, hR1⟩ := bs_ hR1
    obtain ⟨p, o, cs, hx, hr, H⟩ := pre_iaddr H Try.underlying31 TF.sz3 0 rfl he
    refine zP 3 rfl rfl rfl rfl hf hS (fun w => rq_iaddrE hf rfl rfl rfl hx w) fun a hf => ?_
    obtain rfl := hr
    refine strT (H.lt_ [true, false] [false] [] [0]) (fun w H => H.lt_ [true] [] [] []) fun hS => ?_
    refine zS 4 [] rfl rfl rfl rfl hf hS (fun w H => rq_loadI hf H TF.ls3 0 0 rfl rfl rfl) fun a hf => ?_
    refine zp 5 hf hS fun a hf => ?_
    refine strT (H.lt_ [true, true] [false] [] [0]) (fun w H => H.lt_ [true, false] [] [] [0]) fun hS => ?_
    refine zS 6 [] rfl rfl rfl rfl hf hS (fun w H => rq_loadB hf H TF.ls25 1 rfl rfl rfl) fun a hf => ?_
    refine zp 7 hf hS fun a hf => ?_
    refine zp 8 hf hS fun a hf => ?_
    obtain ⟨y2, hy2, hR1⟩ := bs_ hR1
    refine nn 9 rfl (oC hf TF.cl43 (spec_l1In_ok (S := TT) mk_int mk_int mk_int hy2) fun v2 w a hp2 hf => ?_)
    obtain ⟨hb2, hp2⟩ := hp2
    obtain rfl := VR_bool hp2
    have H := H.keep hb2
    have hS := H.lt_ [true, true] [false] [] [0]
    refine aS hS ?_
    refine zp 10 hf hS fun a hf => ?_
    refine dk ?_
    have hf := hf.pn [2, 3, 6, 7, 44]
    refine then_n (ib hR1 hf (fun hc4 hR1 => ?_) fun hc4 hR1 => ?_)
    ·refine sqz (pz 3 hf fun a hf => ?_)
     refine wl_end (then_n (wp_ret (then_r (blk_r (then_r (then_r (blk_r (then_r (then_r (?_))))))))))
     have H := H.rowOwn 0 rfl rfl
     obtain ⟨F2, H⟩ := H.freezeOwn 0 rfl
     have H := H.lend 0 rfl
     obtain rfl := oi hR1
     replace hF := on_ret hF
     obtain rfl := oi hF
     refine ret_2 hf rfl (rv_tmp hf rfl) (rv_tmp hf rfl) ?_
     have hN := H.ends1
     exact ⟨_, rfl, H.bel, F2, _, _, rfl, (mko_list (H.ownAt 0 rfl)), mk_bool, by first | exact hN | simpa using hN⟩
    ·refine wp_skip (then_n (sq (dw [] 14 fun w hb => ?_)))
     have H := H.keep hb
     refine strT (H.lt_ [false, true] [false] [] []) (fun w H => trivial) fun hS => ?_
     refine zS 0 [] rfl rfl rfl rfl hf hS (fun w H => rq_loadBN hf H TF.la27 0 rfl rfl rfl rfl) fun a hf => ?_
     refine zp 1 hf hS fun a hf => ?_
     refine strT (H.lt_ [true, true] [false] [] []) (fun w H => H.lt_ [false, true] [] [] []) fun hS => ?_
     refine zS 2 [] rfl rfl rfl rfl hf hS (fun w H => rq_loadB hf H TF.ls31 0 rfl rfl rfl) fun a hf => ?_
     refine zp 3 hf hS fun a hf => ?_
     obtain ⟨e2, he2, hR1⟩ := bs_ hR1
     obtain ⟨p2, o2, cs2, hx2, hr2, H⟩ := pre_iaddr H Try.underlying31 TF.sz3 1 rfl he2
     refine zP 4 rfl rfl rfl rfl hf hS (fun w => rq_iaddrE hf rfl rfl rfl hx2 w) fun a hf => ?_
     obtain rfl := hr2
     refine strT (H.lt_ [true, true] [false] [] [0]) (fun w H => H.lt_ [true, true] [] [] []) fun hS => ?_
     refine zS 5 [] rfl rfl rfl rfl hf hS (fun w H => rq_loadI hf H TF.ls3 0 0 rfl rfl rfl) fun a hf => ?_
     refine zp 6 hf hS fun a hf => ?_
     refine zp 7 hf hS fun a hf => ?_
     refine zp 8 hf hS fun a hf => ?_
     refine zp 9 hf hS fun a hf => ?_
     obtain ⟨e3, he3, hR1⟩ := bs_ hR1
     obtain ⟨p3, o3, hA, hx3⟩ := pre_iaddrR H Try.underlying31 TF.sz3 0 rfl he3
     refine zP 10 rfl rfl rfl rfl hf hS (fun w => rq_iaddrE hf rfl rfl rfl hx3 w) fun a hf => ?_
     refine strT (H.lt_ [true, true] [true] [] [0]) (fun w H => H.lt_ [true, true] [false] [] [0]) fun hS => ?_
     refine zS 11 [] rfl rfl rfl rfl hf hS (fun w H => rq_loadRow (off := 0) hf H TF.ls3 0 rfl rfl hA he3 (fun w T cs h => by obtain rfl := h; rfl)) fun a hf => ?_
     obtain ⟨y3, hy3, hR1⟩ := bs_ hR1
     refine nn 12 rfl (oC hf TF.cl113 (spec_l2Other_ok (S := TT) (Network_mkv (x := n') (H.rt 4 rfl) (H.rt 3 rfl)) mk_int mk_int hy3) fun v3 w a hp3 hf => ?_)
     obtain ⟨hb3, hp3⟩ := hp3
     obtain rfl := VR_int hp3
     have H := H.keep hb3
     have hS := H.lt_ [true, true] [true] [] [0]
     refine aS hS ?_
     refine zp 13 hf hS fun a hf => ?_
     refine dk ?_
     have hf := hf.pn [2, 3, 6, 7, 8]
     refine then_n (sq (sq ?_))
     obtain ⟨c6, hGc6, hR1⟩ := bs_ hR1
     have fh2 := hf.prune [2, 3, 6, 7, 8] rfl
     have Hm2 := H.lt_ [true, true] [true] [] [2, 3, 4]
     refine midF 65 (.bool c6) fh2 Hm2 ?_ fun a w hf H => ?_
     ·refine reg (pz 3 hf fun a hf => ?_)
      refine iteB hGc6 (fun hc5 hGc6 => ?_) fun hc5 hGc6 => ?_
      ·have hf := hf.lit 61 rfl hc5
       refine pz 4 hf fun a hf => ?_
       obtain rfl := oi hGc6
       have hf := hf.pn [65, 2, 3, 6, 7, 8]
       have H := H.lt_ [true, true] [true] [] [2, 3, 4]
       exact wl_end ⟨hf, H⟩
      ·have hf := hf.lit 61 rfl hc5
       refine pz 2 hf fun a hf => ?_
       obtain ⟨y4, hy4, hGc6⟩ := bs_ hGc6
       refine wlg hf rfl rfl rfl (oC hf TF.cl65 (spec_l1Has_ok (S := TT) (mk_list (H.rowTrue 0 rfl)) mk_int hy4) fun v4 w a hp4 hf => ?_)
       obtain ⟨hb4, hp4⟩ := hp4
       obtain rfl := VR_bool hp4
       have H := H.keep hb4
       refine pz 1 hf fun a hf => ?_
       obtain rfl := oi hGc6
       have hf := hf.pn [65, 2, 3, 6, 7, 8]
       have H := H.lt_ [true, true] [true] [] [2, 3, 4]
       exact wl_end ⟨hf, H⟩
     refine then_n (ib hR1 hf (fun hc6 hR1 => ?_) fun hc6 hR1 => ?_)
     ·refine sqz (pz 3 hf fun a hf => ?_)
      refine wl_end (then_n (wp_ret (then_r (blk_r (then_r (then_r (blk_r (then_r (then_r (?_))))))))))
      have H := H.rowOwn 0 rfl rfl
      obtain ⟨F3, H⟩ := H.freezeOwn 0 rfl
      have H := H.lend 0 rfl
      obtain rfl := oi hR1
      replace hF := on_ret hF
      obtain rfl := oi hF
      refine ret_2 hf rfl (rv_tmp hf rfl) (rv_tmp hf rfl) ?_
      have hN := H.ends1
      exact ⟨_, rfl, H.bel, F3, _, _, rfl, (mko_list (H.ownAt 0 rfl)), mk_bool, by first | exact hN | simpa using hN⟩
     ·refine wp_skip (then_n (reg (pz 2 hf fun a hf => ?_)))
      refine wl0 rfl (bl hf H 3 ([y3] : List Int) [(.int .i64 y3)] (el1 (y := y3) (rfl)) fun A6 a w hf H => ?_)
      obtain ⟨l, hl_, hR1⟩ := bs_ hR1
      refine wl0 rfl (op_appR hf H Try.underlying31 TF.ai3 rfl (by decide) 1 0 rfl rfl rfl rfl (.inr rfl) hl_ (by decide) fun E2 A7 c7 a w hf H => ?_)
      refine pz 1 hf fun a hf => ?_
      refine wl_end (blk_n (then_n (reg (pz 3 hf fun a hf => ?_))))
      refine wl_end ?_
      have hf := hf.pn [2, 3, 6, 7]
      have H := H.lt_ [true, true] [false, true] [] [0, 1, 2]
      exact then_n ⟨(l, w64 (i + 1)), hR1, A7, c7, E2, hf, H⟩
   ·refine wp_exit (then_x (then_x (blk_e (?_))))
    have hf := hf.pn [2, 3, 6, 7]
    have H := H.lt_ [true, true] [true] [] [0, 1, 2]
    exact ⟨(out', i), (Option.some.inj hR1).symm, A5, c5, E, hf, H⟩
  rintro a w ⟨⟨out3, i2⟩, rfl, A8, c8, E3, hf, H⟩
  replace hF := on_next hF
  try dsimp only at hF
  refine then_n (sqz (pz 3 hf fun a hf => ?_))
  refine wer ?_
  have H := H.rowOwn 0 rfl rfl
  obtain ⟨F4, H⟩ := H.freezeOwn 0 rfl
  have H := H.lend 0 rfl
  obtain rfl := oi hF
  refine ret_2 hf rfl (rv_tmp hf rfl) (rv_tmp hf rfl) ?_
  have hN := H.ends1
  exact ⟨_, rfl, H.bel, F4, _, _, rfl, (mko_list (H.ownAt 0 rfl)), mk_bool, by first | exact hN | simpa using hN⟩
theorem spec_l4Good_ok {S : Nat → Prop} {v0_ : Value} {v1_ : Value} {n' : Network} {r' : Route} {r : Bool} (h0 : VR w0 S v0_ n') (h1 : VR w0 S v1_ r') (hF : spec_l4Good fu n' r' = some r) :
    Calls Try.prog 42 [v0_, v1_].toArray w0 fun e w' => ∃ v, e = .returned v ∧ (Below w0.heap.size w0 w' ∧ VR w' (St ⟨w0, []⟩ S [] [] [] true) v r) := by
 obtain ⟨A, c, A2, c2, rfl, hl, hl2⟩ := Network_open h0
 obtain ⟨A3, c3, rfl, hl3⟩ := Route_open h1
 have H := Mem.start ⟨w0, []⟩ S
 have H := H.pA hl
 have H := H.pA hl2
 have H := H.pA hl3
 refine en Try.func42 fun a hf => ?_
 rw [spec_l4Good] at hF
 refine bx hf H fun b' a w hf H => ?_
 refine wl0 rfl (op_box hf H rfl rfl (by decide) fun b2 a w hf H => ?_)
 refine pz 1 hf fun a hf => ?_
 refine wl_end (then_n (sq (sq (reg (lN 1 hf H TF.la27 fun a hf => ?_)))))
 obtain ⟨y, hy, hF⟩ := bs_ hF
 refine oc hf TF.cl51 (spec_l2Good_ok (S := TT) (Network_mkv (x := n') (H.rt 2 rfl) (H.rt 1 rfl)) hy) fun v w a hp hf => ?_
 obtain ⟨hb, hp⟩ := hp
 obtain rfl := VR_bool hp
 have H := H.keep hb
 refine pz 1 hf fun a hf => ?_
 refine wl_end (then_n (ib hF hf (fun hc hF => ?_) fun hc hF => ?_))
 ·refine sqz (pz 1 hf fun a hf => ?_)
  refine wl_end (then_n (wp_ret (then_r (?_))))
  obtain rfl := oi hF
  refine rT hf ?_
  exact ⟨_, rfl, H.bel, mk_bool⟩
 ·refine wp_skip (then_n (sq (reg (lN 1 hf H TF.la27 fun a hf => ?_))))
  refine lN 0 hf H TF.la40 fun a hf => ?_
  obtain ⟨y2, hy2, hF⟩ := bs_ hF
  refine oc hf TF.cl78 (spec_l4Walk_ok (S := TT) (Network_mkv (x := n') (H.rt 2 rfl) (H.rt 1 rfl)) (Route_mkv (x := r') (H.rt 0 rfl)) hy2) fun v2 w a hp2 hf => ?_
  obtain ⟨hb2, F, v3, v4, rfl, hp3, hp4, hN⟩ := hp2
  obtain ⟨A4, c4, rfl, hl4⟩ := VO_list hp3
  obtain rfl := VR_bool hp4
  have H := H.aO1 hb2 hN hl4
  have H := H.lend 0 rfl
  refine pz 5 hf fun a hf => ?_
  have hf := hf.pn [6]
  refine wr (pz 2 hf fun a hf => ?_)
  refine wer ?_
  obtain rfl := oi hF
  refine rT hf ?_
  exact ⟨_, rfl, H.bel, mk_bool⟩
theorem spec_l4Nodes_ok {S : Nat → Prop} {v0_ : Value} {v1_ : Value} {n' : Network} {r' : Route} {r : List Int} (h0 : VR w0 S v0_ n') (h1 : VR w0 S v1_ r') (hF : spec_l4Nodes fu n' r' = some r) :
    Calls Try.prog 44 [v0_, v1_].toArray w0 fun e w' => ∃ v, e = .returned v ∧ (Below w0.heap.size w0 w' ∧ ∃ F0, VO w' F0 v r ∧ New w0 w' F0) := by
 obtain ⟨A, c, A2, c2, rfl, hl, hl2⟩ := Network_open h0
 obtain ⟨A3, c3, rfl, hl3⟩ := Route_open h1
 have H := Mem.start ⟨w0, []⟩ S
 have H := H.pA hl
 have H := H.pA hl2
 have H := H.pA hl3
 refine en Try.func44 fun a hf => ?_
 rw [spec_l4Nodes] at hF
 refine bx hf H fun b' a w hf H => ?_
 refine wl0 rfl (op_box hf H rfl rfl (by decide) fun b2 a w hf H => ?_)
 refine pz 1 hf fun a hf => ?_
 refine wr (lN 1 hf H TF.la27 fun a hf => ?_)
 refine lN 0 hf H TF.la40 fun a hf => ?_
 obtain ⟨y, hy, hF⟩ := bs_ hF
 refine oc hf TF.cl78 (spec_l4Walk_ok (S := TT) (Network_mkv (x := n') (H.rt 2 rfl) (H.rt 1 rfl)) (Route_mkv (x := r') (H.rt 0 rfl)) hy) fun v w a hp hf => ?_
 obtain ⟨hb, F, v2, v3, rfl, hp2, hp3, hN⟩ := hp
 obtain ⟨A4, c4, rfl, hl4⟩ := VO_list hp2
 obtain rfl := VR_bool hp3
 have H := H.aO1 hb hN hl4
 have H := H.lend 0 rfl
 refine pz 5 hf fun a hf => ?_
 refine wr (pz 2 hf fun a hf => ?_)
 have hf := hf.pn [4]
 refine wer ?_
 obtain rfl := oi hF
 refine rT hf ?_
 have hN := H.ends1
 exact ⟨_, rfl, H.bel, F, (mko_list (H.ownAt 0 rfl)), by first | exact hN | simpa using hN⟩
theorem spec_RegeneratorsFor_ok {S : Nat → Prop} {v0_ : Value} {v1_ : Value} {v2_ : Value} {n' : Network} {r' : Route} {reach : Int} {r : List Int × Bool} (h0 : VR w0 S v0_ n') (h1 : VR w0 S v1_ r') (h2 : VR w0 S v2_ reach) (hF : spec_RegeneratorsFor fu n' r' reach = some r) :
    Calls Try.prog 14 [v0_, v1_, v2_].toArray w0 fun e w' => ∃ v, e = .returned v ∧ (Below w0.heap.size w0 w' ∧ ∃ F0, ∃ u0 u1, v = .tuple #[u0, u1] ∧ VO w' F0 u0 r.1 ∧ VR w' (St ⟨w0, []⟩ S [] [] [] true) u1 r.2 ∧ New w0 w' F0) := by
 obtain ⟨A, c, A2, c2, rfl, hl, hl2⟩ := Network_open h0
 obtain ⟨A3, c3, rfl, hl3⟩ := Route_open h1
 obtain rfl := VR_int h2
 have H := Mem.start ⟨w0, []⟩ S
 have H := H.pA hl
 have H := H.pA hl2
 have H := H.pA hl3
 refine en Try.func14 fun a hf => ?_
 rw [spec_RegeneratorsFor] at hF
 refine bx hf H fun b' a w hf H => ?_
 refine wl0 rfl (op_box hf H rfl rfl (by decide) fun b2 a w hf H => ?_)
 refine pz 2 hf fun a hf => ?_
 refine wr (wl0 rfl (bl hf H 3 ([] : List Int) [] el0 fun A4 a w hf H => ?_))
 refine pz 1 hf fun a hf => ?_
 refine wl_end (then_n (sq (sq ?_)))
 obtain ⟨c4, hGc4, hF⟩ := bs_ hF
 have fh := hf.prune [2, 3, 4, 8] rfl
 have Hm := H.lt_ [true, true] [true] [] [0, 1, 2]
 refine midF 22 (.bool c4) fh Hm ?_ fun a w hf H => ?_
 ·refine reg (lN 1 hf H TF.la27 fun a hf => ?_)
  refine lN 0 hf H TF.la40 fun a hf => ?_
  obtain ⟨y, hy, hGc4⟩ := bs_ hGc4
  refine oc hf TF.cl42 (spec_l4Good_ok (S := TT) (Network_mkv (x := n') (H.rt 2 rfl) (H.rt 1 rfl)) (Route_mkv (x := r') (H.rt 0 rfl)) hy) fun v w a hp hf => ?_
  obtain ⟨hb, hp⟩ := hp
  obtain rfl := VR_bool hp
  have H := H.keep hb
  refine pz 2 hf fun a hf => ?_
  refine iteB hGc4 (fun hc hGc4 => ?_) fun hc hGc4 => ?_
  ·have hf := hf.lit 18 rfl hc
   refine pz 4 hf fun a hf => ?_
   obtain rfl := oi hGc4
   have hf := hf.pn [22, 2, 3, 4, 8]
   have H := H.lt_ [true, true] [true] [] [0, 1, 2]
   exact wl_end ⟨hf, H⟩
  ·have hf := hf.lit 18 rfl hc
   refine pz 1 hf fun a hf => ?_
   obtain ⟨y2, hy2, hGc4⟩ := bs_ hGc4
   refine wlg hf rfl rfl rfl (oC hf TF.cl43 (spec_l1In_ok (S := TT) mk_int mk_int mk_int hy2) fun v2 w a hp2 hf => ?_)
   obtain ⟨hb2, hp2⟩ := hp2
   obtain rfl := VR_bool hp2
   have H := H.keep hb2
   refine pz 2 hf fun a hf => ?_
   obtain rfl := oi hGc4
   have hf := hf.pn [22, 2, 3, 4, 8]
   have H := H.lt_ [true, true] [true] [] [0, 1, 2]
   exact wl_end ⟨hf, H⟩
 refine then_n (ib hF hf (fun hc2 hF => ?_) fun hc2 hF => ?_)
 ·refine sqz (pz 3 hf fun a hf => ?_)
  refine wl_end (then_n (wp_ret (then_r (?_))))
  have H := H.rowOwn 0 rfl rfl
  obtain ⟨F, H⟩ := H.freezeOwn 0 rfl
  have H := H.lend 0 rfl
  obtain rfl := oi hF
  refine ret_2 hf rfl (rv_tmp hf rfl) (rv_tmp hf rfl) ?_
  have hN := H.ends1
  exact ⟨_, rfl, H.bel, F, _, _, rfl, (mko_list (H.ownAt 0 rfl)), mk_bool, by first | exact hN | simpa using hN⟩
 ·refine wp_skip (then_n (sq (reg (lN 1 hf H TF.la27 fun a hf => ?_))))
  refine lN 0 hf H TF.la40 fun a hf => ?_
  obtain ⟨y3, hy3, hF⟩ := bs_ hF
  refine oc hf TF.cl44 (spec_l4Nodes_ok (S := TT) (Network_mkv (x := n') (H.rt 2 rfl) (H.rt 1 rfl)) (Route_mkv (x := r') (H.rt 0 rfl)) hy3) fun v3 w a hp3 hf => ?_
  obtain ⟨hb3, F2, hp4, hN⟩ := hp3
  obtain ⟨A5, c5, rfl, hl4⟩ := VO_list hp4
  have H := H.aO1 hb3 hN hl4
  have H := H.lend 0 rfl
  refine pz 1 hf fun a hf => ?_
  refine wr (pz 1 hf fun a hf => ?_)
  refine we (sqz (pz 1 hf fun a hf => ?_))
  refine wl_end (then_n ?_)
  obtain ⟨out2, hB1, hF⟩ := bs_ hF
  have hf := hf.pn [2, 3, 4, 8, 9, 10, 11]
  have H := H.lt_ [true, true] [true] [true] [0, 1, 2, 3]
  refine loopC (fun (s : List Int × Int × Int) (a : Act) (w : World) => match s with | (out', sum, i) => ∃ (A6 : Option Addr) (c6 : Nat) (E : Go.TypeId), Fr a 64 [(2, (.int .i64 reach)), (3, (.pointer (some ⟨b', 0, none⟩))), (4, (.pointer (some ⟨b2, 0, none⟩))), (8, (.slice A6 out'.length c6)), (9, (.slice A5 y3.length c5)), (10, (.int .i64 sum)), (11, (.int .i64 i))] ∧ Mem ⟨w0, []⟩ S [⟨b2, 40, [(.int .i64 r'.Start), (.slice A3 r'.Fibers.length c3)]⟩, ⟨b', 27, [(.slice A n'.Nodes.length c), (.slice A2 n'.Fibers.length c2)]⟩] [⟨.sh true, E, A6, c6, (out' : List Int)⟩] [⟨F2, MP.own F2 [(.slice A5 y3.length c5)] (y3 : List Int)⟩] [(true, MP.val [(.slice A5 y3.length c5)] (y3 : List Int)), (false, MP.val [(.slice A3 r'.Fibers.length c3)] (r'.Fibers : List Int)), (false, MP.val [(.slice A2 n'.Fibers.length c2)] (n'.Fibers : List Fiber)), (false, MP.val [(.slice A n'.Nodes.length c)] (n'.Nodes : List ByteArray))] w) (fun k (s : List Int × Int × Int) => spec_RegeneratorsFor_L1 fu n' r' reach y3 k s.1 s.2.1 s.2.2 = some out2) (fun s => out2 = Out.next s) (([] : List Int), 0, 0) fu hB1 ⟨A4, 0, 3, hf, H⟩ (fun s h => by cases h) ?_ ?_
  ·rintro fk ⟨out', sum, i⟩ a w hR1 hI
   replace hR1 : spec_RegeneratorsFor_L1 fu n' r' reach y3 (fk + 1) out' sum i = some out2 := hR1
   rw [spec_RegeneratorsFor_L1] at hR1
   obtain ⟨A6, c6, E, hf, H⟩ := hI
   refine sq (sqz (pz 2 hf fun a hf => ?_))
   refine lB 0 hf H TF.ls31 fun a hf => ?_
   refine pz 2 hf fun a hf => ?_
   refine wl_end (then_n (ib hR1 hf (fun hc3 hR1 => ?_) fun hc3 hR1 => ?_))
   ·refine wp_skip (then_n (sq (wp_block (sq (dw [] 11 fun w hb => ?_)))))
    have H := H.keep hb
    refine zp 0 hf trivial fun a hf => ?_
    refine strT (H.lt_ [false, true] [false] [false] []) (fun w H => trivial) fun hS => ?_
    refine zS 1 [] rfl rfl rfl rfl hf hS (fun w H => rq_loadB hf H TF.ls25 0 rfl rfl rfl) fun a hf => ?_
    refine zp 2 hf hS fun a hf => ?_
    refine strT (H.lt_ [true, true] [false] [false] []) (fun w H => H.lt_ [false, true] [] [] []) fun hS => ?_
    refine zS 3 [] rfl rfl rfl rfl hf hS (fun w H => rq_loadB hf H TF.ls31 0 rfl rfl rfl) fun a hf => ?_
    refine zp 4 hf hS fun a hf => ?_
    obtain ⟨e, he, hR1⟩ := bs_ hR1
    obtain ⟨p, o, cs, hx, hr, H⟩ := pre_iaddr H Try.underlying31 TF.sz3 1 rfl he
    refine zP 5 rfl rfl rfl rfl hf hS (fun w => rq_iaddrE hf rfl rfl rfl hx w) fun a hf => ?_
    obtain rfl := hr
    refine strT (H.lt_ [true, true] [false] [false] [0]) (fun w H => H.lt_ [true, true] [] [] []) fun hS => ?_
    refine zS 6 [] rfl rfl rfl rfl hf hS (fun w H => rq_loadI hf H TF.ls3 0 0 rfl rfl rfl) fun a hf => ?_
    obtain ⟨e2, he2, hR1⟩ := bs_ hR1
    obtain ⟨p2, o2, cs2, hx2, hr2, H⟩ := pre_iaddr H Try.underlying25 TF.sz79 3 rfl he2
    refine zP 7 rfl rfl rfl rfl hf hS (fun w => rq_iaddrE hf rfl rfl rfl hx2 w) fun a hf => ?_
    obtain rfl := Fiber_cells hr2
    refine zp 8 hf hS fun a hf => ?_
    refine strT (H.lt_ [true, true] [false] [false] [0, 1]) (fun w H => H.lt_ [true, true] [] [] [1]) fun hS => ?_
    refine zS 9 [] rfl rfl rfl rfl hf hS (fun w H => rq_loadI hf H TF.ls3 0 2 rfl rfl rfl) fun a hf => ?_
    refine zp 10 hf hS fun a hf => ?_
    refine dk ?_
    have hf := hf.pn [2, 3, 4, 8, 9, 10, 11, 12]
    refine then_n (sq (sqz (pz 3 hf fun a hf => ?_)))
    refine wl_end (then_n (ib hR1 hf (fun hc4 hR1 => ?_) fun hc4 hR1 => ?_))
    ·refine sq (reg (wl0 rfl (bl hf H 3 ([] : List Int) [] el0 fun A7 a w hf H => ?_)))
     refine pz 2 hf fun a hf => ?_
     refine wl_end (then_n (wp_ret (then_r (blk_r (then_r (then_r (blk_r (then_r (then_r (?_))))))))))
     have H := H.rowOwn 0 rfl rfl
     obtain ⟨F4, H⟩ := H.freezeOwn 0 rfl
     have H := H.lend 0 rfl
     obtain rfl := oi hR1
     replace hF := on_ret hF
     obtain rfl := oi hF
     refine ret_2 hf rfl (rv_tmp hf rfl) (rv_tmp hf rfl) ?_
     have hN := H.ends1
     exact ⟨_, rfl, H.bel, F4, _, _, rfl, (mko_list (H.ownAt 0 rfl)), mk_bool, by first | exact hN | simpa using hN⟩
    ·refine wp_skip (then_n (sq (sqz (pz 5 hf fun a hf => ?_))))
     refine wl_end (then_n (ib hR1 hf (fun hc5 hR1 => ?_) fun hc5 hR1 => ?_))
     ·refine sqz (pz 3 hf fun a hf => ?_)
      obtain ⟨e3, he3, hR1⟩ := bs_ hR1
      refine wl0 rfl (op_iaddr hf H Try.underlying31 TF.sz3 2 rfl rfl rfl he3 (by decide) fun p3 o3 cs3 a hf hr3 H => ?_)
      obtain rfl := hr3
      refine oq hf (rq_loadI hf H TF.ls3 0 0 rfl rfl rfl) fun a hf => ?_
      refine wl0 rfl (bl hf H 3 ([e3] : List Int) [(.int .i64 e3)] (el1 (y := e3) (rfl)) fun A8 a w hf H => ?_)
      obtain ⟨l, hl_, hR1⟩ := bs_ hR1
      refine wl0 rfl (op_appR hf H Try.underlying31 TF.ai3 rfl (by decide) 1 0 rfl rfl rfl rfl (.inr rfl) hl_ (by decide) fun E2 A9 c7 a w hf H => ?_)
      refine pz 1 hf fun a hf => ?_
      have hf := hf.pn [2, 3, 4, 8, 9, 11, 12]
      refine wl_end (then_n (reg (pz 1 hf fun a hf => ?_)))
      refine wl_end (then_n (reg (pz 4 hf fun a hf => ?_)))
      refine wl_end (blk_n (then_n (reg (pz 3 hf fun a hf => ?_))))
      refine wl_end ?_
      have hf := hf.pn [2, 3, 4, 8, 9, 10, 11]
      have H := H.lt_ [true, true] [false, true] [true] [3, 4, 5, 6]
      exact then_n ⟨(l, w64 (0 + e2.Length), w64 (i + 1)), hR1, A9, c7, E2, hf, H⟩
     ·refine wp_skip (then_n (reg (pz 4 hf fun a hf => ?_)))
      refine wl_end (blk_n (then_n (reg (pz 3 hf fun a hf => ?_))))
      have hf := hf.pn [2, 3, 4, 8, 9, 10, 11]
      refine wl_end ?_
      have hf := hf.pn [2, 3, 4, 8, 9, 10, 11]
      have H := H.lt_ [true, true] [true] [true] [2, 3, 4, 5]
      exact then_n ⟨(out', w64 (sum + e2.Length), w64 (i + 1)), hR1, A6, c6, E, hf, H⟩
   ·refine wp_exit (then_x (then_x (blk_e (?_))))
    have hf := hf.pn [2, 3, 4, 8, 9, 10, 11]
    have H := H.lt_ [true, true] [true] [true] [0, 1, 2, 3]
    exact ⟨(out', sum, i), (Option.some.inj hR1).symm, A6, c6, E, hf, H⟩
  rintro a w ⟨⟨out3, sum2, i2⟩, rfl, A10, c8, E3, hf, H⟩
  replace hF := on_next hF
  try dsimp only at hF
  refine then_n (sqz (pz 3 hf fun a hf => ?_))
  refine wer ?_
  have H := H.rowOwn 0 rfl rfl
  obtain ⟨F5, H⟩ := H.freezeOwn 0 rfl
  have H := H.lend 0 rfl
  obtain rfl := oi hF
  refine ret_2 hf rfl (rv_tmp hf rfl) (rv_tmp hf rfl) ?_
  have hN := H.ends1
  exact ⟨_, rfl, H.bel, F5, _, _, rfl, (mko_list (H.ownAt 0 rfl)), mk_bool, by first | exact hN | simpa using hN⟩
theorem laws_vInts_ok {S : Nat → Prop} {v0_ : Value} {v1_ : Value} {a' : List Int} {b' : List Int} {r : Bool} (h0 : VR w0 S v0_ a') (h1 : VR w0 S v1_ b') (hF : laws_vInts fu a' b' = some r) :
    Calls Try.prog 9 [v0_, v1_].toArray w0 fun e w' => ∃ v, e = .returned v ∧ (Below w0.heap.size w0 w' ∧ VR w' (St ⟨w0, []⟩ S [] [] [] true) v r) := by
 obtain ⟨A, c, rfl, hl⟩ := VR_list h0
 obtain ⟨A2, c2, rfl, hl2⟩ := VR_list h1
 have H := Mem.start ⟨w0, []⟩ S
 have H := H.pA hl
 have H := H.pA hl2
 refine en Try.func9 fun a hf => ?_
 rw [laws_vInts] at hF
 refine sqz (pz 1 hf fun a hf => ?_)
 refine we (sqz (pz 5 hf fun a hf => ?_))
 refine wl_end (then_n (ib hF hf (fun hc hF => ?_) fun hc hF => ?_))
 ·refine sqz (pz 1 hf fun a hf => ?_)
  refine wl_end (then_n (wp_ret (then_r (?_))))
  obtain rfl := oi hF
  refine rT hf ?_
  exact ⟨_, rfl, H.bel, mk_bool⟩
 ·refine wp_skip (then_n (sq (sqz (pz 1 hf fun a hf => ?_))))
  refine wl_end (then_n ?_)
  obtain ⟨out', hB1, hF⟩ := bs_ hF
  have hf := hf.pn [0, 1, 5]
  have H := H.lt_ [] [] [] [0, 1]
  refine loopC (fun (s : Int) (a : Act) (w : World) => match s with | i => Fr a 26 [(0, (.slice A a'.length c)), (1, (.slice A2 b'.length c2)), (5, (.int .i64 i))] ∧ Mem ⟨w0, []⟩ S [] [] [] [(false, MP.val [(.slice A2 b'.length c2)] (b' : List Int)), (false, MP.val [(.slice A a'.length c)] (a' : List Int))] w) (fun k (s : Int) => laws_vInts_L1 fu a' b' k s = some out') (fun s => out' = Out.next s) 0 fu hB1 ⟨hf, H⟩ (fun s h => by cases h) ?_ ?_
  ·rintro fk i a w hR1 hI
   replace hR1 : laws_vInts_L1 fu a' b' (fk + 1) i = some out' := hR1
   rw [laws_vInts_L1] at hR1
   obtain ⟨hf, H⟩ := hI
   refine sq (sqz (pz 4 hf fun a hf => ?_))
   refine wl_end (then_n (ib hR1 hf (fun hc2 hR1 => ?_) fun hc2 hR1 => ?_))
   ·refine wp_skip (then_n (sq (wp_block (sq (dw [] 9 fun w hb => ?_)))))
    have H := H.keep hb
    refine zp 0 hf trivial fun a hf => ?_
    refine zp 1 hf trivial fun a hf => ?_
    obtain ⟨e, he, hR1⟩ := bs_ hR1
    obtain ⟨p, o, cs, hx, hr, H⟩ := pre_iaddr H Try.underlying31 TF.sz3 1 rfl he
    refine tP 2 rfl rfl rfl rfl hf (by kernel_rfl) (fun _ => trivial) (fun w => rq_iaddrE hf rfl rfl rfl hx w) fun a hf => ?_
    obtain rfl := hr
    refine strT (H.lt_ [] [] [] [0]) (fun w H => trivial) fun hS => ?_
    refine zS 3 [] rfl rfl rfl rfl hf hS (fun w H => rq_loadI hf H TF.ls3 0 0 rfl rfl rfl) fun a hf => ?_
    refine zp 4 hf hS fun a hf => ?_
    refine zp 5 hf hS fun a hf => ?_
    obtain ⟨e2, he2, hR1⟩ := bs_ hR1
    obtain ⟨p2, o2, cs2, hx2, hr2, H⟩ := pre_iaddr H Try.underlying31 TF.sz3 1 rfl he2
    refine zP 6 rfl rfl rfl rfl hf hS (fun w => rq_iaddrE hf rfl rfl rfl hx2 w) fun a hf => ?_
    obtain rfl := hr2
    refine strT (H.lt_ [] [] [] [0, 1]) (fun w H => H.lt_ [] [] [] [1]) fun hS => ?_
    refine zS 7 [] rfl rfl rfl rfl hf hS (fun w H => rq_loadI hf H TF.ls3 0 0 rfl rfl rfl) fun a hf => ?_
    refine zp 8 hf hS fun a hf => ?_
    refine dk ?_
    refine then_n (ib hR1 hf (fun hc3 hR1 => ?_) fun hc3 hR1 => ?_)
    ·refine sqz (pz 1 hf fun a hf => ?_)
     have hf := hf.pn [4]
     refine wl_end (then_n (wp_ret (blk_r (then_r (then_r (blk_r (then_r (then_r (?_)))))))))
     obtain rfl := oi hR1
     replace hF := on_ret hF
     obtain rfl := oi hF
     refine rT hf ?_
     exact ⟨_, rfl, H.bel, mk_bool⟩
    ·refine wp_skip (blk_n (then_n (reg (pz 3 hf fun a hf => ?_))))
     have hf := hf.pn [0, 1, 5]
     refine wl_end ?_
     have hf := hf.pn [0, 1, 5]
     have H := H.lt_ [] [] [] [2, 3]
     exact then_n ⟨w64 (i + 1), hR1, hf, H⟩
   ·refine wp_exit (then_x (then_x (blk_e (?_))))
    have hf := hf.pn [0, 1, 5]
    have H := H.lt_ [] [] [] [0, 1]
    exact ⟨i, (Option.some.inj hR1).symm, hf, H⟩
  rintro a w ⟨i2, rfl, hf, H⟩
  replace hF := on_next hF
  refine then_n (sqz (pz 1 hf fun a hf => ?_))
  refine wer ?_
  obtain rfl := oi hF
  refine rT hf ?_
  exact ⟨_, rfl, H.bel, mk_bool⟩
theorem impl_SegmentLengths_ok {S : Nat → Prop} {v0_ : Value} {v1_ : Value} {v2_ : Value} {n' : Network} {r' : Route} {nodes : List Int} {r : List Int × Bool} (h0 : VR w0 S v0_ n') (h1 : VR w0 S v1_ r') (h2 : VR w0 S v2_ nodes) (hF : impl_SegmentLengths fu n' r' nodes = some r) :
    Calls Try.prog 15 [v0_, v1_, v2_].toArray w0 fun e w' => ∃ v, e = .returned v ∧ (Below w0.heap.size w0 w' ∧ ∃ F0, ∃ u0 u1, v = .tuple #[u0, u1] ∧ VO w' F0 u0 r.1 ∧ VR w' (St ⟨w0, []⟩ S [] [] [] true) u1 r.2 ∧ New w0 w' F0) := by
 obtain ⟨A, c, A2, c2, rfl, hl, hl2⟩ := Network_open h0
 obtain ⟨A3, c3, rfl, hl3⟩ := Route_open h1
 obtain ⟨A4, c4, rfl, hl4⟩ := VR_list h2
 have H := Mem.start ⟨w0, []⟩ S
 have H := H.pA hl
 have H := H.pA hl2
 have H := H.pA hl3
 have H := H.pA hl4
 refine en Try.func15 fun a hf => ?_
 rw [impl_SegmentLengths] at hF
 refine bx hf H fun b' a w hf H => ?_
 refine wl0 rfl (op_box hf H rfl rfl (by decide) fun b2 a w hf H => ?_)
 refine pz 2 hf fun a hf => ?_
 refine wr (lN 1 hf H TF.la27 fun a hf => ?_)
 refine lN 0 hf H TF.la40 fun a hf => ?_
 obtain ⟨y, hy, hF⟩ := bs_ hF
 refine oc hf TF.cl45 (impl_RouteNodes_ok (S := TT) (Network_mkv (x := n') (H.rt 3 rfl) (H.rt 2 rfl)) (Route_mkv (x := r') (H.rt 1 rfl)) hy) fun v w a hp hf => ?_
 obtain ⟨hb, F, v2, v3, rfl, hp2, hp3, hN⟩ := hp
 obtain ⟨A5, c5, rfl, hl5⟩ := VO_list hp2
 obtain rfl := VR_bool hp3
 have H := H.aO1 hb hN hl5
 have H := H.lend 0 rfl
 refine pz 5 hf fun a hf => ?_
 refine we (sqz (pz 2 hf fun a hf => ?_))
 refine wl_end (then_n (ib hF hf (fun hc hF => ?_) fun hc hF => ?_))
 ·refine sqz (pz 2 hf fun a hf => ?_)
  have hf := hf.pn [6, 7]
  refine wl_end (then_n (wp_ret (then_r (?_))))
  have H := H.ownNil (Int)
  have H := H.lend 0 rfl
  obtain rfl := oi hF
  refine ret_2 hf rfl (rv_tmp hf rfl) (rv_tmp hf rfl) ?_
  have hN := H.ends1
  exact ⟨_, rfl, H.bel, [], _, _, rfl, (mko_list (H.ownAt 0 rfl)), mk_bool, by first | exact hN | simpa using hN⟩
 ·refine wp_skip (then_n (sq (reg (wl0 rfl (bl hf H 3 ([] : List Int) [] el0 fun A6 a w hf H => ?_)))))
  refine pz 3 hf fun a hf => ?_
  have hf := hf.pn [2, 3, 4, 8, 10, 11, 12]
  refine we (sqz (pz 1 hf fun a hf => ?_))
  refine lB 0 hf H TF.ls31 fun a hf => ?_
  refine pz 2 hf fun a hf => ?_
  refine wl_end (then_n ?_)
  obtain ⟨out2, hB1, hF⟩ := bs_ hF
  have hf := hf.pn [2, 3, 8, 10, 11, 12, 25, 26, 27]
  have H := H.lt_ [false, true] [true] [true] [0, 1, 2, 3, 4]
  refine loopC (fun (s : List Int × Int × Int × Int) (a : Act) (w : World) => match s with | (out', far, k', i) => ∃ (A7 : Option Addr) (c6 : Nat) (E : Go.TypeId), Fr a 74 [(2, (.slice A4 nodes.length c4)), (3, (.pointer (some ⟨b', 0, none⟩))), (8, (.slice A5 y.1.length c5)), (10, (.slice A7 out'.length c6)), (11, (.int .i64 far)), (12, (.int .i64 k')), (25, (.slice A3 r'.Fibers.length c3)), (26, (.int .i64 (r'.Fibers.length : Int))), (27, (.int .i64 i))] ∧ Mem ⟨w0, []⟩ S [⟨b', 27, [(.slice A n'.Nodes.length c), (.slice A2 n'.Fibers.length c2)]⟩] [⟨.sh true, E, A7, c6, (out' : List Int)⟩] [⟨F, MP.own F [(.slice A5 y.1.length c5)] (y.1 : List Int)⟩] [(true, MP.val [(.slice A5 y.1.length c5)] (y.1 : List Int)), (false, MP.val [(.slice A4 nodes.length c4)] (nodes : List Int)), (false, MP.val [(.slice A3 r'.Fibers.length c3)] (r'.Fibers : List Int)), (false, MP.val [(.slice A2 n'.Fibers.length c2)] (n'.Fibers : List Fiber)), (false, MP.val [(.slice A n'.Nodes.length c)] (n'.Nodes : List ByteArray))] w) (fun k (s : List Int × Int × Int × Int) => impl_SegmentLengths_L1 fu n' r' nodes y k s.1 s.2.1 s.2.2.1 s.2.2.2 = some out2) (fun s => out2 = s) (([] : List Int), 0, 0, 0) fu hB1 ⟨A6, 0, 3, hf, H⟩ (fun s h => by cases h) ?_ ?_
  ·rintro fk ⟨out', far, k', i⟩ a w hR1 hI
   replace hR1 : impl_SegmentLengths_L1 fu n' r' nodes y (fk + 1) out' far k' i = some out2 := hR1
   rw [impl_SegmentLengths_L1] at hR1
   obtain ⟨A7, c6, E, hf, H⟩ := hI
   refine sqz (pz 1 hf fun a hf => ?_)
   refine wl_end (then_n (sq (ib hR1 hf (fun hc2 hR1 => ?_) fun hc2 hR1 => ?_)))
   ·refine ws (pz 1 hf fun a hf => ?_)
    obtain ⟨e, he, hR1⟩ := bs_ hR1
    refine wl0 rfl (op_iaddr hf H Try.underlying31 TF.sz3 2 rfl rfl rfl he (by decide) fun p o cs a hf hr H => ?_)
    obtain rfl := hr
    refine oq hf (rq_loadI hf H TF.ls3 0 0 rfl rfl rfl) fun a hf => ?_
    refine pz 2 hf fun a hf => ?_
    refine wl_end (then_n (sq (sq ?_)))
    obtain ⟨c7, hGc7, hR1⟩ := bs_ hR1
    have fh := hf.prune [2, 3, 8, 10, 11, 12, 14, 25, 26, 27] rfl
    have Hm := H.lt_ [true] [true] [true] [1, 2, 3, 4, 5]
    refine midF 50 (.bool c7) fh Hm ?_ fun a w hf H => ?_
    ·refine dw [] 19 fun w hb => ?_
     have H := H.keep hb
     refine zp 0 hf trivial fun a hf => ?_
     refine zp 1 hf trivial fun a hf => ?_
     refine zp 2 hf trivial fun a hf => ?_
     refine iteB hGc7 (fun hc3 hGc7 => ?_) fun hc3 hGc7 => ?_
     ·have hf := hf.lit 34 rfl hc3
      refine zg 3 hf trivial fun a hf => ?_
      refine zg 4 hf trivial fun a hf => ?_
      refine zg 5 hf trivial fun a hf => ?_
      refine zg 6 hf trivial fun a hf => ?_
      refine zp 7 hf trivial fun a hf => ?_
      refine zp 8 hf trivial fun a hf => ?_
      refine iteB hGc7 (fun hc4 hGc7 => ?_) fun hc4 hGc7 => ?_
      ·have hf := hf.lit 40 rfl hc4
       refine zg 9 hf trivial fun a hf => ?_
       refine zg 10 hf trivial fun a hf => ?_
       obtain ⟨e2, he2, hGc7⟩ := bs_ hGc7
       obtain ⟨p2, o2, cs2, hx, hr2, H⟩ := pre_iaddr H Try.underlying31 TF.sz3 2 rfl he2
       refine tPg 11 rfl rfl rfl rfl rfl rfl hf (by kernel_rfl) (fun _ => trivial) (fun w => rq_iaddrE hf rfl rfl rfl hx w) fun a hf => ?_
       obtain rfl := hr2
       refine strT (H.lt_ [false] [false] [false] [0]) (fun w H => trivial) fun hS => ?_
       refine tSg 12 [] rfl rfl rfl rfl rfl rfl hf (by kernel_rfl) (by kernel_rfl) hS (fun w H => rq_loadI hf H TF.ls3 0 0 rfl rfl rfl) fun a hf => ?_
       refine zg 13 hf hS fun a hf => ?_
       refine zg 14 hf hS fun a hf => ?_
       obtain ⟨e3, he3, hGc7⟩ := bs_ hGc7
       obtain ⟨p3, o3, cs3, hx2, hr3, H⟩ := pre_iaddr H Try.underlying31 TF.sz3 2 rfl he3
       refine tPg 15 rfl rfl rfl rfl rfl rfl hf (by kernel_rfl) (fun _ => hS) (fun w => rq_iaddrE hf rfl rfl rfl hx2 w) fun a hf => ?_
       obtain rfl := hr3
       refine strT (H.lt_ [false] [false] [false] [0, 1]) (fun w H => H.lt_ [] [] [] [1]) fun hS => ?_
       refine tSg 16 [] rfl rfl rfl rfl rfl rfl hf (by kernel_rfl) (by kernel_rfl) hS (fun w H => rq_loadI hf H TF.ls3 0 0 rfl rfl rfl) fun a hf => ?_
       refine zg 17 hf hS fun a hf => ?_
       refine zp 18 hf hS fun a hf => ?_
       refine dk ?_
       obtain rfl := oi hGc7
       have hf := hf.pn [50, 2, 3, 8, 10, 11, 12, 14, 25, 26, 27]
       have H := H.lt_ [true] [true] [true] [3, 4, 5, 6, 7]
       exact ⟨hf, H⟩
      ·have hf := hf.lit 40 rfl hc4
       refine zU 9 hf trivial fun a hf => ?_
       refine zU 10 hf trivial fun a hf => ?_
       refine zU 11 hf trivial fun a hf => ?_
       refine zU 12 hf trivial fun a hf => ?_
       refine zU 13 hf trivial fun a hf => ?_
       refine zU 14 hf trivial fun a hf => ?_
       refine zU 15 hf trivial fun a hf => ?_
       refine zU 16 hf trivial fun a hf => ?_
       refine zU 17 hf trivial fun a hf => ?_
       refine zp 18 hf trivial fun a hf => ?_
       refine dk ?_
       obtain rfl := oi hGc7
       have hf := hf.pn [50, 2, 3, 8, 10, 11, 12, 14, 25, 26, 27]
       have H := H.lt_ [true] [true] [true] [1, 2, 3, 4, 5]
       exact ⟨hf, H⟩
     ·have hf := hf.lit 34 rfl hc3
      refine zU 3 hf trivial fun a hf => ?_
      refine zU 4 hf trivial fun a hf => ?_
      refine zU 5 hf trivial fun a hf => ?_
      refine zU 6 hf trivial fun a hf => ?_
      refine zp 7 hf trivial fun a hf => ?_
      refine zp 8 hf trivial fun a hf => ?_
      refine zU 9 hf trivial fun a hf => ?_
      refine zU 10 hf trivial fun a hf => ?_
      refine zU 11 hf trivial fun a hf => ?_
      refine zU 12 hf trivial fun a hf => ?_
      refine zU 13 hf trivial fun a hf => ?_
      refine zU 14 hf trivial fun a hf => ?_
      refine zU 15 hf trivial fun a hf => ?_
      refine zU 16 hf trivial fun a hf => ?_
      refine zU 17 hf trivial fun a hf => ?_
      refine zp 18 hf trivial fun a hf => ?_
      refine dk ?_
      obtain rfl := oi hGc7
      have hf := hf.pn [50, 2, 3, 8, 10, 11, 12, 14, 25, 26, 27]
      have H := H.lt_ [true] [true] [true] [1, 2, 3, 4, 5]
      exact ⟨hf, H⟩
    refine then_n (ib hR1 hf (fun hc5 hR1 => ?_) fun hc5 hR1 => ?_)
    ·refine reg (pz 2 hf fun a hf => ?_)
     refine wl0 rfl (bl hf H 3 ([far] : List Int) [(.int .i64 far)] (el1 (y := far) (rfl)) fun A8 a w hf H => ?_)
     obtain ⟨l, hl_, hR1⟩ := bs_ hR1
     refine wl0 rfl (op_appR hf H Try.underlying31 TF.ai3 rfl (by decide) 1 0 rfl rfl rfl rfl (.inr rfl) hl_ (by decide) fun E2 A9 c8 a w hf H => ?_)
     refine pz 5 hf fun a hf => ?_
     refine wl_end (then_n (reg (pz 2 hf fun a hf => ?_)))
     refine lB 0 hf H TF.ls25 fun a hf => ?_
     refine pz 1 hf fun a hf => ?_
     obtain ⟨e4, he4, hR1⟩ := bs_ hR1
     refine wl0 rfl (op_iaddr hf H Try.underlying25 TF.sz79 3 rfl rfl rfl he4 (by decide) fun p4 o4 cs4 a hf hr4 H => ?_)
     obtain rfl := Fiber_cells hr4
     refine pz 1 hf fun a hf => ?_
     refine oq hf (rq_loadI hf H TF.ls3 0 2 rfl rfl rfl) fun a hf => ?_
     refine pz 2 hf fun a hf => ?_
     have hf := hf.pn [2, 3, 8, 10, 11, 12, 25, 26, 27]
     refine wl_end (blk_n (then_n (reg (pz 2 hf fun a hf => ?_))))
     refine wl_end ?_
     have hf := hf.pn [2, 3, 8, 10, 11, 12, 25, 26, 27]
     have H := H.lt_ [true] [false, true] [true] [1, 2, 3, 4, 5]
     exact then_n ⟨(l, w64 (0 + e4.Length), w64 (k' + 1), w64 (i + 1)), hR1, A9, c8, E2, hf, H⟩
    ·refine wp_skip (then_n (reg (pz 2 hf fun a hf => ?_)))
     refine lB 0 hf H TF.ls25 fun a hf => ?_
     refine pz 1 hf fun a hf => ?_
     obtain ⟨e5, he5, hR1⟩ := bs_ hR1
     refine wl0 rfl (op_iaddr hf H Try.underlying25 TF.sz79 3 rfl rfl rfl he5 (by decide) fun p5 o5 cs5 a hf hr5 H => ?_)
     obtain rfl := Fiber_cells hr5
     refine pz 1 hf fun a hf => ?_
     refine oq hf (rq_loadI hf H TF.ls3 0 2 rfl rfl rfl) fun a hf => ?_
     refine pz 2 hf fun a hf => ?_
     refine wl_end (blk_n (then_n (reg (pz 2 hf fun a hf => ?_))))
     refine wl_end ?_
     have hf := hf.pn [2, 3, 8, 10, 11, 12, 25, 26, 27]
     have H := H.lt_ [true] [true] [true] [1, 2, 3, 4, 5]
     exact then_n ⟨(out', w64 (far + e5.Length), k', w64 (i + 1)), hR1, A7, c6, E, hf, H⟩
   ·refine wp_exit (then_x (then_x (blk_e (?_))))
    have hf := hf.pn [2, 3, 8, 10, 11, 12, 25, 26, 27]
    have H := H.lt_ [true] [true] [true] [0, 1, 2, 3, 4]
    exact ⟨(out', far, k', i), (Option.some.inj hR1).symm, A7, c6, E, hf, H⟩
  rintro a w ⟨⟨out3, far2, k2, i2⟩, rfl, A10, c9, E3, hf, H⟩
  try dsimp only at hF
  refine then_n (sq (sqz (pz 4 hf fun a hf => ?_)))
  refine wl_end (then_n (ib hF hf (fun hc6 hF => ?_) fun hc6 hF => ?_))
  ·refine sqz (pz 2 hf fun a hf => ?_)
   have hf := hf.pn [6, 7]
   refine wl_end (then_n (wp_ret (then_r (?_))))
   have H := H.ownNil (Int)
   have H := H.lend 0 rfl
   obtain rfl := oi hF
   refine ret_2 hf rfl (rv_tmp hf rfl) (rv_tmp hf rfl) ?_
   have hN := H.ends1
   exact ⟨_, rfl, H.bel, [], _, _, rfl, (mko_list (H.ownAt 0 rfl)), mk_bool, by first | exact hN | simpa using hN⟩
  ·refine wp_skip (then_n (sqz (pz 2 hf fun a hf => ?_)))
   refine wl0 rfl (bl hf H 3 ([far2] : List Int) [(.int .i64 far2)] (el1 (y := far2) (rfl)) fun A11 a w hf H => ?_)
   obtain ⟨l2, hl2_, hF⟩ := bs_ hF
   refine wl0 rfl (op_appR hf H Try.underlying31 TF.ai3 rfl (by decide) 1 0 rfl rfl rfl rfl (.inr rfl) hl2_ (by decide) fun E4 A12 c10 a w hf H => ?_)
   refine pz 2 hf fun a hf => ?_
   have hf := hf.pn [6, 7]
   refine wer ?_
   have H := H.rowOwn 1 rfl rfl
   obtain ⟨F3, H⟩ := H.freezeOwn 1 rfl
   have H := H.lend 0 rfl
   obtain rfl := oi hF
   refine ret_2 hf rfl (rv_tmp hf rfl) (rv_tmp hf rfl) ?_
   have hN := H.ends1
   exact ⟨_, rfl, H.bel, F3, _, _, rfl, (mko_list (H.ownAt 0 rfl)), mk_bool, by first | exact hN | simpa using hN⟩
theorem spec_l4Length_ok {S : Nat → Prop} {v0_ : Value} {v1_ : Value} {n' : Network} {r' : Route} {r : Int} (h0 : VR w0 S v0_ n') (h1 : VR w0 S v1_ r') (hF : spec_l4Length fu n' r' = some r) :
    Calls Try.prog 46 [v0_, v1_].toArray w0 fun e w' => ∃ v, e = .returned v ∧ (Below w0.heap.size w0 w' ∧ VR w' (St ⟨w0, []⟩ S [] [] [] true) v r) := by
 obtain ⟨A, c, A2, c2, rfl, hl, hl2⟩ := Network_open h0
 obtain ⟨A3, c3, rfl, hl3⟩ := Route_open h1
 have H := Mem.start ⟨w0, []⟩ S
 have H := H.pA hl
 have H := H.pA hl2
 have H := H.pA hl3
 refine en Try.func46 fun a hf => ?_
 rw [spec_l4Length] at hF
 refine bx hf H fun b' a w hf H => ?_
 refine wl0 rfl (op_box hf H rfl rfl (by decide) fun b2 a w hf H => ?_)
 refine pz 1 hf fun a hf => ?_
 refine wr (pz 1 hf fun a hf => ?_)
 refine we (sqz (pz 1 hf fun a hf => ?_))
 refine wl_end (then_n ?_)
 obtain ⟨out', hB1, hF⟩ := bs_ hF
 have hf := hf.pn [2, 3, 5, 6]
 have H := H.lt_ [true, true] [] [] [0, 1, 2]
 refine loopC (fun (s : Int × Int) (a : Act) (w : World) => match s with | (sum, i) => Fr a 27 [(2, (.pointer (some ⟨b', 0, none⟩))), (3, (.pointer (some ⟨b2, 0, none⟩))), (5, (.int .i64 sum)), (6, (.int .i64 i))] ∧ Mem ⟨w0, []⟩ S [⟨b2, 40, [(.int .i64 r'.Start), (.slice A3 r'.Fibers.length c3)]⟩, ⟨b', 27, [(.slice A n'.Nodes.length c), (.slice A2 n'.Fibers.length c2)]⟩] [] [] [(false, MP.val [(.slice A3 r'.Fibers.length c3)] (r'.Fibers : List Int)), (false, MP.val [(.slice A2 n'.Fibers.length c2)] (n'.Fibers : List Fiber)), (false, MP.val [(.slice A n'.Nodes.length c)] (n'.Nodes : List ByteArray))] w) (fun k (s : Int × Int) => spec_l4Length_L1 fu n' r' k s.1 s.2 = some out') (fun s => out' = s) (0, 0) fu hB1 ⟨hf, H⟩ (fun s h => by cases h) ?_ ?_
 ·rintro fk ⟨sum, i⟩ a w hR1 hI
  replace hR1 : spec_l4Length_L1 fu n' r' (fk + 1) sum i = some out' := hR1
  rw [spec_l4Length_L1] at hR1
  obtain ⟨hf, H⟩ := hI
  refine sq (sqz (pz 2 hf fun a hf => ?_))
  refine lB 0 hf H TF.ls31 fun a hf => ?_
  refine pz 2 hf fun a hf => ?_
  refine wl_end (then_n (ib hR1 hf (fun hc hR1 => ?_) fun hc hR1 => ?_))
  ·refine wp_skip (then_n (sq (wp_block (dw [] 13 fun w hb => ?_))))
   have H := H.keep hb
   refine zp 0 hf trivial fun a hf => ?_
   refine zp 1 hf trivial fun a hf => ?_
   refine strT (H.lt_ [false, true] [] [] []) (fun w H => trivial) fun hS => ?_
   refine zS 2 [] rfl rfl rfl rfl hf hS (fun w H => rq_loadB hf H TF.ls25 0 rfl rfl rfl) fun a hf => ?_
   refine zp 3 hf hS fun a hf => ?_
   refine strT (H.lt_ [true, true] [] [] []) (fun w H => H.lt_ [false, true] [] [] []) fun hS => ?_
   refine zS 4 [] rfl rfl rfl rfl hf hS (fun w H => rq_loadB hf H TF.ls31 0 rfl rfl rfl) fun a hf => ?_
   refine zp 5 hf hS fun a hf => ?_
   obtain ⟨e, he, hR1⟩ := bs_ hR1
   obtain ⟨p, o, cs, hx, hr, H⟩ := pre_iaddr H Try.underlying31 TF.sz3 0 rfl he
   refine zP 6 rfl rfl rfl rfl hf hS (fun w => rq_iaddrE hf rfl rfl rfl hx w) fun a hf => ?_
   obtain rfl := hr
   refine strT (H.lt_ [true, true] [] [] [0]) (fun w H => H.lt_ [true, true] [] [] []) fun hS => ?_
   refine zS 7 [] rfl rfl rfl rfl hf hS (fun w H => rq_loadI hf H TF.ls3 0 0 rfl rfl rfl) fun a hf => ?_
   obtain ⟨e2, he2, hR1⟩ := bs_ hR1
   obtain ⟨p2, o2, cs2, hx2, hr2, H⟩ := pre_iaddr H Try.underlying25 TF.sz79 2 rfl he2
   refine zP 8 rfl rfl rfl rfl hf hS (fun w => rq_iaddrE hf rfl rfl rfl hx2 w) fun a hf => ?_
   obtain rfl := Fiber_cells hr2
   refine zp 9 hf hS fun a hf => ?_
   refine strT (H.lt_ [true, true] [] [] [0, 1]) (fun w H => H.lt_ [true, true] [] [] [1]) fun hS => ?_
   refine zS 10 [] rfl rfl rfl rfl hf hS (fun w H => rq_loadI hf H TF.ls3 0 2 rfl rfl rfl) fun a hf => ?_
   refine zp 11 hf hS fun a hf => ?_
   refine zp 12 hf hS fun a hf => ?_
   refine dk ?_
   have hf := hf.pn [2, 3, 5, 6]
   refine blk_n (then_n (reg (pz 3 hf fun a hf => ?_)))
   refine wl_end ?_
   have hf := hf.pn [2, 3, 5, 6]
   have H := H.lt_ [true, true] [] [] [2, 3, 4]
   exact then_n ⟨(w64 (sum + e2.Length), w64 (i + 1)), hR1, hf, H⟩
  ·refine wp_exit (then_x (then_x (blk_e (?_))))
   have hf := hf.pn [2, 3, 5, 6]
   have H := H.lt_ [true, true] [] [] [0, 1, 2]
   exact ⟨(sum, i), (Option.some.inj hR1).symm, hf, H⟩
 rintro a w ⟨⟨sum2, i2⟩, rfl, hf, H⟩
 try dsimp only at hF
 refine then_n (sqz (pz 2 hf fun a hf => ?_))
 refine wer ?_
 obtain rfl := oi hF
 refine rT hf ?_
 exact ⟨_, rfl, H.bel, mk_int⟩
theorem spec_RouteLength_ok {S : Nat → Prop} {v0_ : Value} {v1_ : Value} {n' : Network} {r' : Route} {r : Int × Bool} (h0 : VR w0 S v0_ n') (h1 : VR w0 S v1_ r') (hF : spec_RouteLength fu n' r' = some r) :
    Calls Try.prog 16 [v0_, v1_].toArray w0 fun e w' => ∃ v, e = .returned v ∧ (Below w0.heap.size w0 w' ∧ ∃ u0 u1, v = .tuple #[u0, u1] ∧ VR w' (St ⟨w0, []⟩ S [] [] [] true) u0 r.1 ∧ VR w' (St ⟨w0, []⟩ S [] [] [] true) u1 r.2) := by
 obtain ⟨A, c, A2, c2, rfl, hl, hl2⟩ := Network_open h0
 obtain ⟨A3, c3, rfl, hl3⟩ := Route_open h1
 have H := Mem.start ⟨w0, []⟩ S
 have H := H.pA hl
 have H := H.pA hl2
 have H := H.pA hl3
 refine en Try.func16 fun a hf => ?_
 rw [spec_RouteLength] at hF
 refine bx hf H fun b' a w hf H => ?_
 refine wl0 rfl (op_box hf H rfl rfl (by decide) fun b2 a w hf H => ?_)
 refine pz 2 hf fun a hf => ?_
 refine wl_end (then_n (sq (sq (reg (lN 1 hf H TF.la27 fun a hf => ?_)))))
 refine lN 0 hf H TF.la40 fun a hf => ?_
 obtain ⟨y, hy, hF⟩ := bs_ hF
 refine oc hf TF.cl42 (spec_l4Good_ok (S := TT) (Network_mkv (x := n') (H.rt 2 rfl) (H.rt 1 rfl)) (Route_mkv (x := r') (H.rt 0 rfl)) hy) fun v w a hp hf => ?_
 obtain ⟨hb, hp⟩ := hp
 obtain rfl := VR_bool hp
 have H := H.keep hb
 refine pz 1 hf fun a hf => ?_
 refine wl_end (then_n (ib hF hf (fun hc hF => ?_) fun hc hF => ?_))
 ·refine sqz (pz 2 hf fun a hf => ?_)
  refine wl_end (then_n (wp_ret (then_r (?_))))
  obtain rfl := oi hF
  refine ret_2 hf rfl (rv_tmp hf rfl) (rv_tmp hf rfl) ?_
  exact ⟨_, rfl, H.bel, _, _, rfl, mk_int, mk_bool⟩
 ·refine wp_skip (then_n (sq (reg (lN 1 hf H TF.la27 fun a hf => ?_))))
  refine lN 0 hf H TF.la40 fun a hf => ?_
  obtain ⟨y2, hy2, hF⟩ := bs_ hF
  refine oc hf TF.cl46 (spec_l4Length_ok (S := TT) (Network_mkv (x := n') (H.rt 2 rfl) (H.rt 1 rfl)) (Route_mkv (x := r') (H.rt 0 rfl)) hy2) fun v2 w a hp2 hf => ?_
  obtain ⟨hb2, hp2⟩ := hp2
  obtain rfl := VR_int hp2
  have H := H.keep hb2
  refine pz 2 hf fun a hf => ?_
  refine wer ?_
  obtain rfl := oi hF
  refine ret_2 hf rfl (rv_tmp hf rfl) (rv_tmp hf rfl) ?_
  exact ⟨_, rfl, H.bel, _, _, rfl, mk_int, mk_bool⟩
theorem laws_rWithout_ok {S : Nat → Prop} {v0_ : Value} {v1_ : Value} {list : List Int} {i : Int} {r : List Int} (h0 : VR w0 S v0_ list) (h1 : VR w0 S v1_ i) (hF : laws_rWithout fu list i = some r) :
    Calls Try.prog 17 [v0_, v1_].toArray w0 fun e w' => ∃ v, e = .returned v ∧ (Below w0.heap.size w0 w' ∧ ∃ F0, VO w' F0 v r ∧ New w0 w' F0) := by
 obtain ⟨A, c, rfl, hl⟩ := VR_list h0
 obtain rfl := VR_int h1
 have H := Mem.start ⟨w0, []⟩ S
 have H := H.pA hl
 refine en Try.func17 fun a hf => ?_
 rw [laws_rWithout] at hF
 refine sqz (pz 1 hf fun a hf => ?_)
 refine wl_end (then_n (sq (dw [] 11 fun w hb => ?_)))
 have H := H.keep hb
 refine zp 1 hf trivial fun a hf => ?_
 refine zp 2 hf trivial fun a hf => ?_
 obtain ⟨l, hl_, hF⟩ := bs_ hF
 obtain ⟨A2, c2, hx, H⟩ := pre_slice H Try.underlying31 TF.sz3 0 (lov := none) (hiv := some (.int .i64 i)) (.inl ⟨rfl, rfl⟩) (.inr rfl) rfl hl_
 refine tP 3 rfl rfl rfl rfl hf (by kernel_rfl) (fun _ => trivial) (fun w => rq_sliceE hf rfl rfl rfl hx w) fun a hf => ?_
 refine zp 5 hf trivial fun a hf => ?_
 refine zp 6 hf trivial fun a hf => ?_
 refine zp 7 hf trivial fun a hf => ?_
 obtain ⟨l2, hl2_, hF⟩ := bs_ hF
 obtain ⟨A3, c3, hx2, H⟩ := pre_slice H Try.underlying31 TF.sz3 1 (lov := some (.int .i64 (w64 (i + 1)))) (hiv := none) (.inr rfl) (.inl ⟨rfl, rfl⟩) rfl hl2_
 refine tP 8 rfl rfl rfl rfl hf (by kernel_rfl) (fun _ => trivial) (fun w => rq_sliceE hf rfl rfl rfl hx2 w) fun a hf => ?_
 refine nn 0 rfl (bl hf H 3 ([] : List Int) [] el0 fun A4 a w hf H => ?_)
 refine ⟨fun _ => trivial, ?_⟩
 obtain ⟨l3, hl3_, hF⟩ := bs_ hF
 have H := H.rowWeak 0 rfl
 refine nn 4 rfl (op_appI hf H Try.underlying31 TF.ai3 rfl (by decide) 0 1 rfl rfl rfl rfl (.inl rfl) hl3_ (by decide) fun E A5 c4 a w hf H => ?_)
 have H := H.rowOwn 0 rfl rfl
 have H := H.rowSh 0 rfl
 refine ⟨fun _ => trivial, ?_⟩
 obtain ⟨l4, hl4_, hF⟩ := bs_ hF
 have H := H.rowWeak 0 rfl
 refine nn 9 rfl (op_appI hf H Try.underlying31 TF.ai3 rfl (by decide) 0 0 rfl rfl rfl rfl (.inl rfl) hl4_ (by decide) fun E2 A6 c5 a w hf H => ?_)
 have H := H.rowOwn 0 rfl rfl
 have H := H.rowSh 0 rfl
 refine ⟨fun _ => trivial, ?_⟩
 refine zp 10 hf trivial fun a hf => ?_
 refine dk ?_
 refine then_n (wp_ret (?_))
 have H := H.rowOwn 0 rfl rfl
 obtain ⟨F, H⟩ := H.freezeOwn 0 rfl
 have H := H.lend 0 rfl
 obtain rfl := oi hF
 refine rT hf ?_
 have hN := H.ends1
 exact ⟨_, rfl, H.bel, F, (mko_list (H.ownAt 0 rfl)), by first | exact hN | simpa using hN⟩
theorem spec_DrawFewestSites_ok {S : Nat → Prop} {v0_ : Value} {code : List By} {r : Network × Int} (h0 : VR w0 S v0_ code) (hF : spec_DrawFewestSites fu code = some r) :
    Calls Try.prog 18 [v0_].toArray w0 fun e w' => ∃ v, e = .returned v ∧ (Below w0.heap.size w0 w' ∧ ∃ F0, ∃ u0 u1, v = .tuple #[u0, u1] ∧ VO w' F0 u0 r.1 ∧ VR w' (St ⟨w0, []⟩ S [] [] [] true) u1 r.2 ∧ New w0 w' F0) := by
 obtain ⟨A, c, rfl, hl⟩ := VR_list h0
 have H := Mem.start ⟨w0, []⟩ S
 have H := H.pA hl
 refine en Try.func18 fun a hf => ?_
 rw [spec_DrawFewestSites] at hF
 refine sq (reg (aL hf H TF.zv27 fun b' a w hf H => ?_))
 refine pz 1 hf fun a hf => ?_
 refine wr (pz 1 hf fun a hf => ?_)
 refine oq hf (rq_build hf (cs := [(.slice A code.length c), (.int .i64 0), (.int .u64 0)]) rfl (fun w => by kernel_rfl)) fun a hf => ?_
 refine wl0 rfl (op_box hf H rfl rfl (by decide) fun b2 a w hf H => ?_)
 refine pz 1 hf fun a hf => ?_
 refine wr (pz 1 hf fun a hf => ?_)
 obtain ⟨y, hy, hF⟩ := bs_ hF
 refine oc hf TF.cl36 (spec_l1Cur_anyNetwork_ok (S := NB b2) (H.boxAt 0 rfl) ((L1CurP_mk (x := ({ code := code, at_ := 0, seed := (⟨0⟩ : U64) } : L1CurP)) (H.nb 0 rfl (H.get 0 rfl)))) (fun h => h rfl) hy) fun v w a hp hf => ?_
 obtain ⟨hch, cs, hbx, hr, ⟨hx, hx2⟩, hs⟩ := hp
 obtain ⟨F, hp2, hN⟩ := hs
 obtain ⟨A2, c2, F2, A3, c3, F3, rfl, rfl, hl2, hl3⟩ := Network_vo hp2
 obtain ⟨A4, c4, rfl, hl4⟩ := L1CurP_cells hr
 obtain ⟨rfl, rfl⟩ := fx_slice hx rfl rfl
 have H := H.bO2 0 rfl hch hbx hN hl2 hl3
 have H := H.pX 0 rfl hx2
 have H := H.lend 0 rfl
 have H := H.lend 1 rfl
 refine pz 1 hf fun a hf => ?_
 obtain ⟨y2, hy2, hF⟩ := bs_ hF
 refine oc hf TF.cl38 (spec_l1Cur_reach19_ok (S := NB b2) (H.boxAt 0 rfl) ((L1CurP_mk (x := y.2) (H.nb 0 rfl (H.get 2 rfl)))) (fun h => h rfl) hy2) fun v2 w a hp3 hf => ?_
 obtain ⟨hch2, cs2, hbx2, hr2, ⟨hx3, hx4⟩, hs2⟩ := hp3
 obtain rfl := VR_int hs2
 obtain ⟨A5, c5, rfl, hl5⟩ := L1CurP_cells hr2
 obtain ⟨rfl, rfl⟩ := fx_slice hx3 rfl rfl
 have hx5 := hx4.trans hx2
 have H := H.wroteBox 0 rfl hch2 hbx2
 have H := H.pX 2 rfl hx4
 refine sB 1 hf H TF.sz27 fun w H => ?_
 refine pz 1 hf fun a hf => ?_
 refine wer ?_
 have H := H.frontD 1 rfl
 have H := H.frontD 1 rfl
 obtain rfl := oi hF
 refine ret_2 hf rfl (rv_cellN hf H 1 TF.la27 rfl rfl rfl) (rv_tmp hf rfl) ?_
 have hN := H.ends2
 exact ⟨_, rfl, H.bel, (F2 ++ F3), _, _, rfl, ⟨_, Network_ownmk (x := y.1) (H.ownAt 0 rfl) (H.ownAt 1 rfl), rfl⟩, mk_int, by first | exact hN | simpa using hN⟩
theorem slices_Clone_int_int_ok {S : Nat → Prop} {v0_ : Value} {s' : List Int} {r : List Int} (h0 : VR w0 S v0_ s') (hF : slices_Clone_int_int fu s' = some r) :
    Calls Try.prog 33 [v0_].toArray w0 fun e w' => ∃ v, e = .returned v ∧ (Below w0.heap.size w0 w' ∧ ∃ F0, VO w' F0 v r ∧ New w0 w' F0) := by
 obtain ⟨A, c, rfl, hl⟩ := VR_list h0
 have H := Mem.start ⟨w0, []⟩ S
 have H := H.pA hl
 refine en Try.func33 fun a hf => ?_
 rw [slices_Clone_int_int] at hF
 refine sqz (pz 1 hf fun a hf => ?_)
 refine we (sqz (pz 1 hf fun a hf => ?_))
 cases A with
 | none =>
  have hnil : s' = [] := nil_data (α := Int) (H.get 0 rfl)
  replace hF := nil_case1 hnil hF
  refine oq hf (rq_nilN hf Try.underlying31 rfl rfl) fun a hf => ?_
  refine wl_end (then_n (cd_t hf rfl rfl (sqz (pz 1 hf fun a hf => ?_))))
  refine wl_end (then_n (wp_ret (then_r (?_))))
  have H := H.ownNil (Int)
  have H := H.lend 0 rfl
  obtain rfl := oi hF
  refine rT hf ?_
  have hN := H.ends1
  exact ⟨_, rfl, H.bel, [], (mko_list (H.ownAt 0 rfl)), by first | exact hN | simpa using hN⟩
 | some A2 =>
  replace hF := nil_case2 hF
  refine oq hf (rq_nilS hf Try.underlying31 rfl rfl) fun a hf => ?_
  refine wl_end (then_n (cd_f hf rfl rfl (wp_skip (then_n (sq (reg (wl0 rfl (bl hf H 3 ([] : List Int) [] el0 fun A3 a w hf H => ?_))))))))
  refine pz 1 hf fun a hf => ?_
  obtain ⟨l, hl_, hF⟩ := bs_ hF
  have H := H.rowWeak 0 rfl
  refine wl0 rfl (op_appI hf H Try.underlying31 TF.ai3 rfl (by decide) 0 0 rfl rfl rfl rfl (.inl rfl) hl_ (by decide) fun E A4 c2 a w hf H => ?_)
  have H := H.rowOwn 0 rfl rfl
  have H := H.rowSh 0 rfl
  refine pz 1 hf fun a hf => ?_
  refine wer ?_
  have H := H.rowOwn 0 rfl rfl
  obtain ⟨F, H⟩ := H.freezeOwn 0 rfl
  have H := H.lend 0 rfl
  obtain rfl := oi hF
  refine rT hf ?_
  have hN := H.ends1
  exact ⟨_, rfl, H.bel, F, (mko_list (H.ownAt 0 rfl)), by first | exact hN | simpa using hN⟩
theorem math_bits_Mul64_ok {S : Nat → Prop} {v0_ : Value} {v1_ : Value} {x1 : U64} {y : U64} {r : U64 × U64} (h0 : VR w0 S v0_ x1) (h1 : VR w0 S v1_ y) (hF : math_bits_Mul64 fu x1 y = some r) :
    Calls Try.prog 134 [v0_, v1_].toArray w0 fun e w' => ∃ v, e = .returned v ∧ (Below w0.heap.size w0 w' ∧ ∃ u0 u1, v = .tuple #[u0, u1] ∧ VR w' (St ⟨w0, []⟩ S [] [] [] true) u0 r.1 ∧ VR w' (St ⟨w0, []⟩ S [] [] [] true) u1 r.2) := by
 obtain rfl := VR_u64 h0
 obtain rfl := VR_u64 h1
 have H := Mem.start ⟨w0, []⟩ S
 refine en Try.func134 fun a hf => ?_
 rw [math_bits_Mul64] at hF
 refine sqz (pz 2 hf fun a hf => ?_)
 refine wr (pz 1 hf fun a hf => ?_)
 refine oq hf (rq_andu64 hf rfl rfl) fun a hf => ?_
 refine pz 1 hf fun a hf => ?_
 refine wr (pz 1 hf fun a hf => ?_)
 obtain ⟨q, hq, hF⟩ := bs_ hF
 refine oq hf (rq_shrK rfl hf rfl rfl hq) fun a hf => ?_
 refine pz 1 hf fun a hf => ?_
 refine wr (pz 1 hf fun a hf => ?_)
 refine oq hf (rq_andu64 hf rfl rfl) fun a hf => ?_
 refine pz 1 hf fun a hf => ?_
 refine wr (pz 1 hf fun a hf => ?_)
 obtain ⟨q2, hq2, hF⟩ := bs_ hF
 refine oq hf (rq_shrK rfl hf rfl rfl hq2) fun a hf => ?_
 refine pz 1 hf fun a hf => ?_
 refine wr (pz 2 hf fun a hf => ?_)
 refine oq hf (rq_mulK u64w hf rfl rfl) fun a hf => ?_
 refine pz 1 hf fun a hf => ?_
 have hf := hf.pn [0, 1, 6, 7, 8, 9, 10]
 refine wr (pz 2 hf fun a hf => ?_)
 refine oq hf (rq_mulK u64w hf rfl rfl) fun a hf => ?_
 refine pz 1 hf fun a hf => ?_
 obtain ⟨q3, hq3, hF⟩ := bs_ hF
 refine oq hf (rq_shrK rfl hf rfl rfl hq3) fun a hf => ?_
 refine oq hf (rq_addK u64w hf rfl rfl) fun a hf => ?_
 refine pz 1 hf fun a hf => ?_
 refine wr (pz 1 hf fun a hf => ?_)
 refine oq hf (rq_andu64 hf rfl rfl) fun a hf => ?_
 refine pz 1 hf fun a hf => ?_
 refine wr (pz 1 hf fun a hf => ?_)
 obtain ⟨q4, hq4, hF⟩ := bs_ hF
 refine oq hf (rq_shrK rfl hf rfl rfl hq4) fun a hf => ?_
 refine pz 1 hf fun a hf => ?_
 have hf := hf.pn [0, 1, 6, 7, 9, 12, 13]
 refine wr (pz 3 hf fun a hf => ?_)
 refine oq hf (rq_mulK u64w hf rfl rfl) fun a hf => ?_
 refine oq hf (rq_addK u64w hf rfl rfl) fun a hf => ?_
 refine pz 1 hf fun a hf => ?_
 refine wr (pz 2 hf fun a hf => ?_)
 refine oq hf (rq_mulK u64w hf rfl rfl) fun a hf => ?_
 refine pz 1 hf fun a hf => ?_
 refine oq hf (rq_addK u64w hf rfl rfl) fun a hf => ?_
 refine pz 1 hf fun a hf => ?_
 obtain ⟨q5, hq5, hF⟩ := bs_ hF
 refine oq hf (rq_shrK rfl hf rfl rfl hq5) fun a hf => ?_
 refine oq hf (rq_addK u64w hf rfl rfl) fun a hf => ?_
 refine pz 1 hf fun a hf => ?_
 have hf := hf.pn [0, 1, 4]
 refine wr (pz 2 hf fun a hf => ?_)
 refine oq hf (rq_mulK u64w hf rfl rfl) fun a hf => ?_
 refine pz 1 hf fun a hf => ?_
 refine wer ?_
 obtain rfl := oi hF
 refine ret_2 hf rfl (rv_tmp hf rfl) (rv_tmp hf rfl) ?_
 exact ⟨_, rfl, H.bel, _, _, rfl, (mk_u64 (x := (⟨wu64 ((wu64 ((wu64 (q * q2)) + q4)) + q5)⟩ : U64))), (mk_u64 (x := (⟨wu64 (x1.n * y.n)⟩ : U64)))⟩
theorem math_bits_Mul_ok {S : Nat → Prop} {v0_ : Value} {v1_ : Value} {x1 : U64} {y : U64} {r : U64 × U64} (h0 : VR w0 S v0_ x1) (h1 : VR w0 S v1_ y) (hF : math_bits_Mul fu x1 y = some r) :
    Calls Try.prog 129 [v0_, v1_].toArray w0 fun e w' => ∃ v, e = .returned v ∧ (Below w0.heap.size w0 w' ∧ ∃ u0 u1, v = .tuple #[u0, u1] ∧ VR w' (St ⟨w0, []⟩ S [] [] [] true) u0 r.1 ∧ VR w' (St ⟨w0, []⟩ S [] [] [] true) u1 r.2) := by
 obtain rfl := VR_u64 h0
 obtain rfl := VR_u64 h1
 have H := Mem.start ⟨w0, []⟩ S
 refine en Try.func129 fun a hf => ?_
 rw [math_bits_Mul] at hF
 refine sqz (pz 2 hf fun a hf => ?_)
 refine wl_end (then_n (sq (cd_f hf rfl rfl (wp_skip (then_n (sqz (pz 2 hf fun a hf => ?_)))))))
 obtain ⟨y2, hy2, hF⟩ := bs_ hF
 refine oc hf TF.cl134 (math_bits_Mul64_ok (S := TT) mk_u64 mk_u64 hy2) fun v w a hp hf => ?_
 obtain ⟨hb, v2, v3, rfl, hp2, hp3⟩ := hp
 obtain rfl := VR_u64 hp2
 obtain rfl := VR_u64 hp3
 have H := H.keep hb
 refine pz 5 hf fun a hf => ?_
 refine wr (pz 4 hf fun a hf => ?_)
 refine wer ?_
 obtain rfl := oi hF
 refine ret_2 hf rfl (rv_tmp hf rfl) (rv_tmp hf rfl) ?_
 exact ⟨_, rfl, H.bel, _, _, rfl, mk_u64, mk_u64⟩
theorem slices_Repeat_int_int_ok {S : Nat → Prop} {v0_ : Value} {v1_ : Value} {x1 : List Int} {count : Int} {r : List Int} (h0 : VR w0 S v0_ x1) (h1 : VR w0 S v1_ count) (hF : slices_Repeat_int_int fu x1 count = some r) :
    Calls Try.prog 117 [v0_, v1_].toArray w0 fun e w' => ∃ v, e = .returned v ∧ (Below w0.heap.size w0 w' ∧ ∃ F0, VO w' F0 v r ∧ New w0 w' F0) := by
 obtain ⟨A, c, rfl, hl⟩ := VR_list h0
 obtain rfl := VR_int h1
 have H := Mem.start ⟨w0, []⟩ S
 have H := H.pA hl
 refine en Try.func117 fun a hf => ?_
 rw [slices_Repeat_int_int] at hF
 refine sqz (pz 1 hf fun a hf => ?_)
 refine we (sqz (pz 2 hf fun a hf => ?_))
 refine wl_end (then_n (ib hF hf (fun hc hF => ?_) fun hc hF => ?_))
 ·refine reg ?_
  cases hF
 ·refine wp_skip (then_n (sqz (pz 2 hf fun a hf => ?_)))
  refine oq hf (rq_conv u64w Try.underlying3 Try.underlying105 hf rfl) fun a hf => ?_
  refine pz 1 hf fun a hf => ?_
  refine oq hf (rq_conv u64w Try.underlying3 Try.underlying105 hf rfl) fun a hf => ?_
  obtain ⟨y, hy, hF⟩ := bs_ hF
  refine oc hf TF.cl129 (math_bits_Mul_ok (S := TT) (mk_u64 (x := (⟨wu64 (x1.length : Int)⟩ : U64))) (mk_u64 (x := (⟨wu64 count⟩ : U64))) hy) fun v w a hp hf => ?_
  obtain ⟨hb, v2, v3, rfl, hp2, hp3⟩ := hp
  obtain rfl := VR_u64 hp2
  obtain rfl := VR_u64 hp3
  have H := H.keep hb
  refine pz 5 hf fun a hf => ?_
  have hf := hf.pn [0, 5, 6]
  refine wl_end (then_n (sq (sq ?_)))
  obtain ⟨c2, hGc2, hF⟩ := bs_ hF
  have fh := hf.prune [0, 6] rfl
  have Hm := H.lt_ [] [] [] [0]
  refine midF 26 (.bool c2) fh Hm ?_ fun a w hf H => ?_
  ·refine reg (pz 1 hf fun a hf => ?_)
   refine oq hf (rq_gtK hf rfl rfl) fun a hf => ?_
   refine pz 1 hf fun a hf => ?_
   refine iteB hGc2 (fun hc2 hGc2 => ?_) fun hc2 hGc2 => ?_
   ·have hf := hf.lit 23 rfl hc2
    refine pz 3 hf fun a hf => ?_
    obtain rfl := oi hGc2
    have hf := hf.pn [26, 0, 6]
    have H := H.lt_ [] [] [] [0]
    exact wl_end ⟨hf, H⟩
   ·have hf := hf.lit 23 rfl hc2
    refine pz 1 hf fun a hf => ?_
    refine wlg hf rfl rfl rfl (op_q hf (rq_gtK hf rfl rfl) rfl (by decide) fun a hf => ?_)
    refine pz 1 hf fun a hf => ?_
    obtain rfl := oi hGc2
    have hf := hf.pn [26, 0, 6]
    have H := H.lt_ [] [] [] [0]
    exact wl_end ⟨hf, H⟩
  refine then_n (ib hF hf (fun hc3 hF => ?_) fun hc3 hF => ?_)
  ·refine reg ?_
   cases hF
  ·refine wp_skip (then_n (sqz (pz 1 hf fun a hf => ?_)))
   refine oq hf (rq_conv i64w Try.underlying105 Try.underlying3 hf rfl) fun a hf => ?_
   obtain ⟨l, hl_, hF⟩ := bs_ hF
   refine wl0 rfl (op_make (z0 := (0 : Int)) hf H Try.underlying31 TF.ai3 rfl (by decide) rfl rfl rfl hl_ (by decide) fun A2 c3 a w hf H => ?_)
   refine pz 1 hf fun a hf => ?_
   refine wr (pz 2 hf fun a hf => ?_)
   obtain ⟨y2, hy2, hF⟩ := bs_ hF
   have H := H.rowWeak 0 rfl
   refine wl0 rfl (op_copyRI hf H Try.underlying31 TF.sz3 0 0 rfl rfl rfl rfl (.inl rfl) hy2 (by decide) fun a w hf H => ?_)
   replace hf : Fr a 48 [(0, (.slice A x1.length c)), (7, (.slice A2 l.length c3)), (31, (.slice A2 l.length c3)), (32, (.slice A x1.length c)), (33, (.int .i64 y2.2))] := hf.prune [0, 7, 31, 32, 33] rfl
   replace hf : Fr a 48 [(0, (.slice A x1.length c)), (7, (.slice A2 y2.1.length c3)), (31, (.slice A2 y2.1.length c3)), (32, (.slice A x1.length c)), (33, (.int .i64 y2.2))] := by simp only [cpy_len hy2]; exact hf
   have H := H.rowOwn 0 rfl rfl
   have H := H.rowSh 0 rfl
   refine pz 1 hf fun a hf => ?_
   refine wl_end (then_n (sq ?_))
   obtain ⟨out', hB1, hF⟩ := bs_ hF
   have hf := hf.pn [7, 8]
   have H := H.lt_ [] [true] [] []
   refine loopC (fun (s : List Int × Int) (a : Act) (w : World) => match s with | (newslice, n') => ∃ (A3 : Option Addr) (c4 : Nat) (E : Go.TypeId), Fr a 48 [(7, (.slice A3 newslice.length c4)), (8, (.int .i64 n'))] ∧ Mem ⟨w0, []⟩ S [] [⟨.sh true, E, A3, c4, (newslice : List Int)⟩] [] [] w) (fun k (s : List Int × Int) => slices_Repeat_int_int_L1 fu k s.1 s.2 = some out') (fun s => out' = s) (y2.1, y2.2) fu hB1 ⟨A2, c3, 3, hf, H⟩ (fun s h => by cases h) ?_ ?_
   ·rintro fk ⟨newslice, n'⟩ a w hR1 hI
    replace hR1 : slices_Repeat_int_int_L1 fu (fk + 1) newslice n' = some out' := hR1
    rw [slices_Repeat_int_int_L1] at hR1
    obtain ⟨A3, c4, E, hf, H⟩ := hI
    refine sq (sqz (pz 4 hf fun a hf => ?_))
    refine wl_end (then_n (ib hR1 hf (fun hc4 hR1 => ?_) fun hc4 hR1 => ?_))
    ·refine wp_skip (then_n (wp_block ?_))
     obtain ⟨y3, hy3, hR1⟩ := bs_ hR1
     obtain ⟨q, hq, h0, h1, he, he2⟩ := selfcp_some hy3
     have hnc : newslice.length ≤ c4 := H.rowCap 0 rfl
     have hmx : newslice.length ≤ maxLen := H.rowMax 0 rfl
     simp only [maxLen] at hmx
     have hf := hf.pn [7, 8, 34, 35, 36, 37]
     replace hf : Fr a 48 [(7, (.slice A3 newslice.length c4)), (8, (.int .i64 ((q : Nat) : Int))), (34, (.int .i64 ((q : Nat) : Int))), (35, (.slice A3 newslice.length c4)), (36, (.int .i64 (newslice.length : Int))), (37, (.bool (decide (n' < (newslice.length : Int)))))] := by rw [← hq]; exact hf
     refine dw [] 10 fun w hb => ?_
     have H := H.keep hb
     refine zp 0 hf trivial fun a hf => ?_
     refine zp 1 hf trivial fun a hf => ?_
     refine zp 2 hf trivial fun a hf => ?_
     refine tP 3 rfl rfl rfl rfl hf (by kernel_rfl) (fun _ => trivial) (fun w => rq_cut hf rfl rfl rfl rfl (run_cut Try.underlying31 TF.sz3 fun w => b_lo (Nat.le_of_lt h1)) w) fun a hf => ?_
     refine zp 4 hf trivial fun a hf => ?_
     refine zp 5 hf trivial fun a hf => ?_
     refine tP 6 rfl rfl rfl rfl hf (by kernel_rfl) (fun _ => trivial) (fun w => rq_cut hf rfl rfl rfl rfl (run_cut Try.underlying31 TF.sz3 fun w => b_hi (show q ≤ c4 by omega)) w) fun a hf => ?_
     refine nn 7 rfl (op_selfcp (α := Int) hf H Try.underlying31 TF.sz3 0 rfl rfl rfl h0 h1 (by decide) fun a w hf H => ?_)
     refine ⟨fun _ => trivial, ?_⟩
     refine zp 8 hf trivial fun a hf => ?_
     refine zp 9 hf trivial fun a hf => ?_
     refine dk ?_
     have hf := hf.pn [7, 8]
     have hw : w64 (((q : Nat) : Int) + ((min q (newslice.length - q) : Nat) : Int)) = y3.2 := by rw [he2, w64_in (by omega) (by omega)]; omega
     replace hf : Fr a 48 [(7, (.slice A3 newslice.length c4)), (8, (.int .i64 y3.2))] := by rw [← hw]; exact hf
     rw [← he] at H
     replace hf : Fr a 48 [(7, (.slice A3 y3.1.length c4)), (8, (.int .i64 y3.2))] := by simp only [selfcp_len hy3]; exact hf
     refine blk_n ?_
     have hf := hf.pn [7, 8]
     have H := H.lt_ [] [true] [] []
     exact then_n ⟨(y3.1, y3.2), hR1, A3, c4, E, hf, H⟩
    ·refine wp_exit (then_x (then_x (blk_e (?_))))
     have hf := hf.pn [7, 8]
     have H := H.lt_ [] [true] [] []
     exact ⟨(newslice, n'), (Option.some.inj hR1).symm, A3, c4, E, hf, H⟩
   rintro a w ⟨⟨newslice2, n2⟩, rfl, A4, c5, E2, hf, H⟩
   try dsimp only at hF
   refine then_n (sqz (pz 2 hf fun a hf => ?_))
   refine wer ?_
   have H := H.rowOwn 0 rfl rfl
   obtain ⟨F, H⟩ := H.freezeOwn 0 rfl
   have H := H.lend 0 rfl
   obtain rfl := oi hF
   refine rT hf ?_
   have hN := H.ends1
   exact ⟨_, rfl, H.bel, F, (mko_list (H.ownAt 0 rfl)), by first | exact hN | simpa using hN⟩
theorem impl_lengthsFrom_ok {S : Nat → Prop} {v0_ : Value} {v1_ : Value} {n' : Network} {from' : Int} {r : List Int} (h0 : VR w0 S v0_ n') (h1 : VR w0 S v1_ from') (hF : impl_lengthsFrom fu n' from' = some r) :
    Calls Try.prog 84 [v0_, v1_].toArray w0 fun e w' => ∃ v, e = .returned v ∧ (Below w0.heap.size w0 w' ∧ ∃ F0, VO w' F0 v r ∧ New w0 w' F0) := by
 obtain ⟨A, c, A2, c2, rfl, hl, hl2⟩ := Network_open h0
 obtain rfl := VR_int h1
 have H := Mem.start ⟨w0, []⟩ S
 have H := H.pA hl
 have H := H.pA hl2
 refine en Try.func84 fun a hf => ?_
 rw [impl_lengthsFrom] at hF
 refine bx hf H fun b' a w hf H => ?_
 refine pz 1 hf fun a hf => ?_
 refine wr (wl0 rfl (bl hf H 3 ([(-1)] : List Int) [(.int .i64 (-1))] (el1 (y := (-1)) (rfl)) fun A3 a w hf H => ?_))
 refine pz 1 hf fun a hf => ?_
 refine lB 0 hf H TF.ls24 fun a hf => ?_
 refine pz 1 hf fun a hf => ?_
 obtain ⟨y, hy, hF⟩ := bs_ hF
 refine oc hf TF.cl117 (slices_Repeat_int_int_ok (S := TT) (mk_list (H.rowTrue 0 rfl)) mk_int hy) fun v w a hp hf => ?_
 obtain ⟨hb, F, hp2, hN⟩ := hp
 obtain ⟨A4, c3, rfl, hl3⟩ := VO_list hp2
 have H := H.aO1 hb hN hl3
 have H := H.lend 0 rfl
 obtain ⟨Fs, E, H, -⟩ := H.thaw rfl
 have H := H.rowSh 0 rfl
 have H := H.pA hl
 have H := H.pA hl2
 refine pz 1 hf fun a hf => ?_
 refine wr (pz 2 hf fun a hf => ?_)
 obtain ⟨e, he, hF⟩ := bs_ hF
 refine wl0 rfl (op_iaddrR hf H Try.underlying31 TF.sz3 0 rfl rfl rfl he (by decide) fun p o cs a hf hA hr hk => ?_)
 obtain rfl := hr
 refine wl0 rfl (op_storeR (e' := 0) (o := o) (off := 0) hf H TF.sz3 0 rfl rfl rfl rfl rfl (nle rfl) rfl hA he (st_full rfl) fun w H => ?_)
 replace hf : Fr a 82 [(1, (.int .i64 from')), (2, (.pointer (some ⟨b', 0, none⟩))), (5, (.slice A4 y.length c3)), (17, (.slice A4 y.length c3)), (18, (.int .i64 from')), (19, (.pointer (some ⟨p, o + 0, none⟩)))] := hf.prune [1, 2, 5, 17, 18, 19] rfl
 replace hf : Fr a 82 [(1, (.int .i64 from')), (2, (.pointer (some ⟨b', 0, none⟩))), (5, (.slice A4 (y.set (from' : Int).toNat 0).length c3)), (17, (.slice A4 (y.set (from' : Int).toNat 0).length c3)), (18, (.int .i64 from')), (19, (.pointer (some ⟨p, o + 0, none⟩)))] := by simpa only [List.length_set, Nat.add_zero] using hf
 refine we (sqz (pz 1 hf fun a hf => ?_))
 refine wl_end (then_n ?_)
 obtain ⟨out2, hB1, hF⟩ := bs_ hF
 have hf := hf.pn [2, 5, 6]
 have H := H.lt_ [true] [true, false] [] [0, 1]
 refine loopC (fun (s : List Int × Bool) (a : Act) (w : World) => match s with | (out', changed) => ∃ (A5 : Option Addr) (c4 : Nat) (E2 : Go.TypeId), Fr a 82 [(2, (.pointer (some ⟨b', 0, none⟩))), (5, (.slice A5 out'.length c4)), (6, (.bool changed))] ∧ Mem ⟨w0, []⟩ S [⟨b', 27, [(.slice A n'.Nodes.length c), (.slice A2 n'.Fibers.length c2)]⟩] [⟨.sh true, E2, A5, c4, (out' : List Int)⟩] [] [(false, MP.val [(.slice A2 n'.Fibers.length c2)] (n'.Fibers : List Fiber)), (false, MP.val [(.slice A n'.Nodes.length c)] (n'.Nodes : List ByteArray))] w) (fun k (s : List Int × Bool) => impl_lengthsFrom_L1 fu n' k s.1 s.2 = some out2) (fun s => out2 = s) (y.set (from' : Int).toNat 0, true) fu hB1 ⟨A4, c3, E, hf, H⟩ (fun s h => by cases h) ?_ ?_
 ·rintro fk ⟨out', changed⟩ a w hR1 hI
  replace hR1 : impl_lengthsFrom_L1 fu n' (fk + 1) out' changed = some out2 := hR1
  rw [impl_lengthsFrom_L1] at hR1
  obtain ⟨A5, c4, E2, hf, H⟩ := hI
  refine sq (sqz (pz 1 hf fun a hf => ?_))
  refine wl_end (then_n (ib hR1 hf (fun hc hR1 => ?_) fun hc hR1 => ?_))
  ·refine wp_skip (then_n (wp_block (sqz (pz 1 hf fun a hf => ?_))))
   refine wr (pz 1 hf fun a hf => ?_)
   refine lB 0 hf H TF.ls25 fun a hf => ?_
   refine pz 2 hf fun a hf => ?_
   refine wl_end (then_n ?_)
   obtain ⟨out4, hB2, hR1⟩ := bs_ hR1
   have hf := hf.pn [2, 5, 6, 22, 23, 24]
   have H := H.lt_ [true] [true] [] [0, 1]
   refine loopC (fun (s : List Int × Bool × Int) (a : Act) (w : World) => match s with | (out3, changed2, i) => ∃ (A6 : Option Addr) (c5 : Nat) (E3 : Go.TypeId), Fr a 82 [(2, (.pointer (some ⟨b', 0, none⟩))), (5, (.slice A6 out3.length c5)), (6, (.bool changed2)), (22, (.slice A2 n'.Fibers.length c2)), (23, (.int .i64 (n'.Fibers.length : Int))), (24, (.int .i64 i))] ∧ Mem ⟨w0, []⟩ S [⟨b', 27, [(.slice A n'.Nodes.length c), (.slice A2 n'.Fibers.length c2)]⟩] [⟨.sh true, E3, A6, c5, (out3 : List Int)⟩] [] [(false, MP.val [(.slice A2 n'.Fibers.length c2)] (n'.Fibers : List Fiber)), (false, MP.val [(.slice A n'.Nodes.length c)] (n'.Nodes : List ByteArray))] w) (fun k (s : List Int × Bool × Int) => impl_lengthsFrom_L2 fu n' k s.1 s.2.1 s.2.2 = some out4) (fun s => out4 = s) (out', false, 0) fu hB2 ⟨A5, c4, E2, hf, H⟩ (fun s h => by cases h) ?_ ?_
   ·rintro fk ⟨out3, changed2, i⟩ a w hR2 hI
    replace hR2 : impl_lengthsFrom_L2 fu n' (fk + 1) out3 changed2 i = some out4 := hR2
    rw [impl_lengthsFrom_L2] at hR2
    obtain ⟨A6, c5, E3, hf, H⟩ := hI
    refine sqz (pz 1 hf fun a hf => ?_)
    refine wl_end (then_n (sq (ib hR2 hf (fun hc2 hR2 => ?_) fun hc2 hR2 => ?_)))
    ·refine wp_skip (then_n (sq (wp_block (sq (reg ?_)))))
     obtain ⟨e2, he2, hR2⟩ := bs_ hR2
     refine wl0 rfl (op_iaddr hf H Try.underlying25 TF.sz79 0 rfl rfl rfl he2 (by decide) fun p2 o2 cs2 a hf hr2 H => ?_)
     obtain rfl := Fiber_cells hr2
     refine oq hf (rq_loadIN hf H TF.la79 0 0 rfl rfl rfl rfl) fun a hf => ?_
     refine aL hf H TF.zv79 fun b2 a w hf H => ?_
     refine sB 0 hf H TF.sz79 fun w H => ?_
     refine wr (pz 1 hf fun a hf => ?_)
     refine lB 0 hf H TF.ls3 fun a hf => ?_
     refine pz 1 hf fun a hf => ?_
     refine lB 0 hf H TF.ls3 fun a hf => ?_
     refine oq hf (rq_build hf (cs := [(.int .i64 e2.A), (.int .i64 e2.B)]) rfl (fun w => by kernel_rfl)) fun a hf => ?_
     refine pz 1 hf fun a hf => ?_
     refine lB 0 hf H TF.ls3 fun a hf => ?_
     refine pz 1 hf fun a hf => ?_
     refine lB 0 hf H TF.ls3 fun a hf => ?_
     refine oq hf (rq_build hf (cs := [(.int .i64 e2.B), (.int .i64 e2.A)]) rfl (fun w => by kernel_rfl)) fun a hf => ?_
     refine wl0 rfl (bl hf H 136 ([(⟨[e2.A, e2.B], rfl⟩ : IA 2), (⟨[e2.B, e2.A], rfl⟩ : IA 2)] : List (IA 2)) [(.int .i64 e2.A), (.int .i64 e2.B), (.int .i64 e2.B), (.int .i64 e2.A)] (elL [([(.int .i64 e2.A), (.int .i64 e2.B)], ((⟨[e2.A, e2.B], rfl⟩ : IA 2) : IA 2)), ([(.int .i64 e2.B), (.int .i64 e2.A)], ((⟨[e2.B, e2.A], rfl⟩ : IA 2) : IA 2))] (al1 (x := ((⟨[e2.A, e2.B], rfl⟩ : IA 2) : IA 2)) (rfl) (al1 (x := ((⟨[e2.B, e2.A], rfl⟩ : IA 2) : IA 2)) (rfl) al0))) fun A7 a w hf H => ?_)
     refine pz 2 hf fun a hf => ?_
     have hf := hf.pn [2, 5, 6, 8, 22, 23, 24, 38, 39, 40]
     refine wl_end (then_n ?_)
     obtain ⟨out6, hB3, hR2⟩ := bs_ hR2
     have hf := hf.pn [2, 5, 6, 8, 22, 23, 24, 38, 39, 40]
     have H := H.frontR 1 rfl
     have H := H.lt_ [true, true] [true, true] [] [1, 2]
     refine loopC (fun (s : List Int × Bool × Int) (a : Act) (w : World) => match s with | (out5, changed3, i2) => ∃ (A8 : Option Addr) (c6 : Nat) (E4 : Go.TypeId), Fr a 82 [(2, (.pointer (some ⟨b', 0, none⟩))), (5, (.slice A8 out5.length c6)), (6, (.bool changed3)), (8, (.pointer (some ⟨b2, 0, none⟩))), (22, (.slice A2 n'.Fibers.length c2)), (23, (.int .i64 (n'.Fibers.length : Int))), (24, (.int .i64 i)), (38, (.slice A7 2 2)), (39, (.int .i64 ([(⟨[e2.A, e2.B], rfl⟩ : IA 2), (⟨[e2.B, e2.A], rfl⟩ : IA 2)].length : Int))), (40, (.int .i64 i2))] ∧ Mem ⟨w0, []⟩ S [⟨b2, 79, [(.int .i64 e2.A), (.int .i64 e2.B), (.int .i64 e2.Length), (.int .i64 e2.Risk)]⟩, ⟨b', 27, [(.slice A n'.Nodes.length c), (.slice A2 n'.Fibers.length c2)]⟩] [⟨.sh true, E4, A8, c6, (out5 : List Int)⟩, ⟨.sh true, 136, A7, 2, ([(⟨[e2.A, e2.B], rfl⟩ : IA 2), (⟨[e2.B, e2.A], rfl⟩ : IA 2)] : List (IA 2))⟩] [] [(false, MP.val [(.slice A2 n'.Fibers.length c2)] (n'.Fibers : List Fiber)), (false, MP.val [(.slice A n'.Nodes.length c)] (n'.Nodes : List ByteArray))] w) (fun k (s : List Int × Bool × Int) => impl_lengthsFrom_L3 fu e2 k s.1 s.2.1 s.2.2 = some out6) (fun s => out6 = s) (out3, changed2, 0) fu hB3 ⟨A6, c5, E3, hf, H⟩ (fun s h => by cases h) ?_ ?_
     ·rintro fk ⟨out5, changed3, i2⟩ a w hR3 hI
      replace hR3 : impl_lengthsFrom_L3 fu e2 (fk + 1) out5 changed3 i2 = some out6 := hR3
      rw [impl_lengthsFrom_L3] at hR3
      obtain ⟨A8, c6, E4, hf, H⟩ := hI
      refine sqz (pz 1 hf fun a hf => ?_)
      refine wl_end (then_n (sq (ib hR3 hf (fun hc3 hR3 => ?_) fun hc3 hR3 => ?_)))
      ·refine wp_skip (then_n (sq (wp_block (sq (reg ?_)))))
       obtain ⟨e3, he3, hR3⟩ := bs_ hR3
       refine wl0 rfl (op_iaddrR hf H Try.underlying137 TF.sz136 1 rfl rfl rfl he3 (by decide) fun p3 o3 cs3 a hf hA2 hr3 hk2 => ?_)
       obtain rfl := hr3
       refine oq hf (rq_loadN hf TF.la136 rfl (IA.cells_len _) (fun j c hj => hk2 _ c (by simpa using hj))) fun a hf => ?_
       refine aL hf H TF.zv136 fun b3 a w hf H => ?_
       have H : Mem ⟨w0, []⟩ S [⟨b3, 136, (IA.zero 2).cells⟩, ⟨b2, 79, [(.int .i64 e2.A), (.int .i64 e2.B), (.int .i64 e2.Length), (.int .i64 e2.Risk)]⟩, ⟨b', 27, [(.slice A n'.Nodes.length c), (.slice A2 n'.Fibers.length c2)]⟩] [⟨.sh true, E4, A8, c6, (out5 : List Int)⟩, ⟨.sh true, 136, A7, 2, ([(⟨[e2.A, e2.B], rfl⟩ : IA 2), (⟨[e2.B, e2.A], rfl⟩ : IA 2)] : List (IA 2))⟩] [] [(false, MP.val [(.slice A2 n'.Fibers.length c2)] (n'.Fibers : List Fiber)), (false, MP.val [(.slice A n'.Nodes.length c)] (n'.Nodes : List ByteArray))] w := H
       refine wl0 rfl (op_storeBA hf H 0 TF.sz136 (Z := e3) rfl rfl rfl rfl fun w H => ?_)
       refine wr (pz 1 hf fun a hf => ?_)
       obtain ⟨q, hq, hR3⟩ := bs_ hR3
       refine oq hf (rq_iaddrA hf Try.underlying136 TF.sz3 rfl rfl hq) fun a hf => ?_
       obtain ⟨e4, he4, hR3⟩ := bs_ hR3
       refine oq hf (rq_loadArr hf H TF.ls3 0 rfl rfl he4) fun a hf => ?_
       obtain ⟨e5, he5, hR3⟩ := bs_ hR3
       refine wl0 rfl (op_iaddrR hf H Try.underlying31 TF.sz3 0 rfl rfl rfl he5 (by decide) fun p4 o4 cs4 a hf hA3 hr4 hk3 => ?_)
       obtain rfl := hr4
       refine oq hf (rq_load1 hf TF.ls3 rfl (hk3 0 _ rfl)) fun a hf => ?_
       refine pz 1 hf fun a hf => ?_
       refine wl_end (then_n (sq ?_))
       obtain ⟨c7, hGc7, hR3⟩ := bs_ hR3
       have fh := hf.prune [2, 5, 6, 8, 10, 11, 22, 23, 24, 38, 39, 40] rfl
       have Hm := H.lt_ [true, true, true] [true, true] [] [0, 1]
       refine midF 70 (.bool c7) fh Hm ?_ fun a w hf H => ?_
       ·refine dw [] 22 fun w hb => ?_
        have H := H.keep hb
        refine zp 0 hf trivial fun a hf => ?_
        refine zp 1 hf trivial fun a hf => ?_
        refine zp 2 hf trivial fun a hf => ?_
        refine iteB hGc7 (fun hc4 hGc7 => ?_) fun hc4 hGc7 => ?_
        ·have hf := hf.lit 51 rfl hc4
         refine zg 3 hf trivial fun a hf => ?_
         obtain ⟨q2, hq2, hGc7⟩ := bs_ hGc7
         refine tPg 4 rfl rfl rfl rfl rfl rfl hf (by kernel_rfl) (fun _ => trivial) (fun w => rq_iaddrA hf Try.underlying136 TF.sz3 rfl rfl hq2) fun a hf => ?_
         refine strT (H.lt_ [true, false, false] [false, false] [] []) (fun w H => trivial) fun hS => ?_
         obtain ⟨e6, he6, hGc7⟩ := bs_ hGc7
         refine tSg 5 [] rfl rfl rfl rfl rfl rfl hf (by kernel_rfl) (by kernel_rfl) hS (fun w H => rq_loadArr hf H TF.ls3 0 rfl rfl he6) fun a hf => ?_
         obtain ⟨e7, he7, hGc7⟩ := bs_ hGc7
         obtain ⟨p5, o5, hA4, hx⟩ := pre_iaddrR H Try.underlying31 TF.sz3 0 rfl he7
         refine tPg 6 rfl rfl rfl rfl rfl rfl hf (by kernel_rfl) (fun _ => hS) (fun w => rq_iaddrE hf rfl rfl rfl hx w) fun a hf => ?_
         refine strT (H.lt_ [true, false, false] [true, false] [] []) (fun w H => H.lt_ [true] [false] [] []) fun hS => ?_
         refine tSg 7 [] rfl rfl rfl rfl rfl rfl hf (by kernel_rfl) (by kernel_rfl) hS (fun w H => rq_loadRow (off := 0) hf H TF.ls3 0 rfl rfl hA4 he7 (fun w T cs h => by obtain rfl := h; rfl)) fun a hf => ?_
         refine zg 8 hf hS fun a hf => ?_
         refine zg 9 hf hS fun a hf => ?_
         refine iteB hGc7 (fun hc5 hGc7 => ?_) fun hc5 hGc7 => ?_
         ·have hf := hf.lit 58 rfl hc5
          refine zU 10 hf hS fun a hf => ?_
          refine zU 11 hf hS fun a hf => ?_
          refine zU 12 hf hS fun a hf => ?_
          refine zU 13 hf hS fun a hf => ?_
          refine zU 14 hf hS fun a hf => ?_
          refine zU 15 hf hS fun a hf => ?_
          refine zU 16 hf hS fun a hf => ?_
          refine zU 17 hf hS fun a hf => ?_
          refine zU 18 hf hS fun a hf => ?_
          refine zU 19 hf hS fun a hf => ?_
          refine zg 20 hf hS fun a hf => ?_
          refine zp 21 hf hS fun a hf => ?_
          refine dk ?_
          obtain rfl := oi hGc7
          have hf := hf.pn [70, 2, 5, 6, 8, 10, 11, 22, 23, 24, 38, 39, 40]
          have H := H.lt_ [true, true, true] [true, true] [] [0, 1]
          exact ⟨hf, H⟩
         ·have hf := hf.lit 58 rfl hc5
          refine zg 10 hf hS fun a hf => ?_
          obtain ⟨q3, hq3, hGc7⟩ := bs_ hGc7
          refine tPg 11 rfl rfl rfl rfl rfl rfl hf (by kernel_rfl) (fun _ => hS) (fun w => rq_iaddrA hf Try.underlying136 TF.sz3 rfl rfl hq3) fun a hf => ?_
          obtain ⟨e8, he8, hGc7⟩ := bs_ hGc7
          refine tSg 12 [] rfl rfl rfl rfl rfl rfl hf (by kernel_rfl) (by kernel_rfl) hS (fun w H => rq_loadArr hf H TF.ls3 0 rfl rfl he8) fun a hf => ?_
          obtain ⟨e9, he9, hGc7⟩ := bs_ hGc7
          obtain ⟨p6, o6, hA5, hx2⟩ := pre_iaddrR H Try.underlying31 TF.sz3 0 rfl he9
          refine tPg 13 rfl rfl rfl rfl rfl rfl hf (by kernel_rfl) (fun _ => hS) (fun w => rq_iaddrE hf rfl rfl rfl hx2 w) fun a hf => ?_
          refine tSg 14 [] rfl rfl rfl rfl rfl rfl hf (by kernel_rfl) (by kernel_rfl) hS (fun w H => rq_loadRow (off := 0) hf H TF.ls3 0 rfl rfl hA5 he9 (fun w T cs h => by obtain rfl := h; rfl)) fun a hf => ?_
          refine zg 15 hf hS fun a hf => ?_
          refine zg 16 hf hS fun a hf => ?_
          refine strT (H.lt_ [true, true, false] [true, false] [] []) (fun w H => H.lt_ [true, false] [true] [] []) fun hS => ?_
          refine tSg 17 [] rfl rfl rfl rfl rfl rfl hf (by kernel_rfl) (by kernel_rfl) hS (fun w H => rq_loadB hf H TF.ls3 1 rfl rfl rfl) fun a hf => ?_
          refine zg 18 hf hS fun a hf => ?_
          refine zg 19 hf hS fun a hf => ?_
          refine zg 20 hf hS fun a hf => ?_
          refine zp 21 hf hS fun a hf => ?_
          refine dk ?_
          obtain rfl := oi hGc7
          have hf := hf.pn [70, 2, 5, 6, 8, 10, 11, 22, 23, 24, 38, 39, 40]
          have H := H.lt_ [true, true, true] [true, true] [] [0, 1]
          exact ⟨hf, H⟩
        ·have hf := hf.lit 51 rfl hc4
         refine zU 3 hf trivial fun a hf => ?_
         refine zU 4 hf trivial fun a hf => ?_
         refine zU 5 hf trivial fun a hf => ?_
         refine zU 6 hf trivial fun a hf => ?_
         refine zU 7 hf trivial fun a hf => ?_
         refine zU 8 hf trivial fun a hf => ?_
         refine zU 9 hf trivial fun a hf => ?_
         refine zV 10 hf trivial fun a hf => ?_
         refine zV 11 hf trivial fun a hf => ?_
         refine zV 12 hf trivial fun a hf => ?_
         refine zV 13 hf trivial fun a hf => ?_
         refine zV 14 hf trivial fun a hf => ?_
         refine zV 15 hf trivial fun a hf => ?_
         refine zV 16 hf trivial fun a hf => ?_
         refine zV 17 hf trivial fun a hf => ?_
         refine zV 18 hf trivial fun a hf => ?_
         refine zV 19 hf trivial fun a hf => ?_
         refine zU 20 hf trivial fun a hf => ?_
         refine zp 21 hf trivial fun a hf => ?_
         refine dk ?_
         obtain rfl := oi hGc7
         have hf := hf.pn [70, 2, 5, 6, 8, 10, 11, 22, 23, 24, 38, 39, 40]
         have H := H.lt_ [true, true, true] [true, true] [] [0, 1]
         exact ⟨hf, H⟩
       refine then_n (ib hR3 hf (fun hc6 hR3 => ?_) fun hc6 hR3 => ?_)
       ·refine reg (pz 1 hf fun a hf => ?_)
        obtain ⟨q4, hq4, hR3⟩ := bs_ hR3
        refine oq hf (rq_iaddrA hf Try.underlying136 TF.sz3 rfl rfl hq4) fun a hf => ?_
        obtain ⟨e10, he10, hR3⟩ := bs_ hR3
        refine oq hf (rq_loadArr hf H TF.ls3 0 rfl rfl he10) fun a hf => ?_
        refine pz 2 hf fun a hf => ?_
        refine lB 1 hf H TF.ls3 fun a hf => ?_
        refine pz 1 hf fun a hf => ?_
        obtain ⟨e11, he11, hR3⟩ := bs_ hR3
        refine wl0 rfl (op_iaddrR hf H Try.underlying31 TF.sz3 0 rfl rfl rfl he11 (by decide) fun p7 o7 cs5 a hf hA6 hr5 hk4 => ?_)
        obtain rfl := hr5
        refine wl0 rfl (op_storeR (e' := w64 (e5 + e2.Length)) (o := o7) (off := 0) hf H TF.sz3 0 rfl rfl rfl rfl rfl (nle rfl) rfl hA6 he11 (st_full rfl) fun w H => ?_)
        replace hf : Fr a 82 [(2, (.pointer (some ⟨b', 0, none⟩))), (5, (.slice A8 out5.length c6)), (6, (.bool changed3)), (8, (.pointer (some ⟨b2, 0, none⟩))), (10, (.pointer (some ⟨b3, 0, none⟩))), (11, (.int .i64 e5)), (22, (.slice A2 n'.Fibers.length c2)), (23, (.int .i64 (n'.Fibers.length : Int))), (24, (.int .i64 i)), (38, (.slice A7 2 2)), (39, (.int .i64 ([(⟨[e2.A, e2.B], rfl⟩ : IA 2), (⟨[e2.B, e2.A], rfl⟩ : IA 2)].length : Int))), (40, (.int .i64 i2)), (71, (.slice A8 out5.length c6)), (72, (.pointer (some ⟨b3, 0 + q4 * 1, none⟩))), (73, (.int .i64 e10)), (74, (.int .i64 e5)), (75, (.pointer (some ⟨b2, 2, none⟩))), (76, (.int .i64 e2.Length)), (77, (.int .i64 (w64 (e5 + e2.Length)))), (78, (.pointer (some ⟨p7, o7 + 0, none⟩)))] := hf.prune [2, 5, 6, 8, 10, 11, 22, 23, 24, 38, 39, 40, 71, 72, 73, 74, 75, 76, 77, 78] rfl
        replace hf : Fr a 82 [(2, (.pointer (some ⟨b', 0, none⟩))), (5, (.slice A8 (out5.set (e10 : Int).toNat (w64 (e5 + e2.Length))).length c6)), (6, (.bool changed3)), (8, (.pointer (some ⟨b2, 0, none⟩))), (10, (.pointer (some ⟨b3, 0, none⟩))), (11, (.int .i64 e5)), (22, (.slice A2 n'.Fibers.length c2)), (23, (.int .i64 (n'.Fibers.length : Int))), (24, (.int .i64 i)), (38, (.slice A7 2 2)), (39, (.int .i64 ([(⟨[e2.A, e2.B], rfl⟩ : IA 2), (⟨[e2.B, e2.A], rfl⟩ : IA 2)].length : Int))), (40, (.int .i64 i2)), (71, (.slice A8 (out5.set (e10 : Int).toNat (w64 (e5 + e2.Length))).length c6)), (72, (.pointer (some ⟨b3, 0 + q4 * 1, none⟩))), (73, (.int .i64 e10)), (74, (.int .i64 e5)), (75, (.pointer (some ⟨b2, 2, none⟩))), (76, (.int .i64 e2.Length)), (77, (.int .i64 (w64 (e5 + e2.Length)))), (78, (.pointer (some ⟨p7, o7 + 0, none⟩)))] := by simpa only [List.length_set, Nat.add_zero] using hf
        refine pz 1 hf fun a hf => ?_
        refine wl_end (blk_n (then_n (reg (pz 2 hf fun a hf => ?_))))
        refine wl_end ?_
        have hf := hf.pn [2, 5, 6, 8, 22, 23, 24, 38, 39, 40]
        have H := H.lt_ [false, true, true] [true, true] [] [0, 1]
        exact then_n ⟨(out5.set (e10 : Int).toNat (w64 (e5 + e2.Length)), true, w64 (i2 + 1)), hR3, A8, c6, E4, hf, H⟩
       ·refine wp_skip (blk_n (then_n (reg (pz 2 hf fun a hf => ?_))))
        refine wl_end ?_
        have hf := hf.pn [2, 5, 6, 8, 22, 23, 24, 38, 39, 40]
        have H := H.lt_ [false, true, true] [true, true] [] [0, 1]
        exact then_n ⟨(out5, changed3, w64 (i2 + 1)), hR3, A8, c6, E4, hf, H⟩
      ·refine wp_exit (then_x (then_x (blk_e (?_))))
       have hf := hf.pn [2, 5, 6, 8, 22, 23, 24, 38, 39, 40]
       have H := H.lt_ [true, true] [true, true] [] [0, 1]
       exact ⟨(out5, changed3, i2), (Option.some.inj hR3).symm, A8, c6, E4, hf, H⟩
     rintro a w ⟨⟨out7, changed4, i3⟩, rfl, A9, c8, E5, hf, H⟩
     try dsimp only at hR2
     refine blk_n (then_n (reg (pz 2 hf fun a hf => ?_)))
     refine wl_end ?_
     have hf := hf.pn [2, 5, 6, 22, 23, 24]
     have H := H.lt_ [false, true] [true, false] [] [0, 1]
     exact then_n ⟨(out7, changed4, w64 (i + 1)), hR2, A9, c8, E5, hf, H⟩
    ·refine wp_exit (then_x (then_x (blk_e (?_))))
     have hf := hf.pn [2, 5, 6, 22, 23, 24]
     have H := H.lt_ [true] [true] [] [0, 1]
     exact ⟨(out3, changed2, i), (Option.some.inj hR2).symm, A6, c5, E3, hf, H⟩
   rintro a w ⟨⟨out8, changed5, i4⟩, rfl, A10, c9, E6, hf, H⟩
   try dsimp only at hR1
   refine blk_n ?_
   have hf := hf.pn [2, 5, 6]
   have H := H.lt_ [true] [true] [] [0, 1]
   exact then_n ⟨(out8, changed5), hR1, A10, c9, E6, hf, H⟩
  ·refine wp_exit (then_x (then_x (blk_e (?_))))
   have hf := hf.pn [2, 5, 6]
   have H := H.lt_ [true] [true] [] [0, 1]
   exact ⟨(out', changed), (Option.some.inj hR1).symm, A5, c4, E2, hf, H⟩
 rintro a w ⟨⟨out9, changed6⟩, rfl, A11, c10, E7, hf, H⟩
 try dsimp only at hF
 refine then_n (sqz (pz 2 hf fun a hf => ?_))
 refine wer ?_
 have H := H.rowOwn 0 rfl rfl
 obtain ⟨F3, H⟩ := H.freezeOwn 0 rfl
 have H := H.lend 0 rfl
 obtain rfl := oi hF
 refine rT hf ?_
 have hN := H.ends1
 exact ⟨_, rfl, H.bel, F3, (mko_list (H.ownAt 0 rfl)), by first | exact hN | simpa using hN⟩
theorem impl_sitesConnect_ok {S : Nat → Prop} {v0_ : Value} {v1_ : Value} {v2_ : Value} {n' : Network} {sites : List Int} {reach : Int} {r : Bool} (h0 : VR w0 S v0_ n') (h1 : VR w0 S v1_ sites) (h2 : VR w0 S v2_ reach) (hF : impl_sitesConnect fu n' sites reach = some r) :
    Calls Try.prog 50 [v0_, v1_, v2_].toArray w0 fun e w' => ∃ v, e = .returned v ∧ (Below w0.heap.size w0 w' ∧ VR w' (St ⟨w0, []⟩ S [] [] [] true) v r) := by
 obtain ⟨A, c, A2, c2, rfl, hl, hl2⟩ := Network_open h0
 obtain ⟨A3, c3, rfl, hl3⟩ := VR_list h1
 obtain rfl := VR_int h2
 have H := Mem.start ⟨w0, []⟩ S
 have H := H.pA hl
 have H := H.pA hl2
 have H := H.pA hl3
 refine en Try.func50 fun a hf => ?_
 rw [impl_sitesConnect] at hF
 refine bx hf H fun b' a w hf H => ?_
 refine pz 1 hf fun a hf => ?_
 refine we (sqz (pz 1 hf fun a hf => ?_))
 refine lB 0 hf H TF.ls24 fun a hf => ?_
 refine pz 2 hf fun a hf => ?_
 refine wl_end (then_n ?_)
 obtain ⟨out', hB1, hF⟩ := bs_ hF
 have hf := hf.pn [1, 2, 3, 17, 18]
 have H := H.lt_ [true] [] [] [0, 1, 2]
 refine loopC (fun (s : Int) (a : Act) (w : World) => match s with | i => Fr a 97 [(1, (.slice A3 sites.length c3)), (2, (.int .i64 reach)), (3, (.pointer (some ⟨b', 0, none⟩))), (17, (.int .i64 (n'.Nodes.length : Int))), (18, (.int .i64 i))] ∧ Mem ⟨w0, []⟩ S [⟨b', 27, [(.slice A n'.Nodes.length c), (.slice A2 n'.Fibers.length c2)]⟩] [] [] [(false, MP.val [(.slice A3 sites.length c3)] (sites : List Int)), (false, MP.val [(.slice A2 n'.Fibers.length c2)] (n'.Fibers : List Fiber)), (false, MP.val [(.slice A n'.Nodes.length c)] (n'.Nodes : List ByteArray))] w) (fun k (s : Int) => impl_sitesConnect_L1 fu n' sites reach k s = some out') (fun s => out' = Out.next s) 0 fu hB1 ⟨hf, H⟩ (fun s h => by cases h) ?_ ?_
 ·rintro fk i a w hR1 hI
  replace hR1 : impl_sitesConnect_L1 fu n' sites reach (fk + 1) i = some out' := hR1
  rw [impl_sitesConnect_L1] at hR1
  obtain ⟨hf, H⟩ := hI
  refine sqz (pz 1 hf fun a hf => ?_)
  refine wl_end (then_n (sq (ib hR1 hf (fun hc hR1 => ?_) fun hc hR1 => ?_)))
  ·refine ws (pz 2 hf fun a hf => ?_)
   refine wr (pz 1 hf fun a hf => ?_)
   refine lB 0 hf H TF.ls24 fun a hf => ?_
   refine pz 1 hf fun a hf => ?_
   obtain ⟨l, hl_, hR1⟩ := bs_ hR1
   refine wl0 rfl (op_make (z0 := (false : Bool)) hf H Try.underlying92 TF.ai4 rfl (by decide) rfl rfl rfl hl_ (by decide) fun A4 c4 a w hf H => ?_)
   refine pz 1 hf fun a hf => ?_
   refine wl0 rfl (bl hf H 3 ([i] : List Int) [(.int .i64 i)] (el1 (y := i) (rfl)) fun A5 a w hf H => ?_)
   refine pz 2 hf fun a hf => ?_
   refine wr (pz 2 hf fun a hf => ?_)
   obtain ⟨e, he, hR1⟩ := bs_ hR1
   refine wl0 rfl (op_iaddrR hf H Try.underlying92 TF.sz4 1 rfl rfl rfl he (by decide) fun p o cs a hf hA hr hk => ?_)
   obtain rfl := hr
   refine wl0 rfl (op_storeR (e' := true) (o := o) (off := 0) hf H TF.sz4 1 rfl rfl rfl rfl rfl (nle rfl) rfl hA he (st_full rfl) fun w H => ?_)
   replace hf : Fr a 97 [(1, (.slice A3 sites.length c3)), (2, (.int .i64 reach)), (3, (.pointer (some ⟨b', 0, none⟩))), (7, (.int .i64 i)), (8, (.slice A4 l.length c4)), (9, (.slice A5 1 1)), (17, (.int .i64 (n'.Nodes.length : Int))), (18, (.int .i64 i)), (27, (.slice A4 l.length c4)), (28, (.int .i64 i)), (29, (.pointer (some ⟨p, o + 0, none⟩)))] := hf.prune [1, 2, 3, 7, 8, 9, 17, 18, 27, 28, 29] rfl
   replace hf : Fr a 97 [(1, (.slice A3 sites.length c3)), (2, (.int .i64 reach)), (3, (.pointer (some ⟨b', 0, none⟩))), (7, (.int .i64 i)), (8, (.slice A4 (l.set (i : Int).toNat true).length c4)), (9, (.slice A5 1 1)), (17, (.int .i64 (n'.Nodes.length : Int))), (18, (.int .i64 i)), (27, (.slice A4 (l.set (i : Int).toNat true).length c4)), (28, (.int .i64 i)), (29, (.pointer (some ⟨p, o + 0, none⟩)))] := by simpa only [List.length_set, Nat.add_zero] using hf
   refine we (sqz (pz 1 hf fun a hf => ?_))
   refine wl_end (then_n ?_)
   obtain ⟨out2, hB2, hR1⟩ := bs_ hR1
   have hf := hf.pn [1, 2, 3, 7, 8, 9, 10, 17, 18]
   have H := H.lt_ [true] [true, true] [] [0, 1, 2]
   refine loopC (fun (s : Int × List Bool × List Int) (a : Act) (w : World) => match s with | (at', reached, queue) => ∃ (A6 : Option Addr) (c5 : Nat) (E : Go.TypeId) (A7 : Option Addr) (c6 : Nat) (E2 : Go.TypeId), Fr a 97 [(1, (.slice A3 sites.length c3)), (2, (.int .i64 reach)), (3, (.pointer (some ⟨b', 0, none⟩))), (7, (.int .i64 i)), (8, (.slice A6 reached.length c5)), (9, (.slice A7 queue.length c6)), (10, (.int .i64 at')), (17, (.int .i64 (n'.Nodes.length : Int))), (18, (.int .i64 i))] ∧ Mem ⟨w0, []⟩ S [⟨b', 27, [(.slice A n'.Nodes.length c), (.slice A2 n'.Fibers.length c2)]⟩] [⟨.sh true, E2, A7, c6, (queue : List Int)⟩, ⟨.sh true, E, A6, c5, (reached : List Bool)⟩] [] [(false, MP.val [(.slice A3 sites.length c3)] (sites : List Int)), (false, MP.val [(.slice A2 n'.Fibers.length c2)] (n'.Fibers : List Fiber)), (false, MP.val [(.slice A n'.Nodes.length c)] (n'.Nodes : List ByteArray))] w) (fun k (s : Int × List Bool × List Int) => impl_sitesConnect_L2 fu n' sites reach k s.1 s.2.1 s.2.2 = some out2) (fun s => out2 = s) (0, l.set (i : Int).toNat true, [i]) fu hB2 ⟨A4, c4, 4, A5, 1, 3, hf, H⟩ (fun s h => by cases h) ?_ ?_
   ·rintro fk ⟨at', reached, queue⟩ a w hR2 hI
    replace hR2 : impl_sitesConnect_L2 fu n' sites reach (fk + 1) at' reached queue = some out2 := hR2
    rw [impl_sitesConnect_L2] at hR2
    obtain ⟨A6, c5, E, A7, c6, E2, hf, H⟩ := hI
    refine sq (sqz (pz 4 hf fun a hf => ?_))
    refine wl_end (then_n (ib hR2 hf (fun hc2 hR2 => ?_) fun hc2 hR2 => ?_))
    ·refine wp_skip (then_n (sq (wp_block (sq (sq ?_)))))
     obtain ⟨c7, hGc7, hR2⟩ := bs_ hR2
     have fh := hf.prune [1, 2, 3, 7, 8, 9, 10, 17, 18] rfl
     have Hm := H.lt_ [true] [true, true] [] [0, 1, 2]
     refine midF 46 (.bool c7) fh Hm ?_ fun a w hf H => ?_
     ·refine reg (pz 3 hf fun a hf => ?_)
      refine iteB hGc7 (fun hc3 hGc7 => ?_) fun hc3 hGc7 => ?_
      ·have hf := hf.lit 38 rfl hc3
       refine pz 3 hf fun a hf => ?_
       obtain ⟨e2, he2, hGc7⟩ := bs_ hGc7
       refine wlg hf rfl rfl rfl (op_iaddrR hf H Try.underlying31 TF.sz3 0 rfl rfl rfl he2 (by decide) fun p2 o2 cs2 a hf hA2 hr2 hk2 => ?_)
       obtain rfl := hr2
       refine wlg hf rfl rfl rfl (op_q hf (rq_load1 hf TF.ls3 rfl (hk2 0 _ rfl)) rfl (by decide) fun a hf => ?_)
       obtain ⟨y, hy, hGc7⟩ := bs_ hGc7
       refine wlg hf rfl rfl rfl (oC hf TF.cl26 (slices_Contains_int_int_ok (S := TT) (mk_list (H.rt 0 rfl)) mk_int hy) fun v w a hp hf => ?_)
       obtain ⟨hb, hp⟩ := hp
       obtain rfl := VR_bool hp
       have H := H.keep hb
       refine pz 2 hf fun a hf => ?_
       obtain rfl := oi hGc7
       have hf := hf.pn [46, 1, 2, 3, 7, 8, 9, 10, 17, 18]
       have H := H.lt_ [true] [true, true] [] [0, 1, 2]
       exact wl_end ⟨hf, H⟩
      ·have hf := hf.lit 38 rfl hc3
       refine pz 8 hf fun a hf => ?_
       obtain rfl := oi hGc7
       have hf := hf.pn [46, 1, 2, 3, 7, 8, 9, 10, 17, 18]
       have H := H.lt_ [true] [true, true] [] [0, 1, 2]
       exact wl_end ⟨hf, H⟩
     refine then_n (ib hR2 hf (fun hc4 hR2 => ?_) fun hc4 hR2 => ?_)
     ·refine wp_exit (then_x (blk_e (?_)))
      refine then_n (reg (pz 3 hf fun a hf => ?_))
      refine wl_end ?_
      have hf := hf.pn [1, 2, 3, 7, 8, 9, 10, 17, 18]
      have H := H.lt_ [true] [true, true] [] [0, 1, 2]
      exact then_n ⟨(w64 (at' + 1), reached, queue), hR2, A6, c5, E, A7, c6, E2, hf, H⟩
     ·refine wp_skip (then_n (sq (dw [] 8 fun w hb => ?_)))
      have H := H.keep hb
      refine strT (H.lt_ [true] [false, false] [] []) (fun w H => trivial) fun hS => ?_
      refine zS 0 [] rfl rfl rfl rfl hf hS (fun w H => rq_loadBN hf H TF.la27 0 rfl rfl rfl rfl) fun a hf => ?_
      refine zp 1 hf hS fun a hf => ?_
      refine zp 2 hf hS fun a hf => ?_
      obtain ⟨e3, he3, hR2⟩ := bs_ hR2
      obtain ⟨p3, o3, hA3, hx⟩ := pre_iaddrR H Try.underlying31 TF.sz3 0 rfl he3
      refine zP 3 rfl rfl rfl rfl hf hS (fun w => rq_iaddrE hf rfl rfl rfl hx w) fun a hf => ?_
      refine strT (H.lt_ [true] [true, false] [] []) (fun w H => H.lt_ [true] [false] [] []) fun hS => ?_
      refine zS 4 [] rfl rfl rfl rfl hf hS (fun w H => rq_loadRow (off := 0) hf H TF.ls3 0 rfl rfl hA3 he3 (fun w T cs h => by obtain rfl := h; rfl)) fun a hf => ?_
      refine zp 7 hf hS fun a hf => ?_
      obtain ⟨y2, hy2, hR2⟩ := bs_ hR2
      refine nn 5 rfl (oC hf TF.cl84 (impl_lengthsFrom_ok (S := TT) (Network_mkv (x := n') (H.rt 2 rfl) (H.rt 1 rfl)) mk_int hy2) fun v2 w a hp2 hf => ?_)
      obtain ⟨hb2, F, hp3, hN⟩ := hp2
      obtain ⟨A8, c8, rfl, hl4⟩ := VO_list hp3
      have H := H.aO1 hb2 hN hl4
      have H := H.lend 0 rfl
      have hS := H.lt_ [true] [true, false] [false] []
      refine aS hS ?_
      refine zp 6 hf hS fun a hf => ?_
      refine dk ?_
      refine then_n ?_
      obtain ⟨out3, hB3, hR2⟩ := bs_ hR2
      have hf := hf.pn [1, 2, 3, 7, 8, 9, 10, 17, 18, 52, 53, 54]
      have H := H.lt_ [true] [true, true] [true] [0, 1, 2, 3]
      refine loopC (fun (s : List Bool × List Int × Int) (a : Act) (w : World) => match s with | (reached2, queue2, i2) => ∃ (A9 : Option Addr) (c9 : Nat) (E3 : Go.TypeId) (A10 : Option Addr) (c10 : Nat) (E4 : Go.TypeId), Fr a 97 [(1, (.slice A3 sites.length c3)), (2, (.int .i64 reach)), (3, (.pointer (some ⟨b', 0, none⟩))), (7, (.int .i64 i)), (8, (.slice A9 reached2.length c9)), (9, (.slice A10 queue2.length c10)), (10, (.int .i64 at')), (17, (.int .i64 (n'.Nodes.length : Int))), (18, (.int .i64 i)), (52, (.slice A8 y2.length c8)), (53, (.int .i64 (y2.length : Int))), (54, (.int .i64 i2))] ∧ Mem ⟨w0, []⟩ S [⟨b', 27, [(.slice A n'.Nodes.length c), (.slice A2 n'.Fibers.length c2)]⟩] [⟨.sh true, E4, A10, c10, (queue2 : List Int)⟩, ⟨.sh true, E3, A9, c9, (reached2 : List Bool)⟩] [⟨F, MP.own F [(.slice A8 y2.length c8)] (y2 : List Int)⟩] [(true, MP.val [(.slice A8 y2.length c8)] (y2 : List Int)), (false, MP.val [(.slice A3 sites.length c3)] (sites : List Int)), (false, MP.val [(.slice A2 n'.Fibers.length c2)] (n'.Fibers : List Fiber)), (false, MP.val [(.slice A n'.Nodes.length c)] (n'.Nodes : List ByteArray))] w) (fun k (s : List Bool × List Int × Int) => impl_sitesConnect_L3 fu reach y2 k s.1 s.2.1 s.2.2 = some out3) (fun s => out3 = s) (reached, queue, 0) fu hB3 ⟨A6, c5, E, A7, c6, E2, hf, H⟩ (fun s h => by cases h) ?_ ?_
      ·rintro fk ⟨reached2, queue2, i2⟩ a w hR3 hI
       replace hR3 : impl_sitesConnect_L3 fu reach y2 (fk + 1) reached2 queue2 i2 = some out3 := hR3
       rw [impl_sitesConnect_L3] at hR3
       obtain ⟨A9, c9, E3, A10, c10, E4, hf, H⟩ := hI
       refine sqz (pz 1 hf fun a hf => ?_)
       refine wl_end (then_n (sq (ib hR3 hf (fun hc5 hR3 => ?_) fun hc5 hR3 => ?_)))
       ·refine ws (pz 1 hf fun a hf => ?_)
        obtain ⟨e4, he4, hR3⟩ := bs_ hR3
        refine wl0 rfl (op_iaddr hf H Try.underlying31 TF.sz3 0 rfl rfl rfl he4 (by decide) fun p4 o4 cs3 a hf hr3 H => ?_)
        obtain rfl := hr3
        refine oq hf (rq_loadI hf H TF.ls3 0 0 rfl rfl rfl) fun a hf => ?_
        refine pz 2 hf fun a hf => ?_
        refine wl_end (then_n (sq ?_))
        obtain ⟨c11, hGc11, hR3⟩ := bs_ hR3
        have fh2 := hf.prune [1, 2, 3, 7, 8, 9, 10, 11, 17, 18, 52, 53, 54] rfl
        have Hm2 := H.lt_ [true] [true, true] [true] [1, 2, 3, 4]
        refine midF 68 (.bool c11) fh2 Hm2 ?_ fun a w hf H => ?_
        ·refine reg (pz 2 hf fun a hf => ?_)
         obtain ⟨y3, hy3, hGc11⟩ := bs_ hGc11
         refine oc hf TF.cl40 (impl_within_ok (S := TT) mk_int mk_int mk_int hy3) fun v3 w a hp4 hf => ?_
         obtain ⟨hb3, hp4⟩ := hp4
         obtain rfl := VR_bool hp4
         have H := H.keep hb3
         refine pz 1 hf fun a hf => ?_
         refine iteB hGc11 (fun hc6 hGc11 => ?_) fun hc6 hGc11 => ?_
         ·have hf := hf.lit 62 rfl hc6
          refine pz 2 hf fun a hf => ?_
          obtain ⟨e5, he5, hGc11⟩ := bs_ hGc11
          refine wlg hf rfl rfl rfl (op_iaddrR hf H Try.underlying92 TF.sz4 1 rfl rfl rfl he5 (by decide) fun p5 o5 cs4 a hf hA4 hr4 hk3 => ?_)
          obtain rfl := hr4
          refine wlg hf rfl rfl rfl (op_q hf (rq_load1 hf TF.ls4 rfl (hk3 0 _ rfl)) rfl (by decide) fun a hf => ?_)
          refine pz 2 hf fun a hf => ?_
          obtain rfl := oi hGc11
          have hf := hf.pn [68, 1, 2, 3, 7, 8, 9, 10, 11, 17, 18, 52, 53, 54]
          have H := H.lt_ [true] [true, true] [true] [1, 2, 3, 4]
          exact wl_end ⟨hf, H⟩
         ·have hf := hf.lit 62 rfl hc6
          refine pz 6 hf fun a hf => ?_
          obtain rfl := oi hGc11
          have hf := hf.pn [68, 1, 2, 3, 7, 8, 9, 10, 11, 17, 18, 52, 53, 54]
          have H := H.lt_ [true] [true, true] [true] [1, 2, 3, 4]
          exact wl_end ⟨hf, H⟩
        refine then_n (ib hR3 hf (fun hc7 hR3 => ?_) fun hc7 hR3 => ?_)
        ·refine sqz (pz 2 hf fun a hf => ?_)
         obtain ⟨e6, he6, hR3⟩ := bs_ hR3
         refine wl0 rfl (op_iaddrR hf H Try.underlying92 TF.sz4 1 rfl rfl rfl he6 (by decide) fun p6 o6 cs5 a hf hA5 hr5 hk4 => ?_)
         obtain rfl := hr5
         refine wl0 rfl (op_storeR (e' := true) (o := o6) (off := 0) hf H TF.sz4 1 rfl rfl rfl rfl rfl (nle rfl) rfl hA5 he6 (st_full rfl) fun w H => ?_)
         replace hf : Fr a 97 [(1, (.slice A3 sites.length c3)), (2, (.int .i64 reach)), (3, (.pointer (some ⟨b', 0, none⟩))), (7, (.int .i64 i)), (8, (.slice A9 reached2.length c9)), (9, (.slice A10 queue2.length c10)), (10, (.int .i64 at')), (11, (.int .i64 i2)), (17, (.int .i64 (n'.Nodes.length : Int))), (18, (.int .i64 i)), (52, (.slice A8 y2.length c8)), (53, (.int .i64 (y2.length : Int))), (54, (.int .i64 i2)), (69, (.slice A9 reached2.length c9)), (70, (.int .i64 i2)), (71, (.pointer (some ⟨p6, o6 + 0, none⟩)))] := hf.prune [1, 2, 3, 7, 8, 9, 10, 11, 17, 18, 52, 53, 54, 69, 70, 71] rfl
         replace hf : Fr a 97 [(1, (.slice A3 sites.length c3)), (2, (.int .i64 reach)), (3, (.pointer (some ⟨b', 0, none⟩))), (7, (.int .i64 i)), (8, (.slice A9 (reached2.set (i2 : Int).toNat true).length c9)), (9, (.slice A10 queue2.length c10)), (10, (.int .i64 at')), (11, (.int .i64 i2)), (17, (.int .i64 (n'.Nodes.length : Int))), (18, (.int .i64 i)), (52, (.slice A8 y2.length c8)), (53, (.int .i64 (y2.length : Int))), (54, (.int .i64 i2)), (69, (.slice A9 (reached2.set (i2 : Int).toNat true).length c9)), (70, (.int .i64 i2)), (71, (.pointer (some ⟨p6, o6 + 0, none⟩)))] := by simpa only [List.length_set, Nat.add_zero] using hf
         refine wl_end (then_n (reg (pz 2 hf fun a hf => ?_)))
         refine wl0 rfl (bl hf H 3 ([i2] : List Int) [(.int .i64 i2)] (el1 (y := i2) (rfl)) fun A11 a w hf H => ?_)
         obtain ⟨l2, hl2_, hR3⟩ := bs_ hR3
         refine wl0 rfl (op_appR hf H Try.underlying31 TF.ai3 rfl (by decide) 1 0 rfl rfl rfl rfl (.inr rfl) hl2_ (by decide) fun E5 A12 c12 a w hf H => ?_)
         refine pz 1 hf fun a hf => ?_
         refine wl_end (blk_n (then_n (reg (pz 2 hf fun a hf => ?_))))
         refine wl_end ?_
         have hf := hf.pn [1, 2, 3, 7, 8, 9, 10, 17, 18, 52, 53, 54]
         have H := H.lt_ [true] [false, true, true] [true] [0, 1, 2, 3]
         exact then_n ⟨(reached2.set (i2 : Int).toNat true, l2, w64 (i2 + 1)), hR3, A9, c9, E3, A12, c12, E5, hf, H⟩
        ·refine wp_skip (blk_n (then_n (reg (pz 2 hf fun a hf => ?_))))
         refine wl_end ?_
         have hf := hf.pn [1, 2, 3, 7, 8, 9, 10, 17, 18, 52, 53, 54]
         have H := H.lt_ [true] [true, true] [true] [0, 1, 2, 3]
         exact then_n ⟨(reached2, queue2, w64 (i2 + 1)), hR3, A9, c9, E3, A10, c10, E4, hf, H⟩
       ·refine wp_exit (then_x (then_x (blk_e (?_))))
        have hf := hf.pn [1, 2, 3, 7, 8, 9, 10, 17, 18, 52, 53, 54]
        have H := H.lt_ [true] [true, true] [true] [0, 1, 2, 3]
        exact ⟨(reached2, queue2, i2), (Option.some.inj hR3).symm, A9, c9, E3, A10, c10, E4, hf, H⟩
      rintro a w ⟨⟨reached3, queue3, i3⟩, rfl, A13, c13, E6, A14, c14, E7, hf, H⟩
      try dsimp only at hR2
      refine blk_n (then_n (reg (pz 3 hf fun a hf => ?_)))
      refine wl_end ?_
      have hf := hf.pn [1, 2, 3, 7, 8, 9, 10, 17, 18]
      have H := H.lt_ [true] [true, true] [false] [1, 2, 3]
      exact then_n ⟨(w64 (at' + 1), reached3, queue3), hR2, A13, c13, E6, A14, c14, E7, hf, H⟩
    ·refine wp_exit (then_x (then_x (blk_e (?_))))
     have hf := hf.pn [1, 2, 3, 7, 8, 9, 10, 17, 18]
     have H := H.lt_ [true] [true, true] [] [0, 1, 2]
     exact ⟨(at', reached, queue), (Option.some.inj hR2).symm, A6, c5, E, A7, c6, E2, hf, H⟩
   rintro a w ⟨⟨at2, reached4, queue4⟩, rfl, A15, c15, E8, A16, c16, E9, hf, H⟩
   try dsimp only at hR1
   refine then_n (sq (reg (lN 0 hf H TF.la27 fun a hf => ?_)))
   refine pz 1 hf fun a hf => ?_
   obtain ⟨y4, hy4, hR1⟩ := bs_ hR1
   refine oc hf TF.cl84 (impl_lengthsFrom_ok (S := TT) (Network_mkv (x := n') (H.rt 2 rfl) (H.rt 1 rfl)) mk_int hy4) fun v4 w a hp5 hf => ?_
   obtain ⟨hb4, F3, hp6, hN2⟩ := hp5
   obtain ⟨A17, c17, rfl, hl5⟩ := VO_list hp6
   have H := H.aO1 hb4 hN2 hl5
   have H := H.lend 0 rfl
   refine pz 2 hf fun a hf => ?_
   refine wl_end (then_n ?_)
   obtain ⟨out4, hB2, hR1⟩ := bs_ hR1
   have hf := hf.pn [1, 2, 3, 8, 17, 18, 79, 80, 81]
   have H := H.lt_ [true] [false, true] [true] [0, 1, 2, 3]
   refine loopC (fun (s : Int) (a : Act) (w : World) => match s with | i4 => Fr a 97 [(1, (.slice A3 sites.length c3)), (2, (.int .i64 reach)), (3, (.pointer (some ⟨b', 0, none⟩))), (8, (.slice A15 reached4.length c15)), (17, (.int .i64 (n'.Nodes.length : Int))), (18, (.int .i64 i)), (79, (.slice A17 y4.length c17)), (80, (.int .i64 (y4.length : Int))), (81, (.int .i64 i4))] ∧ Mem ⟨w0, []⟩ S [⟨b', 27, [(.slice A n'.Nodes.length c), (.slice A2 n'.Fibers.length c2)]⟩] [⟨.sh true, E8, A15, c15, (reached4 : List Bool)⟩] [⟨F3, MP.own F3 [(.slice A17 y4.length c17)] (y4 : List Int)⟩] [(true, MP.val [(.slice A17 y4.length c17)] (y4 : List Int)), (false, MP.val [(.slice A3 sites.length c3)] (sites : List Int)), (false, MP.val [(.slice A2 n'.Fibers.length c2)] (n'.Fibers : List Fiber)), (false, MP.val [(.slice A n'.Nodes.length c)] (n'.Nodes : List ByteArray))] w) (fun k (s : Int) => impl_sitesConnect_L4 fu reached4 y4 k s = some out4) (fun s => out4 = Out.next s) 0 fu hB2 ⟨hf, H⟩ (fun s h => by cases h) ?_ ?_
   ·rintro fk i4 a w hR2 hI
    replace hR2 : impl_sitesConnect_L4 fu reached4 y4 (fk + 1) i4 = some out4 := hR2
    rw [impl_sitesConnect_L4] at hR2
    obtain ⟨hf, H⟩ := hI
    refine sqz (pz 1 hf fun a hf => ?_)
    refine wl_end (then_n (sq (ib hR2 hf (fun hc8 hR2 => ?_) fun hc8 hR2 => ?_)))
    ·refine ws (pz 1 hf fun a hf => ?_)
     obtain ⟨e7, he7, hR2⟩ := bs_ hR2
     refine wl0 rfl (op_iaddr hf H Try.underlying31 TF.sz3 0 rfl rfl rfl he7 (by decide) fun p7 o7 cs6 a hf hr6 H => ?_)
     obtain rfl := hr6
     refine oq hf (rq_loadI hf H TF.ls3 0 0 rfl rfl rfl) fun a hf => ?_
     refine pz 2 hf fun a hf => ?_
     refine wl_end (then_n (sq ?_))
     obtain ⟨c18, hGc18, hR2⟩ := bs_ hR2
     have fh3 := hf.prune [1, 2, 3, 8, 17, 18, 79, 80, 81] rfl
     have Hm3 := H.lt_ [true] [true] [true] [1, 2, 3, 4]
     refine midF 94 (.bool c18) fh3 Hm3 ?_ fun a w hf H => ?_
     ·refine reg (pz 3 hf fun a hf => ?_)
      refine iteB hGc18 (fun hc9 hGc18 => ?_) fun hc9 hGc18 => ?_
      ·have hf := hf.lit 88 rfl hc9
       refine pz 2 hf fun a hf => ?_
       obtain ⟨e8, he8, hGc18⟩ := bs_ hGc18
       refine wlg hf rfl rfl rfl (op_iaddrR hf H Try.underlying92 TF.sz4 0 rfl rfl rfl he8 (by decide) fun p8 o8 cs7 a hf hA6 hr7 hk5 => ?_)
       obtain rfl := hr7
       refine wlg hf rfl rfl rfl (op_q hf (rq_load1 hf TF.ls4 rfl (hk5 0 _ rfl)) rfl (by decide) fun a hf => ?_)
       refine pz 2 hf fun a hf => ?_
       obtain rfl := oi hGc18
       have hf := hf.pn [94, 1, 2, 3, 8, 17, 18, 79, 80, 81]
       have H := H.lt_ [true] [true] [true] [1, 2, 3, 4]
       exact wl_end ⟨hf, H⟩
      ·have hf := hf.lit 88 rfl hc9
       refine pz 6 hf fun a hf => ?_
       obtain rfl := oi hGc18
       have hf := hf.pn [94, 1, 2, 3, 8, 17, 18, 79, 80, 81]
       have H := H.lt_ [true] [true] [true] [1, 2, 3, 4]
       exact wl_end ⟨hf, H⟩
     refine then_n (ib hR2 hf (fun hc10 hR2 => ?_) fun hc10 hR2 => ?_)
     ·refine sqz (pz 1 hf fun a hf => ?_)
      refine wl_end (then_n (wp_ret (blk_r (then_r (then_r (blk_r (then_r (blk_r (then_r (then_r (blk_r (then_r (then_r (?_))))))))))))))
      obtain rfl := oi hR2
      replace hR1 := on_ret hR1
      obtain rfl := oi hR1
      replace hF := on_ret hF
      obtain rfl := oi hF
      refine rT hf ?_
      exact ⟨_, rfl, H.bel, mk_bool⟩
     ·refine wp_skip (blk_n (then_n (reg (pz 2 hf fun a hf => ?_))))
      refine wl_end ?_
      have hf := hf.pn [1, 2, 3, 8, 17, 18, 79, 80, 81]
      have H := H.lt_ [true] [true] [true] [0, 1, 2, 3]
      exact then_n ⟨w64 (i4 + 1), hR2, hf, H⟩
    ·refine wp_exit (then_x (then_x (blk_e (?_))))
     have hf := hf.pn [1, 2, 3, 8, 17, 18, 79, 80, 81]
     have H := H.lt_ [true] [true] [true] [0, 1, 2, 3]
     exact ⟨i4, (Option.some.inj hR2).symm, hf, H⟩
   rintro a w ⟨i5, rfl, hf, H⟩
   replace hR1 := on_next hR1
   refine blk_n (then_n (reg (pz 2 hf fun a hf => ?_)))
   refine wl_end ?_
   have hf := hf.pn [1, 2, 3, 17, 18]
   have H := H.lt_ [true] [false] [false] [1, 2, 3]
   exact then_n ⟨w64 (i + 1), hR1, hf, H⟩
  ·refine wp_exit (then_x (then_x (blk_e (?_))))
   have hf := hf.pn [1, 2, 3, 17, 18]
   have H := H.lt_ [true] [] [] [0, 1, 2]
   exact ⟨i, (Option.some.inj hR1).symm, hf, H⟩
 rintro a w ⟨i6, rfl, hf, H⟩
 replace hF := on_next hF
 refine then_n (sqz (pz 1 hf fun a hf => ?_))
 refine wer ?_
 obtain rfl := oi hF
 refine rT hf ?_
 exact ⟨_, rfl, H.bel, mk_bool⟩
theorem impl_FewestSites_c1_ok {S : Nat → Prop} {v0_ : Value} {b1 o1 : Nat} {cs1 : List Value} {b2 o2 : Nat} {cs2 : List Value} {list : List Int} {cap : Network} {cap2 : Int} {r : Bool} (h0 : VR w0 S v0_ list) (hp1 : (MP.cells ⟨b1, o1, none⟩ cs1).pred w0 S) (hr1 : GoTy.rep w0 S cs1 cap) (hp2 : (MP.cells ⟨b2, o2, none⟩ cs2).pred w0 S) (hr2 : GoTy.rep w0 S cs2 cap2) (hF : impl_FewestSites_c1 fu list cap cap2 = some r) :
    Calls Try.prog 49 [v0_, (.pointer (some ⟨b1, o1, none⟩)), (.pointer (some ⟨b2, o2, none⟩))].toArray w0 fun e w' => ∃ v, e = .returned v ∧ (Below w0.heap.size w0 w' ∧ VR w' (St ⟨w0, []⟩ S [] [] [] true) v r) := by
 obtain ⟨A, c, rfl, hl⟩ := VR_list h0
 obtain ⟨A2, c2, A3, c3, rfl, hl2, hl3⟩ := Network_cells hr1
 obtain rfl := hr2
 have H := Mem.start ⟨w0, []⟩ S
 have H := H.pA hl
 have H := H.pA hl2
 have H := H.pA hl3
 have H := H.pushArg (MP.cells ⟨b1, o1, none⟩ [(.slice A2 cap.Nodes.length c2), (.slice A3 cap.Fibers.length c3)]) hp1
 have H := H.pushArg (MP.cells ⟨b2, o2, none⟩ [(.int .i64 cap2)]) hp2
 refine en Try.func49 fun a hf => ?_
 rw [impl_FewestSites_c1] at hF
 refine sqz (pz 1 hf fun a hf => ?_)
 refine wr (oq hf (rq_loadIN hf H TF.la27 1 0 rfl rfl rfl rfl) fun a hf => ?_)
 refine pz 1 hf fun a hf => ?_
 refine oq hf (rq_loadI hf H TF.ls3 0 0 rfl rfl rfl) fun a hf => ?_
 obtain ⟨y, hy, hF⟩ := bs_ hF
 refine oc hf TF.cl50 (impl_sitesConnect_ok (S := TT) (Network_mkv (x := cap) (H.rt 3 rfl) (H.rt 2 rfl)) (mk_list (H.rt 4 rfl)) mk_int hy) fun v w a hp4 hf => ?_
 obtain ⟨hb, hp4⟩ := hp4
 obtain rfl := VR_bool hp4
 have H := H.keep hb
 refine pz 1 hf fun a hf => ?_
 refine wer ?_
 obtain rfl := oi hF
 refine rT hf ?_
 exact ⟨_, rfl, H.bel, mk_bool⟩
theorem impl_fewest_c1_ok {S : Nat → Prop} {v0_ : Value} {b1 : Nat} {cs1 : List Value} {F1 : List Nat} {b2 o2 : Nat} {b2_0 o2_0 : Nat} {cs2_0 : List Value} {b2_1 o2_1 : Nat} {cs2_1 : List Value} {list : List Int} {cap : List Int} {cap2 : Network} {cap3 : Int} {r : Bool × List Int} (h0 : VR w0 S v0_ list) (hp1 : w0.heap[b1]? = some (.cells cs1.toArray 31 (0, 0))) (hr1 : GoTy.own w0 F1 cs1 cap) (hn1 : List.Nodup (List.cons b1 F1)) (hS1 : ∀ c ∈ List.cons b1 F1, ¬ S c) (hp2 : (MP.cells ⟨b2, o2, none⟩ [.func (.func 49) #[] #[(.pointer (some ⟨b2_0, o2_0, none⟩)), (.pointer (some ⟨b2_1, o2_1, none⟩))]]).pred w0 S) (hp2_0 : (MP.cells ⟨b2_0, o2_0, none⟩ cs2_0).pred w0 S) (hr2_0 : GoTy.rep w0 S cs2_0 cap2) (hp2_1 : (MP.cells ⟨b2_1, o2_1, none⟩ cs2_1).pred w0 S) (hr2_1 : GoTy.rep w0 S cs2_1 cap3) (hF : impl_fewest_c1 fu list cap cap2 cap3 = some r) :
    Calls Try.prog 83 [v0_, (.pointer (some ⟨b1, 0, none⟩)), (.pointer (some ⟨b2, o2, none⟩))].toArray w0 fun e w' => ∃ v, e = .returned v ∧ (Chg w0 w' (b1 :: F1) ∧ ∃ cs' F', w'.heap[b1]? = some (.cells cs'.toArray 31 (0, 0)) ∧ GoTy.own w' F' cs' r.2 ∧ Back w0 w' F1 F' ∧ b1 ∉ F' ∧ VR w' (fun _ => True) v r.1) := by
 obtain ⟨A, c, rfl, hl⟩ := VR_list h0
 obtain ⟨A2, c2, A3, c3, rfl, hl2, hl3⟩ := Network_cells hr2_0
 obtain rfl := hr2_1
 obtain ⟨A4, c4, rfl, hr1⟩ := own_list hr1
 have H := Mem.startBO S hp1 (show GoTy.own w0 F1 [.slice A4 cap.length c4] cap from hr1) hn1
 have H := H.lend 0 rfl
 have H := H.argB hS1 (p := MP.val [(.slice A list.length c)] list) hl
 have H := H.argB hS1 (p := MP.val [(.slice A2 cap2.Nodes.length c2)] cap2.Nodes) hl2
 have H := H.argB hS1 (p := MP.val [(.slice A3 cap2.Fibers.length c3)] cap2.Fibers) hl3
 have H := H.argB hS1 (p := MP.cells ⟨b2_0, o2_0, none⟩ [(.slice A2 cap2.Nodes.length c2), (.slice A3 cap2.Fibers.length c3)]) hp2_0
 have H := H.argB hS1 (p := MP.cells ⟨b2_1, o2_1, none⟩ [(.int .i64 cap3)]) hp2_1
 have H := H.argB hS1 (p := MP.cells ⟨b2, o2, none⟩ [(.func (.func 49) #[] #[(.pointer (some ⟨b2_0, o2_0 + 0, none⟩)), (.pointer (some ⟨b2_1, o2_1 + 0, none⟩))])]) hp2
 refine en Try.func83 fun a hf => ?_
 rw [impl_fewest_c1] at hF
 refine sqz (pz 1 hf fun a hf => ?_)
 refine wr (pz 1 hf fun a hf => ?_)
 obtain ⟨y, hy, hF⟩ := bs_ hF
 refine oc hf TF.cl33 (slices_Clone_int_int_ok (S := TT) (mk_list (H.rt 5 rfl)) hy) fun v w a hp4 hf => ?_
 obtain ⟨hb, F2, hp5, hN⟩ := hp4
 obtain ⟨A5, c5, rfl, hl4⟩ := VO_list hp5
 have H := H.aO1 hb hN hl4
 have H := H.lend 0 rfl
 refine sB 0 hf H TF.sz31 fun w H => ?_
 refine wr (oq hf (rq_loadI hf H TF.ls85 1 0 rfl rfl rfl) fun a hf => ?_)
 refine pz 1 hf fun a hf => ?_
 obtain ⟨y2, hy2, hF⟩ := bs_ hF
 refine wl0 rfl (op_callV hf TF.cl49 rfl rfl (by decide) (impl_FewestSites_c1_ok (S := TT) (mk_list (H.rt 6 rfl)) (mp_true (H.get 3 rfl)) ((Network_mk (x := cap2) (H.rt 5 rfl) (H.rt 4 rfl))) (mp_true (H.get 2 rfl)) (rfl) hy2) fun v2 w a hp6 hf => ?_)
 obtain ⟨hb2, hp6⟩ := hp6
 obtain rfl := VR_bool hp6
 have H := H.keep hb2
 refine pz 1 hf fun a hf => ?_
 refine wer ?_
 obtain rfl := oi hF
 refine rT hf ?_
 exact ⟨_, rfl, H.chg, _, _, H.boxAt 0 rfl, H.ownAt 0 rfl, (H.endBO 0 rfl).1, (H.endBO 0 rfl).2, mk_bool⟩
theorem impl_choices_of_fewest_c1_B_ok {fu : Nat} {rec_ : (Int) → (Int) → (Int) → (List Int) → (List Int) → (Network) → (Int) → Option (Bool × List Int)} (ih : ∀ {w0 : World} {S : Nat → Prop} {v0_ : Value} {v1_ : Value} {v2_ : Value} {v3_ : Value} {b4_0 : Nat} {cs4_0 : List Value} {F4_0 : List Nat} {b4_1 o4_1 : Nat} {b4_1_0 o4_1_0 : Nat} {cs4_1_0 : List Value} {b4_1_1 o4_1_1 : Nat} {cs4_1_1 : List Value} {from' : Int} {n' : Int} {count : Int} {list : List Int} {cap : List Int} {cap2 : Network} {cap3 : Int} {r : Bool × List Int} (h0 : VR w0 S v0_ from') (h1 : VR w0 S v1_ n') (h2 : VR w0 S v2_ count) (h3 : VR w0 S v3_ list) (hp4_0 : w0.heap[b4_0]? = some (.cells cs4_0.toArray 31 (0, 0))) (hr4_0 : GoTy.own w0 F4_0 cs4_0 cap) (hn4_0 : List.Nodup (List.cons b4_0 F4_0)) (hS4_0 : ∀ c ∈ List.cons b4_0 F4_0, ¬ S c) (hp4_1 : (MP.cells ⟨b4_1, o4_1, none⟩ [.func (.func 49) #[] #[(.pointer (some ⟨b4_1_0, o4_1_0, none⟩)), (.pointer (some ⟨b4_1_1, o4_1_1, none⟩))]]).pred w0 S) (hp4_1_0 : (MP.cells ⟨b4_1_0, o4_1_0, none⟩ cs4_1_0).pred w0 S) (hr4_1_0 : GoTy.rep w0 S cs4_1_0 cap2) (hp4_1_1 : (MP.cells ⟨b4_1_1, o4_1_1, none⟩ cs4_1_1).pred w0 S) (hr4_1_1 : GoTy.rep w0 S cs4_1_1 cap3) (hF : rec_ from' n' count list cap cap2 cap3 = some r), Calls Try.prog 82 [v0_, v1_, v2_, v3_, (.func (.func 83) #[] #[(.pointer (some ⟨b4_0, 0, none⟩)), (.pointer (some ⟨b4_1, o4_1, none⟩))])].toArray w0 fun e w' => ∃ v, e = .returned v ∧ (Chg w0 w' (b4_0 :: F4_0) ∧ ∃ cs' F', w'.heap[b4_0]? = some (.cells cs'.toArray 31 (0, 0)) ∧ GoTy.own w' F' cs' r.2 ∧ Back w0 w' F4_0 F' ∧ b4_0 ∉ F' ∧ VR w' (fun _ => True) v r.1)) {w0 : World} {S : Nat → Prop} {v0_ : Value} {v1_ : Value} {v2_ : Value} {v3_ : Value} {b4_0 : Nat} {cs4_0 : List Value} {F4_0 : List Nat} {b4_1 o4_1 : Nat} {b4_1_0 o4_1_0 : Nat} {cs4_1_0 : List Value} {b4_1_1 o4_1_1 : Nat} {cs4_1_1 : List Value} {from' : Int} {n' : Int} {count : Int} {list : List Int} {cap : List Int} {cap2 : Network} {cap3 : Int} {r : Bool × List Int} (h0 : VR w0 S v0_ from') (h1 : VR w0 S v1_ n') (h2 : VR w0 S v2_ count) (h3 : VR w0 S v3_ list) (hp4_0 : w0.heap[b4_0]? = some (.cells cs4_0.toArray 31 (0, 0))) (hr4_0 : GoTy.own w0 F4_0 cs4_0 cap) (hn4_0 : List.Nodup (List.cons b4_0 F4_0)) (hS4_0 : ∀ c ∈ List.cons b4_0 F4_0, ¬ S c) (hp4_1 : (MP.cells ⟨b4_1, o4_1, none⟩ [.func (.func 49) #[] #[(.pointer (some ⟨b4_1_0, o4_1_0, none⟩)), (.pointer (some ⟨b4_1_1, o4_1_1, none⟩))]]).pred w0 S) (hp4_1_0 : (MP.cells ⟨b4_1_0, o4_1_0, none⟩ cs4_1_0).pred w0 S) (hr4_1_0 : GoTy.rep w0 S cs4_1_0 cap2) (hp4_1_1 : (MP.cells ⟨b4_1_1, o4_1_1, none⟩ cs4_1_1).pred w0 S) (hr4_1_1 : GoTy.rep w0 S cs4_1_1 cap3) (hF : impl_choices_of_fewest_c1_B fu rec_ from' n' count list cap cap2 cap3 = some r) :
    Calls Try.prog 82 [v0_, v1_, v2_, v3_, (.func (.func 83) #[] #[(.pointer (some ⟨b4_0, 0, none⟩)), (.pointer (some ⟨b4_1, o4_1, none⟩))])].toArray w0 fun e w' => ∃ v, e = .returned v ∧ (Chg w0 w' (b4_0 :: F4_0) ∧ ∃ cs' F', w'.heap[b4_0]? = some (.cells cs'.toArray 31 (0, 0)) ∧ GoTy.own w' F' cs' r.2 ∧ Back w0 w' F4_0 F' ∧ b4_0 ∉ F' ∧ VR w' (fun _ => True) v r.1) := by
 obtain rfl := VR_int h0
 obtain rfl := VR_int h1
 obtain rfl := VR_int h2
 obtain ⟨A, c, rfl, hl⟩ := VR_list h3
 obtain ⟨A2, c2, A3, c3, rfl, hl2, hl3⟩ := Network_cells hr4_1_0
 obtain rfl := hr4_1_1
 obtain ⟨A4, c4, rfl, hr4_0⟩ := own_list hr4_0
 have H := Mem.startBO S hp4_0 (show GoTy.own w0 F4_0 [.slice A4 cap.length c4] cap from hr4_0) hn4_0
 have H := H.lend 0 rfl
 have H := H.argB hS4_0 (p := MP.val [(.slice A list.length c)] list) hl
 have H := H.argB hS4_0 (p := MP.val [(.slice A2 cap2.Nodes.length c2)] cap2.Nodes) hl2
 have H := H.argB hS4_0 (p := MP.val [(.slice A3 cap2.Fibers.length c3)] cap2.Fibers) hl3
 have H := H.argB hS4_0 (p := MP.cells ⟨b4_1_0, o4_1_0, none⟩ [(.slice A2 cap2.Nodes.length c2), (.slice A3 cap2.Fibers.length c3)]) hp4_1_0
 have H := H.argB hS4_0 (p := MP.cells ⟨b4_1_1, o4_1_1, none⟩ [(.int .i64 cap3)]) hp4_1_1
 have H := H.argB hS4_0 (p := MP.cells ⟨b4_1, o4_1, none⟩ [(.func (.func 49) #[] #[(.pointer (some ⟨b4_1_0, o4_1_0 + 0, none⟩)), (.pointer (some ⟨b4_1_1, o4_1_1 + 0, none⟩))])]) hp4_1
 refine en Try.func82 fun a hf => ?_
 rw [impl_choices_of_fewest_c1_B] at hF
 refine sqz (pz 1 hf fun a hf => ?_)
 refine we (sqz (pz 2 hf fun a hf => ?_))
 refine wl_end (then_n (ib hF hf (fun hc hF => ?_) fun hc hF => ?_))
 ·refine sqz (pz 2 hf fun a hf => ?_)
  obtain ⟨y, hy, hF⟩ := bs_ hF
  refine wl0 rfl (op_callV hf TF.cl83 rfl rfl (by decide) (impl_fewest_c1_ok (S := NF b4_0 F4_0) (mk_list (H.argNv 0 rfl hS4_0 (α := List Int) hl)) (H.boxAt 0 rfl) (H.ownAt 0 rfl) (H.boNd 0 rfl) (fun _ h1 h2 => h2 h1) (H.argN 0 rfl hS4_0 hp4_1) (H.argN 0 rfl hS4_0 hp4_1_0) ((Network_mk (x := cap2) (H.argNv 0 rfl hS4_0 (α := List ByteArray) hl2) (H.argNv 0 rfl hS4_0 (α := List Fiber) hl3))) (H.argN 0 rfl hS4_0 hp4_1_1) (rfl) hy) fun v w a hp6 hf => ?_)
  obtain ⟨hch, cs6, F2, hbx, ho, hbk, hbF, hv⟩ := hp6
  obtain ⟨A5, c5, rfl, ho⟩ := own_list ho
  have H := H.wroteBO 0 rfl rfl hch hbx ho hbk hbF
  have H := H.argB hS4_0 (p := MP.val [(.slice A list.length c)] list) hl
  have H := H.argB hS4_0 (p := MP.val [(.slice A2 cap2.Nodes.length c2)] cap2.Nodes) hl2
  have H := H.argB hS4_0 (p := MP.val [(.slice A3 cap2.Fibers.length c3)] cap2.Fibers) hl3
  have H := H.argB hS4_0 (p := MP.cells ⟨b4_1_0, o4_1_0, none⟩ [(.slice A2 cap2.Nodes.length c2), (.slice A3 cap2.Fibers.length c3)]) hp4_1_0
  have H := H.argB hS4_0 (p := MP.cells ⟨b4_1_1, o4_1_1, none⟩ [(.int .i64 cap3)]) hp4_1_1
  have H := H.argB hS4_0 (p := MP.cells ⟨b4_1, o4_1, none⟩ [(.func (.func 49) #[] #[(.pointer (some ⟨b4_1_0, o4_1_0 + 0, none⟩)), (.pointer (some ⟨b4_1_1, o4_1_1 + 0, none⟩))])]) hp4_1
  have H := H.lend 0 rfl
  obtain rfl := VR_bool hv
  refine pz 1 hf fun a hf => ?_
  refine wl_end (then_n (wp_ret (then_r (?_))))
  obtain rfl := oi hF
  refine rT hf ?_
  exact ⟨_, rfl, H.chg, _, _, H.boxAt 0 rfl, H.ownAt 0 rfl, (H.endBO 0 rfl).1, (H.endBO 0 rfl).2, mk_bool⟩
 ·refine wp_skip (then_n (sq (sqz (pz 2 hf fun a hf => ?_))))
  refine wl_end (then_n ?_)
  obtain ⟨out', hB1, hF⟩ := bs_ hF
  have hf := hf.pn [1, 2, 3, 4, 11]
  have H := H.lt_ [true] [] [true] [6, 0, 1, 2, 3, 4, 5]
  refine loopC (fun (s : Int × List Int) (a : Act) (w : World) => match s with | (k', m) => ∃ (A6 : Option Addr) (c6 : Nat) (F3 : List Nat), Fr a 39 [(1, (.int .i64 n')), (2, (.int .i64 count)), (3, (.slice A list.length c)), (4, (.func (.func 83) #[] #[(.pointer (some ⟨b4_0, 0, none⟩)), (.pointer (some ⟨b4_1, o4_1 + 0, none⟩))])), (11, (.int .i64 k'))] ∧ Mem ⟨w0, b4_0 :: F4_0⟩ S [⟨b4_0, 31, [(.slice A6 m.length c6)]⟩] [] [⟨F3, MP.own F3 [(.slice A6 m.length c6)] (m : List Int)⟩] [(true, MP.val [(.slice A6 m.length c6)] (m : List Int)), (false, MP.cells ⟨b4_1, o4_1, none⟩ [(.func (.func 49) #[] #[(.pointer (some ⟨b4_1_0, o4_1_0 + 0, none⟩)), (.pointer (some ⟨b4_1_1, o4_1_1 + 0, none⟩))])]), (false, MP.cells ⟨b4_1_1, o4_1_1, none⟩ [(.int .i64 cap3)]), (false, MP.cells ⟨b4_1_0, o4_1_0, none⟩ [(.slice A2 cap2.Nodes.length c2), (.slice A3 cap2.Fibers.length c3)]), (false, MP.val [(.slice A3 cap2.Fibers.length c3)] (cap2.Fibers : List Fiber)), (false, MP.val [(.slice A2 cap2.Nodes.length c2)] (cap2.Nodes : List ByteArray)), (false, MP.val [(.slice A list.length c)] (list : List Int))] w) (fun k (s : Int × List Int) => impl_choices_of_fewest_c1_L1 fu n' count list cap2 cap3 rec_ k s.1 s.2 = some out') (fun s => out' = Out.next s) (from', cap) fu hB1 ⟨A4, c4, F4_0, hf, H⟩ (fun s h => by cases h) ?_ ?_
  ·rintro fk ⟨k', m⟩ a w hR1 hI
   replace hR1 : impl_choices_of_fewest_c1_L1 fu n' count list cap2 cap3 rec_ (fk + 1) k' m = some out' := hR1
   rw [impl_choices_of_fewest_c1_L1] at hR1
   obtain ⟨A6, c6, F3, hf, H⟩ := hI
   refine sq (sqz (pz 3 hf fun a hf => ?_))
   refine wl_end (then_n (ib hR1 hf (fun hc2 hR1 => ?_) fun hc2 hR1 => ?_))
   ·refine ws (pz 10 hf fun a hf => ?_)
    refine wl0 rfl (op_slice3 hf H Try.underlying31 TF.sz3 6 rfl rfl rfl rfl (by decide) fun a hf H => ?_)
    refine pz 1 hf fun a hf => ?_
    refine wl0 rfl (bl hf H 3 ([k'] : List Int) [(.int .i64 k')] (el1 (y := k') (rfl)) fun A7 a w hf H => ?_)
    obtain ⟨l, hl_, hR1⟩ := bs_ hR1
    refine wl0 rfl (op_appF hf H Try.underlying31 TF.ai3 rfl (by decide) 0 0 rfl rfl rfl rfl (by simp) rfl hl_ (by decide) fun E A8 c7 a w hf H => ?_)
    refine pz 1 hf fun a hf => ?_
    have H := H.rowOwn 0 rfl rfl
    obtain ⟨F4, H⟩ := H.freezeOwn 0 rfl
    have H := H.lend 0 rfl
    have H := H.frontD 1 rfl
    obtain ⟨y2, hy2, hR1⟩ := bs_ hR1
    refine oc hf TF.cl82 (ih (S := NF b4_0 F3) mk_int mk_int mk_int (mk_list (H.ownN 0 rfl 0 rfl)) (H.boxAt 0 rfl) (H.ownAt 0 rfl) (H.boNd 0 rfl) (fun _ h1 h2 => h2 h1) (H.argN 0 rfl hS4_0 hp4_1) (H.argN 0 rfl hS4_0 hp4_1_0) ((Network_mk (x := cap2) (H.argNv 0 rfl hS4_0 (α := List ByteArray) hl2) (H.argNv 0 rfl hS4_0 (α := List Fiber) hl3))) (H.argN 0 rfl hS4_0 hp4_1_1) (rfl) hy2) fun v2 w a hp7 hf => ?_
    obtain ⟨hch2, cs7, F5, hbx2, ho2, hbk2, hbF2, hv2⟩ := hp7
    obtain ⟨A9, c8, rfl, ho2⟩ := own_list ho2
    have H := H.wroteBO 0 rfl rfl hch2 hbx2 ho2 hbk2 hbF2
    have H := H.argB hS4_0 (p := MP.val [(.slice A list.length c)] list) hl
    have H := H.argB hS4_0 (p := MP.val [(.slice A2 cap2.Nodes.length c2)] cap2.Nodes) hl2
    have H := H.argB hS4_0 (p := MP.val [(.slice A3 cap2.Fibers.length c3)] cap2.Fibers) hl3
    have H := H.argB hS4_0 (p := MP.cells ⟨b4_1_0, o4_1_0, none⟩ [(.slice A2 cap2.Nodes.length c2), (.slice A3 cap2.Fibers.length c3)]) hp4_1_0
    have H := H.argB hS4_0 (p := MP.cells ⟨b4_1_1, o4_1_1, none⟩ [(.int .i64 cap3)]) hp4_1_1
    have H := H.argB hS4_0 (p := MP.cells ⟨b4_1, o4_1, none⟩ [(.func (.func 49) #[] #[(.pointer (some ⟨b4_1_0, o4_1_0 + 0, none⟩)), (.pointer (some ⟨b4_1_1, o4_1_1 + 0, none⟩))])]) hp4_1
    have H := H.lend 0 rfl
    have H := H.lend 1 rfl
    obtain rfl := VR_bool hv2
    have hf := hf.pn [1, 2, 3, 4, 11, 38]
    refine wl_end (then_n (ib hR1 hf (fun hc3 hR1 => ?_) fun hc3 hR1 => ?_))
    ·refine sqz (pz 1 hf fun a hf => ?_)
     refine wl_end (then_n (wp_ret (blk_r (then_r (then_r (blk_r (then_r (then_r (?_)))))))))
     obtain rfl := oi hR1
     replace hF := on_ret hF
     obtain rfl := oi hF
     refine rT hf ?_
     exact ⟨_, rfl, H.chg, _, _, H.boxAt 0 rfl, H.ownAt 0 rfl, (H.endBO 0 rfl).1, (H.endBO 0 rfl).2, mk_bool⟩
    ·refine wp_skip (blk_n (then_n (reg (pz 3 hf fun a hf => ?_))))
     refine wl_end ?_
     have hf := hf.pn [1, 2, 3, 4, 11]
     have H := H.lt_ [true] [false] [true, false] [1, 2, 3, 4, 5, 6, 7]
     exact then_n ⟨(w64 (k' + 1), y2.2), hR1, A9, c8, F5, hf, H⟩
   ·refine wp_exit (then_x (then_x (blk_e (?_))))
    have hf := hf.pn [1, 2, 3, 4, 11]
    have H := H.lt_ [true] [] [true] [0, 1, 2, 3, 4, 5, 6]
    exact ⟨(k', m), (Option.some.inj hR1).symm, A6, c6, F3, hf, H⟩
  rintro a w ⟨⟨k2, m2⟩, rfl, A10, c9, F6, hf, H⟩
  replace hF := on_next hF
  try dsimp only at hF
  refine then_n (sqz (pz 1 hf fun a hf => ?_))
  refine wer ?_
  obtain rfl := oi hF
  refine rT hf ?_
  exact ⟨_, rfl, H.chg, _, _, H.boxAt 0 rfl, H.ownAt 0 rfl, (H.endBO 0 rfl).1, (H.endBO 0 rfl).2, mk_bool⟩
theorem impl_choices_of_fewest_c1_ok {fu : Nat} : ∀ {w0 : World} {S : Nat → Prop} {v0_ : Value} {v1_ : Value} {v2_ : Value} {v3_ : Value} {b4_0 : Nat} {cs4_0 : List Value} {F4_0 : List Nat} {b4_1 o4_1 : Nat} {b4_1_0 o4_1_0 : Nat} {cs4_1_0 : List Value} {b4_1_1 o4_1_1 : Nat} {cs4_1_1 : List Value} {from' : Int} {n' : Int} {count : Int} {list : List Int} {cap : List Int} {cap2 : Network} {cap3 : Int} {r : Bool × List Int} (h0 : VR w0 S v0_ from') (h1 : VR w0 S v1_ n') (h2 : VR w0 S v2_ count) (h3 : VR w0 S v3_ list) (hp4_0 : w0.heap[b4_0]? = some (.cells cs4_0.toArray 31 (0, 0))) (hr4_0 : GoTy.own w0 F4_0 cs4_0 cap) (hn4_0 : List.Nodup (List.cons b4_0 F4_0)) (hS4_0 : ∀ c ∈ List.cons b4_0 F4_0, ¬ S c) (hp4_1 : (MP.cells ⟨b4_1, o4_1, none⟩ [.func (.func 49) #[] #[(.pointer (some ⟨b4_1_0, o4_1_0, none⟩)), (.pointer (some ⟨b4_1_1, o4_1_1, none⟩))]]).pred w0 S) (hp4_1_0 : (MP.cells ⟨b4_1_0, o4_1_0, none⟩ cs4_1_0).pred w0 S) (hr4_1_0 : GoTy.rep w0 S cs4_1_0 cap2) (hp4_1_1 : (MP.cells ⟨b4_1_1, o4_1_1, none⟩ cs4_1_1).pred w0 S) (hr4_1_1 : GoTy.rep w0 S cs4_1_1 cap3) (hF : impl_choices_of_fewest_c1 fu from' n' count list cap cap2 cap3 = some r), Calls Try.prog 82 [v0_, v1_, v2_, v3_, (.func (.func 83) #[] #[(.pointer (some ⟨b4_0, 0, none⟩)), (.pointer (some ⟨b4_1, o4_1, none⟩))])].toArray w0 fun e w' => ∃ v, e = .returned v ∧ (Chg w0 w' (b4_0 :: F4_0) ∧ ∃ cs' F', w'.heap[b4_0]? = some (.cells cs'.toArray 31 (0, 0)) ∧ GoTy.own w' F' cs' r.2 ∧ Back w0 w' F4_0 F' ∧ b4_0 ∉ F' ∧ VR w' (fun _ => True) v r.1) := by
  induction fu with
  | zero => intro w0 S v0_ v1_ v2_ v3_ b4_0 cs4_0 F4_0 b4_1 o4_1 b4_1_0 o4_1_0 cs4_1_0 b4_1_1 o4_1_1 cs4_1_1 from' n' count list cap cap2 cap3 r h0 h1 h2 h3 hp4_0 hr4_0 hn4_0 hS4_0 hp4_1 hp4_1_0 hr4_1_0 hp4_1_1 hr4_1_1 hF; rw [impl_choices_of_fewest_c1] at hF; cases hF
  | succ fu ih => intro w0 S v0_ v1_ v2_ v3_ b4_0 cs4_0 F4_0 b4_1 o4_1 b4_1_0 o4_1_0 cs4_1_0 b4_1_1 o4_1_1 cs4_1_1 from' n' count list cap cap2 cap3 r h0 h1 h2 h3 hp4_0 hr4_0 hn4_0 hS4_0 hp4_1 hp4_1_0 hr4_1_0 hp4_1_1 hr4_1_1 hF; rw [impl_choices_of_fewest_c1] at hF; exact impl_choices_of_fewest_c1_B_ok (rec_ := fun from' n' count list cap cap2 cap3 => impl_choices_of_fewest_c1 fu from' n' count list cap cap2 cap3) (fun h0 h1 h2 h3 hp4_0 hr4_0 hn4_0 hS4_0 hp4_1 hp4_1_0 hr4_1_0 hp4_1_1 hr4_1_1 hF => ih h0 h1 h2 h3 hp4_0 hr4_0 hn4_0 hS4_0 hp4_1 hp4_1_0 hr4_1_0 hp4_1_1 hr4_1_1 hF) h0 h1 h2 h3 hp4_0 hr4_0 hn4_0 hS4_0 hp4_1 hp4_1_0 hr4_1_0 hp4_1_1 hr4_1_1 hF
theorem impl_fewest_of_FewestSites_c1_ok {S : Nat → Prop} {v0_ : Value} {b1_0 o1_0 : Nat} {cs1_0 : List Value} {b1_1 o1_1 : Nat} {cs1_1 : List Value} {n' : Int} {cap : Network} {cap2 : Int} {r : List Int × Bool} (h0 : VR w0 S v0_ n') (hp1_0 : (MP.cells ⟨b1_0, o1_0, none⟩ cs1_0).pred w0 S) (hr1_0 : GoTy.rep w0 S cs1_0 cap) (hp1_1 : (MP.cells ⟨b1_1, o1_1, none⟩ cs1_1).pred w0 S) (hr1_1 : GoTy.rep w0 S cs1_1 cap2) (hF : impl_fewest_of_FewestSites_c1 fu n' cap cap2 = some r) :
    Calls Try.prog 48 [v0_, (.func (.func 49) #[] #[(.pointer (some ⟨b1_0, o1_0, none⟩)), (.pointer (some ⟨b1_1, o1_1, none⟩))])].toArray w0 fun e w' => ∃ v, e = .returned v ∧ (Below w0.heap.size w0 w' ∧ ∃ F0, ∃ u0 u1, v = .tuple #[u0, u1] ∧ VO w' F0 u0 r.1 ∧ VR w' (St ⟨w0, []⟩ S [] [] [] true) u1 r.2 ∧ New w0 w' F0) := by
 obtain rfl := VR_int h0
 obtain ⟨A, c, A2, c2, rfl, hl, hl2⟩ := Network_cells hr1_0
 obtain rfl := hr1_1
 have H := Mem.start ⟨w0, []⟩ S
 have H := H.pA hl
 have H := H.pA hl2
 have H := H.pushArg (MP.cells ⟨b1_0, o1_0, none⟩ [(.slice A cap.Nodes.length c), (.slice A2 cap.Fibers.length c2)]) hp1_0
 have H := H.pushArg (MP.cells ⟨b1_1, o1_1, none⟩ [(.int .i64 cap2)]) hp1_1
 refine en Try.func48 fun a hf => ?_
 rw [impl_fewest_of_FewestSites_c1] at hF
 refine bx hf H fun b3 a w hf H => ?_
 refine pz 2 hf fun a hf => ?_
 refine wr (wl0 rfl (bl hf H 3 ([] : List Int) [] el0 fun A3 a w hf H => ?_))
 refine aL hf H TF.zv31 fun b4 a w hf H => ?_
 refine sB 0 hf H TF.sz31 fun w H => ?_
 refine we (sqz (pz 3 hf fun a hf => ?_))
 refine wl_end (then_n ?_)
 have H := H.rowOwn 0 rfl rfl
 obtain ⟨F2, H⟩ := H.freezeOwn 0 rfl
 have H := H.lend 0 rfl
 obtain ⟨out', hB1, hF⟩ := bs_ hF
 have hf := hf.pn [0, 3, 6, 11, 12]
 have H := H.lt_ [true, true] [] [true] [0, 1, 2, 3, 4]
 refine loopC (fun (s : Int × List Int) (a : Act) (w : World) => match s with | (i, m) => ∃ (A4 : Option Addr) (c3 : Nat) (F : List Nat), Fr a 22 [(0, (.int .i64 n')), (3, (.pointer (some ⟨b3, 0, none⟩))), (6, (.pointer (some ⟨b4, 0, none⟩))), (11, (.int .i64 (w64 (n' + 1)))), (12, (.int .i64 i))] ∧ Mem ⟨w0, []⟩ S [⟨b4, 31, [(.slice A4 m.length c3)]⟩, ⟨b3, 85, [(.func (.func 49) #[] #[(.pointer (some ⟨b1_0, o1_0 + 0, none⟩)), (.pointer (some ⟨b1_1, o1_1 + 0, none⟩))])]⟩] [] [⟨F, MP.own F [(.slice A4 m.length c3)] (m : List Int)⟩] [(true, MP.val [(.slice A4 m.length c3)] (m : List Int)), (false, MP.cells ⟨b1_1, o1_1, none⟩ [(.int .i64 cap2)]), (false, MP.cells ⟨b1_0, o1_0, none⟩ [(.slice A cap.Nodes.length c), (.slice A2 cap.Fibers.length c2)]), (false, MP.val [(.slice A2 cap.Fibers.length c2)] (cap.Fibers : List Fiber)), (false, MP.val [(.slice A cap.Nodes.length c)] (cap.Nodes : List ByteArray))] w) (fun k (s : Int × List Int) => impl_fewest_of_FewestSites_c1_L1 fu n' cap cap2 k s.1 s.2 = some out') (fun s => out' = Out.next s) (0, ([] : List Int)) fu hB1 ⟨A3, 0, F2, hf, H⟩ (fun s h => by cases h) ?_ ?_
 ·rintro fk ⟨i, m⟩ a w hR1 hI
  replace hR1 : impl_fewest_of_FewestSites_c1_L1 fu n' cap cap2 (fk + 1) i m = some out' := hR1
  rw [impl_fewest_of_FewestSites_c1_L1] at hR1
  obtain ⟨A4, c3, F, hf, H⟩ := hI
  refine sqz (pz 1 hf fun a hf => ?_)
  refine wl_end (then_n (sq (ib hR1 hf (fun hc hR1 => ?_) fun hc hR1 => ?_)))
  ·refine ws (pz 2 hf fun a hf => ?_)
   refine wr (pz 2 hf fun a hf => ?_)
   refine oq hf (rq_makeFunc hf rfl) fun a hf => ?_
   have H := H.pushNil (Int) true
   obtain ⟨y, hy, hR1⟩ := bs_ hR1
   refine oc hf TF.cl82 (impl_choices_of_fewest_c1_ok (S := NF b4 F) mk_int mk_int mk_int (mk_list (lrep_nil)) (H.boxAt 0 rfl) (H.ownAt 0 rfl) (H.boNd 0 rfl) (fun _ h1 h2 => h2 h1) (H.boxN 0 rfl 1 rfl rfl) (H.argN 0 rfl (fun _ h => by cases h) hp1_0) ((Network_mk (x := cap) (H.argNv 0 rfl (fun _ h => by cases h) (α := List ByteArray) hl) (H.argNv 0 rfl (fun _ h => by cases h) (α := List Fiber) hl2))) (H.argN 0 rfl (fun _ h => by cases h) hp1_1) (rfl) hy) fun v w a hp3 hf => ?_
   obtain ⟨hch, cs3, F3, hbx, ho, hbk, hbF, hv⟩ := hp3
   obtain ⟨A5, c4, rfl, ho⟩ := own_list ho
   have H := H.wroteBO 0 rfl rfl hch hbx ho hbk hbF
   have H := H.pA hl
   have H := H.pA hl2
   have H := H.arg (p := MP.cells ⟨b1_0, o1_0, none⟩ [(.slice A cap.Nodes.length c), (.slice A2 cap.Fibers.length c2)]) hp1_0
   have H := H.arg (p := MP.cells ⟨b1_1, o1_1, none⟩ [(.int .i64 cap2)]) hp1_1
   have H := H.lend 0 rfl
   obtain rfl := VR_bool hv
   refine pz 1 hf fun a hf => ?_
   refine wr (pz 1 hf fun a hf => ?_)
   refine wl_end (then_n (ib hR1 hf (fun hc2 hR1 => ?_) fun hc2 hR1 => ?_))
   ·refine sq (reg (lB 0 hf H TF.ls31 fun a hf => ?_))
    refine pz 2 hf fun a hf => ?_
    have hf := hf.pn [4, 5]
    refine wl_end (then_n (wp_ret (blk_r (then_r (then_r (blk_r (then_r (then_r (?_)))))))))
    obtain rfl := oi hR1
    replace hF := on_ret hF
    obtain rfl := oi hF
    refine ret_2 hf rfl (rv_tmp hf rfl) (rv_tmp hf rfl) ?_
    have hN := H.ends1
    exact ⟨_, rfl, H.bel, F3, _, _, rfl, (mko_list (H.ownAt 0 rfl)), mk_bool, by first | exact hN | simpa using hN⟩
   ·refine wp_skip (blk_n (then_n (reg (pz 2 hf fun a hf => ?_))))
    refine wl_end ?_
    have hf := hf.pn [0, 3, 6, 11, 12]
    have H := H.lt_ [true, true] [] [true] [0, 1, 2, 3, 4]
    exact then_n ⟨(w64 (i + 1), y.2), hR1, A5, c4, F3, hf, H⟩
  ·refine wp_exit (then_x (then_x (blk_e (?_))))
   have hf := hf.pn [0, 3, 6, 11, 12]
   have H := H.lt_ [true, true] [] [true] [0, 1, 2, 3, 4]
   exact ⟨(i, m), (Option.some.inj hR1).symm, A4, c3, F, hf, H⟩
 rintro a w ⟨⟨i2, m2⟩, rfl, A6, c5, F4, hf, H⟩
 replace hF := on_next hF
 try dsimp only at hF
 refine then_n (sqz (pz 2 hf fun a hf => ?_))
 refine wer ?_
 have H := H.ownNil (Int)
 have H := H.lend 0 rfl
 obtain rfl := oi hF
 refine ret_2 hf rfl (rv_tmp hf rfl) (rv_tmp hf rfl) ?_
 have hN := H.ends1
 exact ⟨_, rfl, H.bel, [], _, _, rfl, (mko_list (H.ownAt 0 rfl)), mk_bool, by first | exact hN | simpa using hN⟩
theorem impl_FewestSites_ok {S : Nat → Prop} {v0_ : Value} {v1_ : Value} {n' : Network} {reach : Int} {r : List Int × Bool × Bool} (h0 : VR w0 S v0_ n') (h1 : VR w0 S v1_ reach) (hF : impl_FewestSites fu n' reach = some r) :
    Calls Try.prog 19 [v0_, v1_].toArray w0 fun e w' => ∃ v, e = .returned v ∧ (Below w0.heap.size w0 w' ∧ ∃ F0, ∃ u0 u1 u2, v = .tuple #[u0, u1, u2] ∧ VO w' F0 u0 r.1 ∧ VR w' (St ⟨w0, []⟩ S [] [] [] true) u1 r.2.1 ∧ VR w' (St ⟨w0, []⟩ S [] [] [] true) u2 r.2.2 ∧ New w0 w' F0) := by
 obtain ⟨A, c, A2, c2, rfl, hl, hl2⟩ := Network_open h0
 obtain rfl := VR_int h1
 have H := Mem.start ⟨w0, []⟩ S
 have H := H.pA hl
 have H := H.pA hl2
 refine en Try.func19 fun a hf => ?_
 rw [impl_FewestSites] at hF
 refine bx hf H fun b' a w hf H => ?_
 refine wl0 rfl (op_box hf H rfl rfl (by decide) fun b2 a w hf H => ?_)
 refine pz 3 hf fun a hf => ?_
 refine wl_end (then_n (sq (sq ?_)))
 obtain ⟨c3, hGc3, hF⟩ := bs_ hF
 have fh := hf.prune [2, 3] rfl
 have Hm := H.lt_ [true, true] [] [] [0, 1]
 refine midF 16 (.bool c3) fh Hm ?_ fun a w hf H => ?_
 ·refine reg (lN 1 hf H TF.la27 fun a hf => ?_)
  obtain ⟨y, hy, hGc3⟩ := bs_ hGc3
  refine oc hf TF.cl47 (impl_IsValidNetwork_ok (S := TT) (Network_mkv (x := n') (H.rt 1 rfl) (H.rt 0 rfl)) hy) fun v w a hp hf => ?_
  obtain ⟨hb, hp⟩ := hp
  obtain rfl := VR_bool hp
  have H := H.keep hb
  refine pz 2 hf fun a hf => ?_
  refine iteB hGc3 (fun hc hGc3 => ?_) fun hc hGc3 => ?_
  ·have hf := hf.lit 12 rfl hc
   refine pz 4 hf fun a hf => ?_
   obtain rfl := oi hGc3
   have hf := hf.pn [16, 2, 3]
   have H := H.lt_ [true, true] [] [] [0, 1]
   exact wl_end ⟨hf, H⟩
  ·have hf := hf.lit 12 rfl hc
   refine wlg hf rfl rfl rfl (op_q hf (rq_loadB hf H TF.ls3 0 rfl rfl rfl) rfl (by decide) fun a hf => ?_)
   obtain ⟨y2, hy2, hGc3⟩ := bs_ hGc3
   refine wlg hf rfl rfl rfl (oC hf TF.cl40 (impl_within_ok (S := TT) mk_int mk_int mk_int hy2) fun v2 w a hp2 hf => ?_)
   obtain ⟨hb2, hp2⟩ := hp2
   obtain rfl := VR_bool hp2
   have H := H.keep hb2
   refine pz 2 hf fun a hf => ?_
   obtain rfl := oi hGc3
   have hf := hf.pn [16, 2, 3]
   have H := H.lt_ [true, true] [] [] [0, 1]
   exact wl_end ⟨hf, H⟩
 refine then_n (ib hF hf (fun hc2 hF => ?_) fun hc2 hF => ?_)
 ·refine sqz (pz 3 hf fun a hf => ?_)
  refine wl_end (then_n (wp_ret (then_r (?_))))
  have H := H.ownNil (Int)
  have H := H.lend 0 rfl
  obtain rfl := oi hF
  refine ret_3 hf rfl (rv_tmp hf rfl) (rv_tmp hf rfl) (rv_tmp hf rfl) ?_
  have hN := H.ends1
  exact ⟨_, rfl, H.bel, [], _, _, _, rfl, (mko_list (H.ownAt 0 rfl)), mk_bool, mk_bool, by first | exact hN | simpa using hN⟩
 ·refine wp_skip (then_n (sqz (pz 1 hf fun a hf => ?_)))
  refine lB 1 hf H TF.ls24 fun a hf => ?_
  refine pz 1 hf fun a hf => ?_
  refine oq hf (rq_makeFunc hf rfl) fun a hf => ?_
  obtain ⟨y3, hy3, hF⟩ := bs_ hF
  refine oc hf TF.cl48 (impl_fewest_of_FewestSites_c1_ok (S := TT) mk_int (H.boxTrue 1 rfl) ((Network_mk (x := n') (H.rt 1 rfl) (H.rt 0 rfl))) (H.boxTrue 0 rfl) (rfl) hy3) fun v3 w a hp3 hf => ?_
  obtain ⟨hb3, F, v4, v5, rfl, hp4, hp5, hN⟩ := hp3
  obtain ⟨A3, c4, rfl, hl3⟩ := VO_list hp4
  obtain rfl := VR_bool hp5
  have H := H.aO1 hb3 hN hl3
  have H := H.lend 0 rfl
  refine pz 5 hf fun a hf => ?_
  refine wr (pz 5 hf fun a hf => ?_)
  have hf := hf.pn [4, 5, 6]
  refine wer ?_
  obtain rfl := oi hF
  refine ret_3 hf rfl (rv_tmp hf rfl) (rv_tmp hf rfl) (rv_tmp hf rfl) ?_
  have hN := H.ends1
  exact ⟨_, rfl, H.bel, F, _, _, _, rfl, (mko_list (H.ownAt 0 rfl)), mk_bool, mk_bool, by first | exact hN | simpa using hN⟩
end AT
