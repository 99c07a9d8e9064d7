/- The Go functions do what is told of them, by program (gen.py). -/
import Derived.Test.YtmokfdffnijbbaaGreatWC1
set_option linter.unusedVariables false
set_option linter.unusedSimpArgs false
set_option maxRecDepth 100000
set_option maxHeartbeats 1000000
namespace AT
open Go Go.RowKit Go.Proofs
variable {fu : Nat} {w0 : World}
theorem spec_l8Good_ok {S : Nat → Prop} {v0_ : Value} {b' : Block} {r : Bool} (h0 : VR w0 S v0_ b') (hF : spec_l8Good fu b' = some r) :
    Calls Tryz.prog 180 [v0_].toArray w0 fun e w' => ∃ v, e = .returned v ∧ (Below w0.heap.size w0 w' ∧ VR w' (St ⟨w0, []⟩ S [] [] [] true) v r) := by
 obtain rfl := Block_open h0
 have H := Mem.start ⟨w0, []⟩ S
 refine en Tryz.func180 fun a hf => ?_
 rw [spec_l8Good] at hF
 refine bx hf H fun b2 a w hf H => ?_
 refine pz 1 hf fun a hf => ?_
 refine wl_end (then_n (sq ?_))
 obtain ⟨c, hGc, hF⟩ := bs_ hF
 have fh := hf.prune [] rfl
 have Hm := H.lt_ [false] [] [] []
 refine midF 2 (.bool c) fh Hm ?_ fun a w hf H => ?_
 ·refine reg (pz 1 hf fun a hf => ?_)
  refine lB 0 hf H TF.ls3 fun a hf => ?_
  obtain ⟨y, hy, hGc⟩ := bs_ hGc
  refine oc hf TF.cl86 (spec_l1In_ok (S := TT) mk_int mk_int mk_int hy) fun v w a hp hf => ?_
  obtain ⟨hb, hp⟩ := hp
  obtain rfl := VR_bool hp
  have H := H.keep hb
  refine pz 1 hf fun a hf => ?_
  refine iteB hGc (fun hc hGc => ?_) fun hc hGc => ?_
  ·have hf := hf.lit 6 rfl hc
   refine pz 1 hf fun a hf => ?_
   refine wlg hf rfl rfl rfl (op_q hf (rq_loadB hf H TF.ls3 0 rfl rfl rfl) rfl (by decide) fun a hf => ?_)
   refine pz 1 hf fun a hf => ?_
   refine wlg hf rfl rfl rfl (op_q hf (rq_loadB hf H TF.ls3 0 rfl rfl rfl) rfl (by decide) fun a hf => ?_)
   refine pz 1 hf fun a hf => ?_
   obtain ⟨y2, hy2, hGc⟩ := bs_ hGc
   refine wlg hf rfl rfl rfl (oC hf TF.cl86 (spec_l1In_ok (S := TT) mk_int mk_int mk_int hy2) fun v2 w a hp2 hf => ?_)
   obtain ⟨hb2, hp2⟩ := hp2
   obtain rfl := VR_bool hp2
   have H := H.keep hb2
   refine pz 2 hf fun a hf => ?_
   obtain rfl := oi hGc
   have hf := hf.pn [2]
   have H := H.lt_ [false] [] [] []
   exact wl_end ⟨hf, H⟩
  ·have hf := hf.lit 6 rfl hc
   refine pz 8 hf fun a hf => ?_
   obtain rfl := oi hGc
   have hf := hf.pn [2]
   have H := H.lt_ [false] [] [] []
   exact wl_end ⟨hf, H⟩
 refine then_n (wp_ret (?_))
 obtain rfl := oi hF
 refine rT hf ?_
 exact ⟨_, rfl, H.bel, mk_bool⟩
theorem spec_l9Light_ok {S : Nat → Prop} {v0_ : Value} {v1_ : Value} {n' : Network} {x1 : Light} {r : Bool} (h0 : VR w0 S v0_ n') (h1 : VR w0 S v1_ x1) (hF : spec_l9Light fu n' x1 = some r) :
    Calls Tryz.prog 114 [v0_, v1_].toArray w0 fun e w' => ∃ v, e = .returned v ∧ (Below w0.heap.size w0 w' ∧ VR w' (St ⟨w0, []⟩ S [] [] [] true) v r) := by
 obtain ⟨A, c, A2, c2, rfl, hl, hl2⟩ := Network_open h0
 obtain ⟨A3, c3, rfl, hl3⟩ := Light_open h1
 have H := Mem.start ⟨w0, []⟩ S
 have H := H.pA hl
 have H := H.pA hl2
 have H := H.pA hl3
 refine en Tryz.func114 fun a hf => ?_
 rw [spec_l9Light] at hF
 refine bx hf H fun b' a w hf H => ?_
 refine wl0 rfl (op_box hf H rfl rfl (by decide) fun b2 a w hf H => ?_)
 refine pz 1 hf fun a hf => ?_
 refine wl_end (then_n (sq ?_))
 obtain ⟨c4, hGc4, hF⟩ := bs_ hF
 have fh := hf.prune [] rfl
 have Hm := H.lt_ [false, false] [] [] []
 refine midF 4 (.bool c4) fh Hm ?_ fun a w hf H => ?_
 ·refine reg (pz 1 hf fun a hf => ?_)
  refine lB 0 hf H TF.ls3 fun a hf => ?_
  obtain ⟨y, hy, hGc4⟩ := bs_ hGc4
  refine oc hf TF.cl86 (spec_l1In_ok (S := TT) mk_int mk_int mk_int hy) fun v w a hp hf => ?_
  obtain ⟨hb, hp⟩ := hp
  obtain rfl := VR_bool hp
  have H := H.keep hb
  refine pz 1 hf fun a hf => ?_
  refine iteB hGc4 (fun hc hGc4 => ?_) fun hc hGc4 => ?_
  ·have hf := hf.lit 8 rfl hc
   refine wlg hf rfl rfl rfl (op_q hf (rq_loadBN hf H TF.la34 1 rfl rfl rfl rfl) rfl (by decide) fun a hf => ?_)
   refine pz 1 hf fun a hf => ?_
   refine wlg hf rfl rfl rfl (op_q hf (rq_loadBN hf H TF.la59 0 rfl rfl rfl rfl) rfl (by decide) fun a hf => ?_)
   obtain ⟨y2, hy2, hGc4⟩ := bs_ hGc4
   refine wlg hf rfl rfl rfl (oC hf TF.cl142 (spec_l4Good_ok (S := TT) (Network_mkv (x := n') (H.rt 2 rfl) (H.rt 1 rfl)) (Route_mkv (x := x1.Route) (H.rt 0 rfl)) hy2) fun v2 w a hp2 hf => ?_)
   obtain ⟨hb2, hp2⟩ := hp2
   obtain rfl := VR_bool hp2
   have H := H.keep hb2
   refine pz 2 hf fun a hf => ?_
   refine iteB hGc4 (fun hc2 hGc4 => ?_) fun hc2 hGc4 => ?_
   ·have hf := hf.lit 14 rfl hc2
    refine pz 1 hf fun a hf => ?_
    refine wlg hf rfl rfl rfl (op_q hf (rq_loadBN hf H TF.la71 0 rfl rfl rfl rfl) rfl (by decide) fun a hf => ?_)
    obtain ⟨y3, hy3, hGc4⟩ := bs_ hGc4
    refine wlg hf rfl rfl rfl (oC hf TF.cl180 (spec_l8Good_ok (S := TT) Block_mkv hy3) fun v3 w a hp3 hf => ?_)
    obtain ⟨hb3, hp3⟩ := hp3
    obtain rfl := VR_bool hp3
    have H := H.keep hb3
    refine pz 2 hf fun a hf => ?_
    obtain rfl := oi hGc4
    have hf := hf.pn [4]
    have H := H.lt_ [false, false] [] [] []
    exact wl_end ⟨hf, H⟩
   ·have hf := hf.lit 14 rfl hc2
    refine pz 5 hf fun a hf => ?_
    obtain rfl := oi hGc4
    have hf := hf.pn [4]
    have H := H.lt_ [false, false] [] [] []
    exact wl_end ⟨hf, H⟩
  ·have hf := hf.lit 8 rfl hc
   refine pz 11 hf fun a hf => ?_
   obtain rfl := oi hGc4
   have hf := hf.pn [4]
   have H := H.lt_ [false, false] [] [] []
   exact wl_end ⟨hf, H⟩
 refine then_n (wp_ret (?_))
 obtain rfl := oi hF
 refine rT hf ?_
 exact ⟨_, rfl, H.bel, mk_bool⟩
theorem spec_l9Collide_ok {S : Nat → Prop} {v0_ : Value} {v1_ : Value} {x1 : Light} {y : Light} {r : Bool} (h0 : VR w0 S v0_ x1) (h1 : VR w0 S v1_ y) (hF : spec_l9Collide fu x1 y = some r) :
    Calls Tryz.prog 115 [v0_, v1_].toArray w0 fun e w' => ∃ v, e = .returned v ∧ (Below w0.heap.size w0 w' ∧ VR w' (St ⟨w0, []⟩ S [] [] [] true) v r) := by
 obtain ⟨A, c, rfl, hl⟩ := Light_open h0
 obtain ⟨A2, c2, rfl, hl2⟩ := Light_open h1
 have H := Mem.start ⟨w0, []⟩ S
 have H := H.pA hl
 have H := H.pA hl2
 refine en Tryz.func115 fun a hf => ?_
 rw [spec_l9Collide] at hF
 refine bx hf H fun b' a w hf H => ?_
 refine wl0 rfl (op_box hf H rfl rfl (by decide) fun b2 a w hf H => ?_)
 refine pz 1 hf fun a hf => ?_
 refine wl_end (then_n (sq ?_))
 obtain ⟨c3, hGc3, hF⟩ := bs_ hF
 have fh := hf.prune [] rfl
 have Hm := H.lt_ [false, false] [] [] []
 refine midF 4 (.bool c3) fh Hm ?_ fun a w hf H => ?_
 ·refine dw [] 17 fun w hb => ?_
  have H := H.keep hb
  refine zp 0 hf trivial fun a hf => ?_
  refine strT (H.lt_ [false, true] [] [] []) (fun w H => trivial) fun hS => ?_
  refine zS 1 [] rfl rfl rfl rfl hf hS (fun w H => rq_loadBN hf H TF.la59 0 rfl rfl rfl rfl) fun a hf => ?_
  refine zp 2 hf hS fun a hf => ?_
  refine zp 3 hf hS fun a hf => ?_
  refine strT (H.lt_ [true, true] [] [] []) (fun w H => H.lt_ [false, true] [] [] []) fun hS => ?_
  refine zS 4 [] rfl rfl rfl rfl hf hS (fun w H => rq_loadB hf H TF.ls47 0 rfl rfl rfl) fun a hf => ?_
  obtain ⟨y2, hy2, hGc3⟩ := bs_ hGc3
  refine nn 5 rfl (oC hf TF.cl181 (spec_l4Uses_ok (S := TT) (Route_mkv (x := x1.Route) (H.rt 1 rfl)) (mk_list (H.rt 0 rfl)) hy2) fun v w a hp hf => ?_)
  obtain ⟨hb, hp⟩ := hp
  obtain rfl := VR_bool hp
  have H := H.keep hb
  have hS := H.lt_ [true, true] [] [] []
  refine aS hS ?_
  refine zp 6 hf hS fun a hf => ?_
  refine iteB hGc3 (fun hc hGc3 => ?_) fun hc hGc3 => ?_
  ·have hf := hf.lit 11 rfl hc
   refine zg 7 hf hS fun a hf => ?_
   refine tSg 8 [] rfl rfl rfl rfl rfl rfl hf (by kernel_rfl) (by kernel_rfl) hS (fun w H => rq_loadBN hf H TF.la71 1 rfl rfl rfl rfl) fun a hf => ?_
   refine zg 10 hf hS fun a hf => ?_
   refine tSg 11 [] rfl rfl rfl rfl rfl rfl hf (by kernel_rfl) (by kernel_rfl) hS (fun w H => rq_loadBN hf H TF.la71 0 rfl rfl rfl rfl) fun a hf => ?_
   obtain ⟨y3, hy3, hGc3⟩ := bs_ hGc3
   refine n1g 9 (by kernel_rfl) rfl rfl rfl rfl hf (oC hf TF.cl182 (spec_l8Bits_ok (S := TT) Block_mkv hy3) fun v2 w a hp2 hf => ?_)
   obtain ⟨hb2, hp2⟩ := hp2
   obtain rfl := VR_int hp2
   have H := H.keep hb2
   have hS := H.lt_ [true, true] [] [] []
   refine aS hS ?_
   obtain ⟨y4, hy4, hGc3⟩ := bs_ hGc3
   refine n1g 12 (by kernel_rfl) rfl rfl rfl rfl hf (oC hf TF.cl182 (spec_l8Bits_ok (S := TT) Block_mkv hy4) fun v3 w a hp3 hf => ?_)
   obtain ⟨hb3, hp3⟩ := hp3
   obtain rfl := VR_int hp3
   have H := H.keep hb3
   have hS := H.lt_ [true, true] [] [] []
   refine aS hS ?_
   refine zg 13 hf hS fun a hf => ?_
   refine zg 14 hf hS fun a hf => ?_
   refine zp 15 hf hS fun a hf => ?_
   refine zp 16 hf hS fun a hf => ?_
   refine dk ?_
   obtain rfl := oi hGc3
   have hf := hf.pn [4]
   have H := H.lt_ [false, false] [] [] []
   exact ⟨hf, H⟩
  ·have hf := hf.lit 11 rfl hc
   refine zU 7 hf hS fun a hf => ?_
   refine zU 8 hf hS fun a hf => ?_
   refine zU 9 hf hS fun a hf => ?_
   refine zU 10 hf hS fun a hf => ?_
   refine zU 11 hf hS fun a hf => ?_
   refine zU 12 hf hS fun a hf => ?_
   refine zU 13 hf hS fun a hf => ?_
   refine zU 14 hf hS fun a hf => ?_
   refine zp 15 hf hS fun a hf => ?_
   refine zp 16 hf hS fun a hf => ?_
   refine dk ?_
   obtain rfl := oi hGc3
   have hf := hf.pn [4]
   have H := H.lt_ [false, false] [] [] []
   exact ⟨hf, H⟩
 refine then_n (wp_ret (?_))
 obtain rfl := oi hF
 refine rT hf ?_
 exact ⟨_, rfl, H.bel, mk_bool⟩
theorem spec_l9Good_ok {S : Nat → Prop} {v0_ : Value} {p : Plan} {r : Bool} (h0 : VR w0 S v0_ p) (hF : spec_l9Good fu p = some r) :
    Calls Tryz.prog 49 [v0_].toArray w0 fun e w' => ∃ v, e = .returned v ∧ (Below w0.heap.size w0 w' ∧ VR w' (St ⟨w0, []⟩ S [] [] [] true) v r) := by
 obtain ⟨A, c, A2, c2, A3, c3, rfl, hl, hl2, hl3⟩ := Plan_open h0
 have H := Mem.start ⟨w0, []⟩ S
 have H := H.pA hl
 have H := H.pA hl2
 have H := H.pA hl3
 refine en Tryz.func49 fun a hf => ?_
 rw [spec_l9Good] at hF
 refine bx hf H fun b' a w hf H => ?_
 refine pz 1 hf fun a hf => ?_
 refine wl_end (then_n (sq (sq ?_)))
 obtain ⟨c4, hGc4, hF⟩ := bs_ hF
 have fh := hf.prune [1] rfl
 have Hm := H.lt_ [true] [] [] [0, 1, 2]
 refine midF 14 (.bool c4) fh Hm ?_ fun a w hf H => ?_
 ·refine reg (pz 1 hf fun a hf => ?_)
  refine lN 0 hf H TF.la34 fun a hf => ?_
  obtain ⟨y, hy, hGc4⟩ := bs_ hGc4
  refine oc hf TF.cl113 (spec_l2Good_ok (S := TT) (Network_mkv (x := p.Network) (H.rt 2 rfl) (H.rt 1 rfl)) hy) fun v w a hp hf => ?_
  obtain ⟨hb, hp⟩ := hp
  obtain rfl := VR_bool hp
  have H := H.keep hb
  refine pz 2 hf fun a hf => ?_
  refine iteB hGc4 (fun hc hGc4 => ?_) fun hc hGc4 => ?_
  ·have hf := hf.lit 9 rfl hc
   refine pz 5 hf fun a hf => ?_
   obtain rfl := oi hGc4
   have hf := hf.pn [14, 1]
   have H := H.lt_ [true] [] [] [0, 1, 2]
   exact wl_end ⟨hf, H⟩
  ·have hf := hf.lit 9 rfl hc
   refine pz 1 hf fun a hf => ?_
   refine wlg hf rfl rfl rfl (op_q hf (rq_loadB hf H TF.ls35 0 rfl rfl rfl) rfl (by decide) fun a hf => ?_)
   refine pz 3 hf fun a hf => ?_
   obtain rfl := oi hGc4
   have hf := hf.pn [14, 1]
   have H := H.lt_ [true] [] [] [0, 1, 2]
   exact wl_end ⟨hf, H⟩
 refine then_n (ib hF hf (fun hc2 hF => ?_) fun hc2 hF => ?_)
 ·refine sqz (pz 1 hf fun a hf => ?_)
  refine wl_end (then_n (wp_ret (then_r (?_))))
  obtain rfl := oi hF
  refine rT hf ?_
  exact ⟨_, rfl, H.bel, mk_bool⟩
 ·refine wp_skip (then_n (sq (sqz (pz 1 hf fun a hf => ?_))))
  refine wl_end (then_n ?_)
  obtain ⟨out', hB1, hF⟩ := bs_ hF
  have hf := hf.pn [1, 3]
  have H := H.lt_ [true] [] [] [0, 1, 2]
  refine loopC (fun (s : Int) (a : Act) (w : World) => match s with | i => Fr a 67 [(1, (.pointer (some ⟨b', 0, none⟩))), (3, (.int .i64 i))] ∧ Mem ⟨w0, []⟩ S [⟨b', 37, [(.slice A p.Network.Nodes.length c), (.slice A2 p.Network.Fibers.length c2), (.slice A3 p.Lights.length c3)]⟩] [] [] [(false, MP.val [(.slice A3 p.Lights.length c3)] (p.Lights : List Light)), (false, MP.val [(.slice A2 p.Network.Fibers.length c2)] (p.Network.Fibers : List Fiber)), (false, MP.val [(.slice A p.Network.Nodes.length c)] (p.Network.Nodes : List ByteArray))] w) (fun k (s : Int) => spec_l9Good_L1 fu p k s = some out') (fun s => out' = Out.next s) 0 fu hB1 ⟨hf, H⟩ (fun s h => by cases h) ?_ ?_
  ·rintro fk i a w hR1 hI
   replace hR1 : spec_l9Good_L1 fu p (fk + 1) i = some out' := hR1
   rw [spec_l9Good_L1] at hR1
   obtain ⟨hf, H⟩ := hI
   refine sq (sqz (pz 2 hf fun a hf => ?_))
   refine lB 0 hf H TF.ls35 fun a hf => ?_
   refine pz 2 hf fun a hf => ?_
   refine wl_end (then_n (ib hR1 hf (fun hc3 hR1 => ?_) fun hc3 hR1 => ?_))
   ·refine wp_skip (then_n (sq (wp_block (sq (sq ?_)))))
    obtain ⟨c5, hGc5, hR1⟩ := bs_ hR1
    have fh2 := hf.prune [1, 3] rfl
    have Hm2 := H.lt_ [true] [] [] [0, 1, 2]
    refine midF 50 (.bool c5) fh2 Hm2 ?_ fun a w hf H => ?_
    ·refine dw [] 29 fun w hb => ?_
     have H := H.keep hb
     refine zp 0 hf trivial fun a hf => ?_
     refine strT (H.lt_ [true] [] [] []) (fun w H => trivial) fun hS => ?_
     refine zS 1 [] rfl rfl rfl rfl hf hS (fun w H => rq_loadBN hf H TF.la34 0 rfl rfl rfl rfl) fun a hf => ?_
     refine zp 2 hf hS fun a hf => ?_
     refine zS 3 [] rfl rfl rfl rfl hf hS (fun w H => rq_loadB hf H TF.ls35 0 rfl rfl rfl) fun a hf => ?_
     refine zp 4 hf hS fun a hf => ?_
     obtain ⟨e, he, hGc5⟩ := bs_ hGc5
     obtain ⟨p2, o, cs, hx, hr, H⟩ := pre_iaddr H Tryz.underlying35 TF.sz73 0 rfl he
     refine zP 5 rfl rfl rfl rfl hf hS (fun w => rq_iaddrE hf rfl rfl rfl hx w) fun a hf => ?_
     obtain ⟨A4, c6, rfl, hl4⟩ := Light_cells hr
     have H := H.pF hl4
     refine strT (H.lt_ [true] [] [] [1]) (fun w H => H.lt_ [true] [] [] []) fun hS => ?_
     refine zS 6 [] rfl rfl rfl rfl hf hS (fun w H => rq_loadIN hf H TF.la73 0 0 rfl rfl rfl rfl) fun a hf => ?_
     obtain ⟨y2, hy2, hGc5⟩ := bs_ hGc5
     refine nn 7 rfl (oC hf TF.cl114 (spec_l9Light_ok (S := TT) (Network_mkv (x := p.Network) (H.rt 4 rfl) (H.rt 3 rfl)) (Light_mkv (x := e) (H.rt 0 rfl)) hy2) fun v2 w a hp2 hf => ?_)
     obtain ⟨hb2, hp2⟩ := hp2
     obtain rfl := VR_bool hp2
     have H := H.keep hb2
     have hS := H.lt_ [true] [] [] [1]
     refine aS hS ?_
     refine zp 8 hf hS fun a hf => ?_
     refine zp 9 hf hS fun a hf => ?_
     refine iteB hGc5 (fun hc4 hGc5 => ?_) fun hc4 hGc5 => ?_
     ·have hf := hf.lit 31 rfl hc4
      refine zU 10 hf hS fun a hf => ?_
      refine zU 11 hf hS fun a hf => ?_
      refine zU 12 hf hS fun a hf => ?_
      refine zV 13 hf hS fun a hf => ?_
      refine zV 14 hf hS fun a hf => ?_
      refine zV 15 hf hS fun a hf => ?_
      refine zV 16 hf hS fun a hf => ?_
      refine zV 17 hf hS fun a hf => ?_
      refine zV 18 hf hS fun a hf => ?_
      refine zV 19 hf hS fun a hf => ?_
      refine zV 20 hf hS fun a hf => ?_
      refine zV 21 hf hS fun a hf => ?_
      refine zV 22 hf hS fun a hf => ?_
      refine zV 23 hf hS fun a hf => ?_
      refine zV 24 hf hS fun a hf => ?_
      refine zV 25 hf hS fun a hf => ?_
      refine zV 26 hf hS fun a hf => ?_
      refine zU 27 hf hS fun a hf => ?_
      refine zp 28 hf hS fun a hf => ?_
      refine dk ?_
      obtain rfl := oi hGc5
      have hf := hf.pn [50, 1, 3]
      have H := H.lt_ [true] [] [] [2, 3, 4]
      exact ⟨hf, H⟩
     ·have hf := hf.lit 31 rfl hc4
      refine zg 10 hf hS fun a hf => ?_
      refine zg 11 hf hS fun a hf => ?_
      refine zg 12 hf hS fun a hf => ?_
      refine iteB hGc5 (fun hc5 hGc5 => ?_) fun hc5 hGc5 => ?_
      ·have hf := hf.lit 34 rfl hc5
       refine zg 13 hf hS fun a hf => ?_
       refine tSg 14 [] rfl rfl rfl rfl rfl rfl hf (by kernel_rfl) (by kernel_rfl) hS (fun w H => rq_loadB hf H TF.ls35 0 rfl rfl rfl) fun a hf => ?_
       refine zg 15 hf hS fun a hf => ?_
       refine zg 16 hf hS fun a hf => ?_
       obtain ⟨e2, he2, hGc5⟩ := bs_ hGc5
       obtain ⟨p3, o2, cs2, hx2, hr2, H⟩ := pre_iaddr H Tryz.underlying35 TF.sz73 2 rfl he2
       refine tPg 17 rfl rfl rfl rfl rfl rfl hf (by kernel_rfl) (fun _ => hS) (fun w => rq_iaddrE hf rfl rfl rfl hx2 w) fun a hf => ?_
       obtain ⟨A5, c7, rfl, hl5⟩ := Light_cells hr2
       have H := H.pF hl5
       refine zg 18 hf hS fun a hf => ?_
       refine strT (H.lt_ [true] [] [] [1, 3]) (fun w H => H.lt_ [true] [] [] [1]) fun hS => ?_
       refine tSg 19 [] rfl rfl rfl rfl rfl rfl hf (by kernel_rfl) (by kernel_rfl) hS (fun w H => rq_loadI hf H TF.ls3 0 0 rfl rfl rfl) fun a hf => ?_
       refine zg 20 hf hS fun a hf => ?_
       refine tSg 21 [] rfl rfl rfl rfl rfl rfl hf (by kernel_rfl) (by kernel_rfl) hS (fun w H => rq_loadB hf H TF.ls35 0 rfl rfl rfl) fun a hf => ?_
       refine zg 22 hf hS fun a hf => ?_
       obtain ⟨e3, he3, hGc5⟩ := bs_ hGc5
       obtain ⟨p4, o3, cs3, hx3, hr3, H⟩ := pre_iaddr H Tryz.underlying35 TF.sz73 4 rfl he3
       refine tPg 23 rfl rfl rfl rfl rfl rfl hf (by kernel_rfl) (fun _ => hS) (fun w => rq_iaddrE hf rfl rfl rfl hx3 w) fun a hf => ?_
       obtain ⟨A6, c8, rfl, hl6⟩ := Light_cells hr3
       have H := H.pF hl6
       refine zg 24 hf hS fun a hf => ?_
       refine strT (H.lt_ [true] [] [] [1, 3, 5]) (fun w H => H.lt_ [true] [] [] [1, 2]) fun hS => ?_
       refine tSg 25 [] rfl rfl rfl rfl rfl rfl hf (by kernel_rfl) (by kernel_rfl) hS (fun w H => rq_loadI hf H TF.ls3 0 0 rfl rfl rfl) fun a hf => ?_
       refine zg 26 hf hS fun a hf => ?_
       refine zg 27 hf hS fun a hf => ?_
       refine zp 28 hf hS fun a hf => ?_
       refine dk ?_
       obtain rfl := oi hGc5
       have hf := hf.pn [50, 1, 3]
       have H := H.lt_ [true] [] [] [6, 7, 8]
       exact ⟨hf, H⟩
      ·have hf := hf.lit 34 rfl hc5
       refine zU 13 hf hS fun a hf => ?_
       refine zU 14 hf hS fun a hf => ?_
       refine zU 15 hf hS fun a hf => ?_
       refine zU 16 hf hS fun a hf => ?_
       refine zU 17 hf hS fun a hf => ?_
       refine zU 18 hf hS fun a hf => ?_
       refine zU 19 hf hS fun a hf => ?_
       refine zU 20 hf hS fun a hf => ?_
       refine zU 21 hf hS fun a hf => ?_
       refine zU 22 hf hS fun a hf => ?_
       refine zU 23 hf hS fun a hf => ?_
       refine zU 24 hf hS fun a hf => ?_
       refine zU 25 hf hS fun a hf => ?_
       refine zU 26 hf hS fun a hf => ?_
       refine zg 27 hf hS fun a hf => ?_
       refine zp 28 hf hS fun a hf => ?_
       refine dk ?_
       obtain rfl := oi hGc5
       have hf := hf.pn [50, 1, 3]
       have H := H.lt_ [true] [] [] [2, 3, 4]
       exact ⟨hf, H⟩
    refine then_n (ib hR1 hf (fun hc6 hR1 => ?_) fun hc6 hR1 => ?_)
    ·refine sqz (pz 1 hf fun a hf => ?_)
     refine wl_end (then_n (wp_ret (then_r (blk_r (then_r (then_r (blk_r (then_r (then_r (?_))))))))))
     obtain rfl := oi hR1
     replace hF := on_ret hF
     obtain rfl := oi hF
     refine rT hf ?_
     exact ⟨_, rfl, H.bel, mk_bool⟩
    ·refine wp_skip (then_n (sqz (pz 1 hf fun a hf => ?_)))
     refine wl_end (then_n ?_)
     obtain ⟨out2, hB2, hR1⟩ := bs_ hR1
     have hf := hf.pn [1, 3, 4]
     have H := H.lt_ [true] [] [] [0, 1, 2]
     refine loopC (fun (s : Int) (a : Act) (w : World) => match s with | k' => Fr a 67 [(1, (.pointer (some ⟨b', 0, none⟩))), (3, (.int .i64 i)), (4, (.int .i64 k'))] ∧ Mem ⟨w0, []⟩ S [⟨b', 37, [(.slice A p.Network.Nodes.length c), (.slice A2 p.Network.Fibers.length c2), (.slice A3 p.Lights.length c3)]⟩] [] [] [(false, MP.val [(.slice A3 p.Lights.length c3)] (p.Lights : List Light)), (false, MP.val [(.slice A2 p.Network.Fibers.length c2)] (p.Network.Fibers : List Fiber)), (false, MP.val [(.slice A p.Network.Nodes.length c)] (p.Network.Nodes : List ByteArray))] w) (fun k (s : Int) => spec_l9Good_L2 fu p i k s = some out2) (fun s => out2 = Out.next s) 0 fu hB2 ⟨hf, H⟩ (fun s h => by cases h) ?_ ?_
     ·rintro fk k' a w hR2 hI
      replace hR2 : spec_l9Good_L2 fu p i (fk + 1) k' = some out2 := hR2
      rw [spec_l9Good_L2] at hR2
      obtain ⟨hf, H⟩ := hI
      refine sq (sqz (pz 3 hf fun a hf => ?_))
      refine wl_end (then_n (ib hR2 hf (fun hc7 hR2 => ?_) fun hc7 hR2 => ?_))
      ·refine wp_skip (then_n (sq (wp_block (sq (dw [] 11 fun w hb => ?_)))))
       have H := H.keep hb
       refine zp 0 hf trivial fun a hf => ?_
       refine strT (H.lt_ [true] [] [] []) (fun w H => trivial) fun hS => ?_
       refine zS 1 [] rfl rfl rfl rfl hf hS (fun w H => rq_loadB hf H TF.ls35 0 rfl rfl rfl) fun a hf => ?_
       refine zp 2 hf hS fun a hf => ?_
       obtain ⟨e4, he4, hR2⟩ := bs_ hR2
       obtain ⟨p5, o4, cs4, hx4, hr4, H⟩ := pre_iaddr H Tryz.underlying35 TF.sz73 0 rfl he4
       refine zP 3 rfl rfl rfl rfl hf hS (fun w => rq_iaddrE hf rfl rfl rfl hx4 w) fun a hf => ?_
       obtain ⟨A7, c9, rfl, hl7⟩ := Light_cells hr4
       have H := H.pF hl7
       refine strT (H.lt_ [true] [] [] [1]) (fun w H => H.lt_ [true] [] [] []) fun hS => ?_
       refine zS 4 [] rfl rfl rfl rfl hf hS (fun w H => rq_loadIN hf H TF.la73 0 0 rfl rfl rfl rfl) fun a hf => ?_
       refine zp 5 hf hS fun a hf => ?_
       refine zS 6 [] rfl rfl rfl rfl hf hS (fun w H => rq_loadB hf H TF.ls35 0 rfl rfl rfl) fun a hf => ?_
       refine zp 7 hf hS fun a hf => ?_
       obtain ⟨e5, he5, hR2⟩ := bs_ hR2
       obtain ⟨p6, o5, cs5, hx5, hr5, H⟩ := pre_iaddr H Tryz.underlying35 TF.sz73 2 rfl he5
       refine zP 8 rfl rfl rfl rfl hf hS (fun w => rq_iaddrE hf rfl rfl rfl hx5 w) fun a hf => ?_
       obtain ⟨A8, c10, rfl, hl8⟩ := Light_cells hr5
       have H := H.pF hl8
       refine strT (H.lt_ [true] [] [] [1, 3]) (fun w H => H.lt_ [true] [] [] [1]) fun hS => ?_
       refine zS 9 [] rfl rfl rfl rfl hf hS (fun w H => rq_loadIN hf H TF.la73 0 0 rfl rfl rfl rfl) fun a hf => ?_
       obtain ⟨y3, hy3, hR2⟩ := bs_ hR2
       refine nn 10 rfl (oC hf TF.cl115 (spec_l9Collide_ok (S := TT) (Light_mkv (x := e4) (H.rt 2 rfl)) (Light_mkv (x := e5) (H.rt 0 rfl)) hy3) fun v3 w a hp3 hf => ?_)
       obtain ⟨hb3, hp3⟩ := hp3
       obtain rfl := VR_bool hp3
       have H := H.keep hb3
       have hS := H.lt_ [true] [] [] [1, 3]
       refine aS hS ?_
       refine dk ?_
       have hf := hf.pn [1, 3, 4, 66]
       refine then_n (ib hR2 hf (fun hc8 hR2 => ?_) fun hc8 hR2 => ?_)
       ·refine sqz (pz 1 hf fun a hf => ?_)
        refine wl_end (then_n (wp_ret (blk_r (then_r (then_r (blk_r (then_r (blk_r (then_r (then_r (blk_r (then_r (then_r (?_))))))))))))))
        obtain rfl := oi hR2
        replace hR1 := on_ret hR1
        obtain rfl := oi hR1
        replace hF := on_ret hF
        obtain rfl := oi hF
        refine rT hf ?_
        exact ⟨_, rfl, H.bel, mk_bool⟩
       ·refine wp_skip (blk_n (then_n (reg (pz 3 hf fun a hf => ?_))))
        refine wl_end ?_
        have hf := hf.pn [1, 3, 4]
        have H := H.lt_ [true] [] [] [4, 5, 6]
        exact then_n ⟨w64 (k' + 1), hR2, hf, H⟩
      ·refine wp_exit (then_x (then_x (blk_e (?_))))
       have hf := hf.pn [1, 3, 4]
       have H := H.lt_ [true] [] [] [0, 1, 2]
       exact ⟨k', (Option.some.inj hR2).symm, hf, H⟩
     rintro a w ⟨k2, rfl, hf, H⟩
     replace hR1 := on_next hR1
     refine blk_n (then_n (reg (pz 3 hf fun a hf => ?_)))
     refine wl_end ?_
     have hf := hf.pn [1, 3]
     have H := H.lt_ [true] [] [] [0, 1, 2]
     exact then_n ⟨w64 (i + 1), hR1, hf, H⟩
   ·refine wp_exit (then_x (then_x (blk_e (?_))))
    have hf := hf.pn [1, 3]
    have H := H.lt_ [true] [] [] [0, 1, 2]
    exact ⟨i, (Option.some.inj hR1).symm, hf, H⟩
  rintro a w ⟨i2, rfl, hf, H⟩
  replace hF := on_next hF
  refine then_n (sqz (pz 1 hf fun a hf => ?_))
  refine wer ?_
  obtain rfl := oi hF
  refine rT hf ?_
  exact ⟨_, rfl, H.bel, mk_bool⟩
theorem impl_isLight_ok {S : Nat → Prop} {v0_ : Value} {v1_ : Value} {n' : Network} {x1 : Light} {r : Bool} (h0 : VR w0 S v0_ n') (h1 : VR w0 S v1_ x1) (hF : impl_isLight fu n' x1 = some r) :
    Calls Tryz.prog 91 [v0_, v1_].toArray w0 fun e w' => ∃ v, e = .returned v ∧ (Below w0.heap.size w0 w' ∧ VR w' (St ⟨w0, []⟩ S [] [] [] true) v r) := by
 obtain ⟨A, c, A2, c2, rfl, hl, hl2⟩ := Network_open h0
 obtain ⟨A3, c3, rfl, hl3⟩ := Light_open h1
 have H := Mem.start ⟨w0, []⟩ S
 have H := H.pA hl
 have H := H.pA hl2
 have H := H.pA hl3
 refine en Tryz.func91 fun a hf => ?_
 rw [impl_isLight] at hF
 refine bx hf H fun b' a w hf H => ?_
 refine wl0 rfl (op_box hf H rfl rfl (by decide) fun b2 a w hf H => ?_)
 refine pz 1 hf fun a hf => ?_
 refine wr (lN 1 hf H TF.la34 fun a hf => ?_)
 refine pz 1 hf fun a hf => ?_
 refine lN 0 hf H TF.la59 fun a hf => ?_
 obtain ⟨y, hy, hF⟩ := bs_ hF
 refine oc hf TF.cl138 (impl_visited_ok (S := TT) (Network_mkv (x := n') (H.rt 2 rfl) (H.rt 1 rfl)) (Route_mkv (x := x1.Route) (H.rt 0 rfl)) hy) fun v w a hp hf => ?_
 obtain ⟨hb, F, v2, v3, rfl, hp2, hp3, hN⟩ := hp
 obtain ⟨A4, c4, rfl, hl4⟩ := VO_list hp2
 obtain rfl := VR_bool hp3
 have H := H.aO1 hb hN hl4
 have H := H.lend 0 rfl
 refine pz 5 hf fun a hf => ?_
 refine wl_end (then_n (sq ?_))
 obtain ⟨c5, hGc5, hF⟩ := bs_ hF
 have fh := hf.prune [] rfl
 have Hm := H.lt_ [false, false] [] [false] []
 refine midF 4 (.bool c5) fh Hm ?_ fun a w hf H => ?_
 ·refine reg (pz 2 hf fun a hf => ?_)
  refine iteB hGc5 (fun hc hGc5 => ?_) fun hc hGc5 => ?_
  ·have hf := hf.lit 15 rfl hc
   refine pz 1 hf fun a hf => ?_
   refine wlg hf rfl rfl rfl (op_q hf (rq_loadB hf H TF.ls3 0 rfl rfl rfl) rfl (by decide) fun a hf => ?_)
   obtain ⟨y2, hy2, hGc5⟩ := bs_ hGc5
   refine wlg hf rfl rfl rfl (oC hf TF.cl84 (impl_within_ok (S := TT) mk_int mk_int mk_int hy2) fun v4 w a hp4 hf => ?_)
   obtain ⟨hb2, hp4⟩ := hp4
   obtain rfl := VR_bool hp4
   have H := H.keep hb2
   refine pz 2 hf fun a hf => ?_
   refine iteB hGc5 (fun hc2 hGc5 => ?_) fun hc2 hGc5 => ?_
   ·have hf := hf.lit 20 rfl hc2
    refine pz 1 hf fun a hf => ?_
    refine wlg hf rfl rfl rfl (op_q hf (rq_loadBN hf H TF.la71 0 rfl rfl rfl rfl) rfl (by decide) fun a hf => ?_)
    obtain ⟨y3, hy3, hGc5⟩ := bs_ hGc5
    refine wlg hf rfl rfl rfl (oC hf TF.cl71 (impl_IsValidBlock_ok (S := TT) Block_mkv hy3) fun v5 w a hp5 hf => ?_)
    obtain ⟨hb3, hp5⟩ := hp5
    obtain rfl := VR_bool hp5
    have H := H.keep hb3
    refine pz 2 hf fun a hf => ?_
    obtain rfl := oi hGc5
    have hf := hf.pn [4]
    have H := H.lt_ [false, false] [] [false] []
    exact wl_end ⟨hf, H⟩
   ·have hf := hf.lit 20 rfl hc2
    refine pz 5 hf fun a hf => ?_
    obtain rfl := oi hGc5
    have hf := hf.pn [4]
    have H := H.lt_ [false, false] [] [false] []
    exact wl_end ⟨hf, H⟩
  ·have hf := hf.lit 15 rfl hc
   refine pz 10 hf fun a hf => ?_
   obtain rfl := oi hGc5
   have hf := hf.pn [4]
   have H := H.lt_ [false, false] [] [false] []
   exact wl_end ⟨hf, H⟩
 refine then_n (wp_ret (?_))
 obtain rfl := oi hF
 refine rT hf ?_
 exact ⟨_, rfl, H.bel, mk_bool⟩
theorem impl_collide_ok {S : Nat → Prop} {v0_ : Value} {v1_ : Value} {a' : Light} {b' : Light} {r : Bool} (h0 : VR w0 S v0_ a') (h1 : VR w0 S v1_ b') (hF : impl_collide fu a' b' = some r) :
    Calls Tryz.prog 94 [v0_, v1_].toArray w0 fun e w' => ∃ v, e = .returned v ∧ (Below w0.heap.size w0 w' ∧ VR w' (St ⟨w0, []⟩ S [] [] [] true) v r) := by
 obtain ⟨A, c, rfl, hl⟩ := Light_open h0
 obtain ⟨A2, c2, rfl, hl2⟩ := Light_open h1
 have H := Mem.start ⟨w0, []⟩ S
 have H := H.pA hl
 have H := H.pA hl2
 refine en Tryz.func94 fun a hf => ?_
 rw [impl_collide] at hF
 refine bx hf H fun b2 a w hf H => ?_
 refine wl0 rfl (op_box hf H rfl rfl (by decide) fun b3 a w hf H => ?_)
 refine pz 1 hf fun a hf => ?_
 refine wl_end (then_n (sq ?_))
 obtain ⟨c3, hGc3, hF⟩ := bs_ hF
 have fh := hf.prune [] rfl
 have Hm := H.lt_ [false, false] [] [] []
 refine midF 4 (.bool c3) fh Hm ?_ fun a w hf H => ?_
 ·refine dw [] 20 fun w hb => ?_
  have H := H.keep hb
  refine zp 0 hf trivial fun a hf => ?_
  refine strT (H.lt_ [false, true] [] [] []) (fun w H => trivial) fun hS => ?_
  refine zS 1 [] rfl rfl rfl rfl hf hS (fun w H => rq_loadBN hf H TF.la71 0 rfl rfl rfl rfl) fun a hf => ?_
  refine zp 3 hf hS fun a hf => ?_
  refine strT (H.lt_ [true, true] [] [] []) (fun w H => H.lt_ [false, true] [] [] []) fun hS => ?_
  refine zS 4 [] rfl rfl rfl rfl hf hS (fun w H => rq_loadBN hf H TF.la71 0 rfl rfl rfl rfl) fun a hf => ?_
  obtain ⟨y, hy, hGc3⟩ := bs_ hGc3
  refine nn 2 rfl (oC hf TF.cl144 (impl_maskOf_ok (S := TT) Block_mkv hy) fun v w a hp hf => ?_)
  obtain ⟨hb, hp⟩ := hp
  obtain rfl := VR_int hp
  have H := H.keep hb
  have hS := H.lt_ [true, true] [] [] []
  refine aS hS ?_
  obtain ⟨y2, hy2, hGc3⟩ := bs_ hGc3
  refine nn 5 rfl (oC hf TF.cl144 (impl_maskOf_ok (S := TT) Block_mkv hy2) fun v2 w a hp2 hf => ?_)
  obtain ⟨hb2, hp2⟩ := hp2
  obtain rfl := VR_int hp2
  have H := H.keep hb2
  have hS := H.lt_ [true, true] [] [] []
  refine aS hS ?_
  refine zp 6 hf hS fun a hf => ?_
  refine zp 7 hf hS fun a hf => ?_
  refine zp 8 hf hS fun a hf => ?_
  refine iteB hGc3 (fun hc hGc3 => ?_) fun hc hGc3 => ?_
  ·have hf := hf.lit 13 rfl hc
   refine zg 9 hf hS fun a hf => ?_
   refine zg 10 hf hS fun a hf => ?_
   refine tSg 11 [] rfl rfl rfl rfl rfl rfl hf (by kernel_rfl) (by kernel_rfl) hS (fun w H => rq_loadB hf H TF.ls47 1 rfl rfl rfl) fun a hf => ?_
   refine zg 12 hf hS fun a hf => ?_
   refine zg 13 hf hS fun a hf => ?_
   refine tSg 14 [] rfl rfl rfl rfl rfl rfl hf (by kernel_rfl) (by kernel_rfl) hS (fun w H => rq_loadB hf H TF.ls47 0 rfl rfl rfl) fun a hf => ?_
   obtain ⟨y3, hy3, hGc3⟩ := bs_ hGc3
   refine n1g 15 (by kernel_rfl) rfl rfl rfl rfl hf (oC hf TF.cl161 (impl_common_ok (S := TT) (mk_list (H.rt 1 rfl)) (mk_list (H.rt 0 rfl)) hy3) fun v3 w a hp3 hf => ?_)
   obtain ⟨hb3, hp3⟩ := hp3
   obtain ⟨A3, c4, rfl, hl3⟩ := VR_list hp3
   replace hl3 := H.rF hl3
   have H := H.keep hb3
   have H := H.pT hl3
   have hS := H.lt_ [true, true] [] [] []
   refine aS hS ?_
   refine zg 16 hf hS fun a hf => ?_
   refine zg 17 hf hS fun a hf => ?_
   refine zp 18 hf hS fun a hf => ?_
   refine zp 19 hf hS fun a hf => ?_
   refine dk ?_
   obtain rfl := oi hGc3
   have hf := hf.pn [4]
   have H := H.lt_ [false, false] [] [] []
   exact ⟨hf, H⟩
  ·have hf := hf.lit 13 rfl hc
   refine zU 9 hf hS fun a hf => ?_
   refine zU 10 hf hS fun a hf => ?_
   refine zU 11 hf hS fun a hf => ?_
   refine zU 12 hf hS fun a hf => ?_
   refine zU 13 hf hS fun a hf => ?_
   refine zU 14 hf hS fun a hf => ?_
   refine zU 15 hf hS fun a hf => ?_
   refine zU 16 hf hS fun a hf => ?_
   refine zU 17 hf hS fun a hf => ?_
   refine zp 18 hf hS fun a hf => ?_
   refine zp 19 hf hS fun a hf => ?_
   refine dk ?_
   obtain rfl := oi hGc3
   have hf := hf.pn [4]
   have H := H.lt_ [false, false] [] [] []
   exact ⟨hf, H⟩
 refine then_n (wp_ret (?_))
 obtain rfl := oi hF
 refine rT hf ?_
 exact ⟨_, rfl, H.bel, mk_bool⟩
theorem impl_IsValidPlan_c1_ok {S : Nat → Prop} {v0_ : Value} {b1 o1 : Nat} {cs1 : List Value} {own : Light} {cap : Light} {r : Bool} (h0 : VR w0 S v0_ own) (hp1 : (MP.cells ⟨b1, o1, none⟩ cs1).pred w0 S) (hr1 : GoTy.rep w0 S cs1 cap) (hF : impl_IsValidPlan_c1 fu own cap = some r) :
    Calls Tryz.prog 93 [v0_, (.pointer (some ⟨b1, o1, none⟩))].toArray w0 fun e w' => ∃ v, e = .returned v ∧ (Below w0.heap.size w0 w' ∧ VR w' (St ⟨w0, []⟩ S [] [] [] true) v r) := by
 obtain ⟨A, c, rfl, hl⟩ := Light_open h0
 obtain ⟨A2, c2, rfl, hl2⟩ := Light_cells hr1
 have H := Mem.start ⟨w0, []⟩ S
 have H := H.pA hl
 have H := H.pA hl2
 have H := H.pushArg (MP.cells ⟨b1, o1, none⟩ [(.int .i64 cap.Id), (.int .i64 cap.Route.Start), (.slice A2 cap.Route.Fibers.length c2), (.int .i64 cap.Block.First), (.int .i64 cap.Block.Count)]) hp1
 refine en Tryz.func93 fun a hf => ?_
 rw [impl_IsValidPlan_c1] at hF
 refine bx hf H fun b3 a w hf H => ?_
 refine pz 1 hf fun a hf => ?_
 refine wr (lN 0 hf H TF.la73 fun a hf => ?_)
 refine oq hf (rq_loadIN hf H TF.la73 0 0 rfl rfl rfl rfl) fun a hf => ?_
 obtain ⟨y, hy, hF⟩ := bs_ hF
 refine oc hf TF.cl94 (impl_collide_ok (S := TT) (Light_mkv (x := own) (H.rt 2 rfl)) (Light_mkv (x := cap) (H.rt 1 rfl)) hy) fun v w a hp3 hf => ?_
 obtain ⟨hb, hp3⟩ := hp3
 obtain rfl := VR_bool hp3
 have H := H.keep hb
 refine pz 1 hf fun a hf => ?_
 refine wer ?_
 obtain rfl := oi hF
 refine rT hf ?_
 exact ⟨_, rfl, H.bel, mk_bool⟩
theorem slices_IndexFunc_impl_Light_impl_Light_of_IsValidPlan_c1_ok {S : Nat → Prop} {v0_ : Value} {b1_0 o1_0 : Nat} {cs1_0 : List Value} {s' : List Light} {cap : Light} {r : Int} (h0 : VR w0 S v0_ s') (hp1_0 : (MP.cells ⟨b1_0, o1_0, none⟩ cs1_0).pred w0 S) (hr1_0 : GoTy.rep w0 S cs1_0 cap) (hF : slices_IndexFunc_impl_Light_impl_Light_of_IsValidPlan_c1 fu s' cap = some r) :
    Calls Tryz.prog 160 [v0_, (.func (.func 93) #[] #[(.pointer (some ⟨b1_0, o1_0, none⟩))])].toArray w0 fun e w' => ∃ v, e = .returned v ∧ (Below w0.heap.size w0 w' ∧ VR w' (St ⟨w0, []⟩ S [] [] [] true) v r) := by
 obtain ⟨A, c, rfl, hl⟩ := VR_list h0
 obtain ⟨A2, c2, rfl, hl2⟩ := Light_cells hr1_0
 have H := Mem.start ⟨w0, []⟩ S
 have H := H.pA hl
 have H := H.pA hl2
 have H := H.pushArg (MP.cells ⟨b1_0, o1_0, none⟩ [(.int .i64 cap.Id), (.int .i64 cap.Route.Start), (.slice A2 cap.Route.Fibers.length c2), (.int .i64 cap.Block.First), (.int .i64 cap.Block.Count)]) hp1_0
 refine en Tryz.func160 fun a hf => ?_
 rw [slices_IndexFunc_impl_Light_impl_Light_of_IsValidPlan_c1] at hF
 refine sqz (pz 1 hf fun a hf => ?_)
 refine we (sqz (pz 3 hf fun a hf => ?_))
 refine wl_end (then_n ?_)
 obtain ⟨out', hB1, hF⟩ := bs_ hF
 have hf := hf.pn [0, 1, 7, 8]
 have H := H.lt_ [] [] [] [0, 1, 2]
 refine loopC (fun (s : Int) (a : Act) (w : World) => match s with | i => Fr a 19 [(0, (.slice A s'.length c)), (1, (.func (.func 93) #[] #[(.pointer (some ⟨b1_0, o1_0 + 0, none⟩))])), (7, (.int .i64 (s'.length : Int))), (8, (.int .i64 i))] ∧ Mem ⟨w0, []⟩ S [] [] [] [(false, MP.cells ⟨b1_0, o1_0, none⟩ [(.int .i64 cap.Id), (.int .i64 cap.Route.Start), (.slice A2 cap.Route.Fibers.length c2), (.int .i64 cap.Block.First), (.int .i64 cap.Block.Count)]), (false, MP.val [(.slice A2 cap.Route.Fibers.length c2)] (cap.Route.Fibers : List Int)), (false, MP.val [(.slice A s'.length c)] (s' : List Light))] w) (fun k (s : Int) => slices_IndexFunc_impl_Light_impl_Light_of_IsValidPlan_c1_L1 fu s' cap k s = some out') (fun s => out' = Out.next s) 0 fu hB1 ⟨hf, H⟩ (fun s h => by cases h) ?_ ?_
 ·rintro fk i a w hR1 hI
  replace hR1 : slices_IndexFunc_impl_Light_impl_Light_of_IsValidPlan_c1_L1 fu s' cap (fk + 1) i = some out' := hR1
  rw [slices_IndexFunc_impl_Light_impl_Light_of_IsValidPlan_c1_L1] at hR1
  obtain ⟨hf, H⟩ := hI
  refine sqz (pz 1 hf fun a hf => ?_)
  refine wl_end (then_n (sq (ib hR1 hf (fun hc hR1 => ?_) fun hc hR1 => ?_)))
  ·refine ws (pz 2 hf fun a hf => ?_)
   refine wr (pz 3 hf fun a hf => ?_)
   obtain ⟨e, he, hR1⟩ := bs_ hR1
   refine wl0 rfl (op_iaddr hf H Tryz.underlying35 TF.sz73 2 rfl rfl rfl he (by decide) fun p o3 cs3 a hf hr3 H => ?_)
   obtain ⟨A3, c3, rfl, hl3⟩ := Light_cells hr3
   have H := H.pF hl3
   refine oq hf (rq_loadIN hf H TF.la73 1 0 rfl rfl rfl rfl) fun a hf => ?_
   obtain ⟨y, hy, hR1⟩ := bs_ hR1
   refine wl0 rfl (op_callV hf TF.cl93 rfl rfl (by decide) (impl_IsValidPlan_c1_ok (S := TT) (Light_mkv (x := e) (H.rt 0 rfl)) (mp_true (H.get 2 rfl)) ((Light_mk (x := cap) (H.rt 3 rfl))) hy) fun v w a hp3 hf => ?_)
   obtain ⟨hb, hp3⟩ := hp3
   obtain rfl := VR_bool hp3
   have H := H.keep hb
   refine wl_end (then_n (ib hR1 hf (fun hc2 hR1 => ?_) fun hc2 hR1 => ?_))
   ·refine sqz (pz 2 hf fun a hf => ?_)
    have hf := hf.pn [4]
    refine wl_end (then_n (wp_ret (blk_r (then_r (then_r (blk_r (then_r (then_r (?_)))))))))
    obtain rfl := oi hR1
    replace hF := on_ret hF
    obtain rfl := oi hF
    refine rT hf ?_
    exact ⟨_, rfl, H.bel, mk_int⟩
   ·refine wp_skip (blk_n (then_n (reg (pz 2 hf fun a hf => ?_))))
    refine wl_end ?_
    have hf := hf.pn [0, 1, 7, 8]
    have H := H.lt_ [] [] [] [2, 3, 4]
    exact then_n ⟨w64 (i + 1), hR1, hf, H⟩
  ·refine wp_exit (then_x (then_x (blk_e (?_))))
   have hf := hf.pn [0, 1, 7, 8]
   have H := H.lt_ [] [] [] [0, 1, 2]
   exact ⟨i, (Option.some.inj hR1).symm, hf, H⟩
 rintro a w ⟨i2, rfl, hf, H⟩
 replace hF := on_next hF
 refine then_n (sqz (pz 1 hf fun a hf => ?_))
 refine wer ?_
 obtain rfl := oi hF
 refine rT hf ?_
 exact ⟨_, rfl, H.bel, mk_int⟩
theorem slices_ContainsFunc_impl_Light_impl_Light_of_IsValidPlan_c1_ok {S : Nat → Prop} {v0_ : Value} {b1_0 o1_0 : Nat} {cs1_0 : List Value} {s' : List Light} {cap : Light} {r : Bool} (h0 : VR w0 S v0_ s') (hp1_0 : (MP.cells ⟨b1_0, o1_0, none⟩ cs1_0).pred w0 S) (hr1_0 : GoTy.rep w0 S cs1_0 cap) (hF : slices_ContainsFunc_impl_Light_impl_Light_of_IsValidPlan_c1 fu s' cap = some r) :
    Calls Tryz.prog 92 [v0_, (.func (.func 93) #[] #[(.pointer (some ⟨b1_0, o1_0, none⟩))])].toArray w0 fun e w' => ∃ v, e = .returned v ∧ (Below w0.heap.size w0 w' ∧ VR w' (St ⟨w0, []⟩ S [] [] [] true) v r) := by
 obtain ⟨A, c, rfl, hl⟩ := VR_list h0
 obtain ⟨A2, c2, rfl, hl2⟩ := Light_cells hr1_0
 have H := Mem.start ⟨w0, []⟩ S
 have H := H.pA hl
 have H := H.pA hl2
 have H := H.pushArg (MP.cells ⟨b1_0, o1_0, none⟩ [(.int .i64 cap.Id), (.int .i64 cap.Route.Start), (.slice A2 cap.Route.Fibers.length c2), (.int .i64 cap.Block.First), (.int .i64 cap.Block.Count)]) hp1_0
 refine en Tryz.func92 fun a hf => ?_
 rw [slices_ContainsFunc_impl_Light_impl_Light_of_IsValidPlan_c1] at hF
 refine sqz (pz 1 hf fun a hf => ?_)
 refine wr (pz 2 hf fun a hf => ?_)
 obtain ⟨y, hy, hF⟩ := bs_ hF
 refine oc hf TF.cl160 (slices_IndexFunc_impl_Light_impl_Light_of_IsValidPlan_c1_ok (S := TT) (mk_list (H.rt 2 rfl)) (mp_true (H.get 0 rfl)) ((Light_mk (x := cap) (H.rt 1 rfl))) hy) fun v w a hp3 hf => ?_
 obtain ⟨hb, hp3⟩ := hp3
 obtain rfl := VR_int hp3
 have H := H.keep hb
 refine pz 2 hf fun a hf => ?_
 refine wer ?_
 obtain rfl := oi hF
 refine rT hf ?_
 exact ⟨_, rfl, H.bel, mk_bool⟩
theorem impl_IsValidPlan_ok {S : Nat → Prop} {v0_ : Value} {p : Plan} {r : Bool} (h0 : VR w0 S v0_ p) (hF : impl_IsValidPlan fu p = some r) :
    Calls Tryz.prog 34 [v0_].toArray w0 fun e w' => ∃ v, e = .returned v ∧ (Below w0.heap.size w0 w' ∧ VR w' (St ⟨w0, []⟩ S [] [] [] true) v r) := by
 obtain ⟨A, c, A2, c2, A3, c3, rfl, hl, hl2, hl3⟩ := Plan_open h0
 have H := Mem.start ⟨w0, []⟩ S
 have H := H.pA hl
 have H := H.pA hl2
 have H := H.pA hl3
 refine en Tryz.func34 fun a hf => ?_
 rw [impl_IsValidPlan] at hF
 refine bx hf H fun b' a w hf H => ?_
 refine pz 1 hf fun a hf => ?_
 refine wl_end (then_n (sq (sq ?_)))
 obtain ⟨c4, hGc4, hF⟩ := bs_ hF
 have fh := hf.prune [1] rfl
 have Hm := H.lt_ [true] [] [] [0, 1, 2]
 refine midF 14 (.bool c4) fh Hm ?_ fun a w hf H => ?_
 ·refine reg (pz 1 hf fun a hf => ?_)
  refine lN 0 hf H TF.la34 fun a hf => ?_
  obtain ⟨y, hy, hGc4⟩ := bs_ hGc4
  refine oc hf TF.cl90 (impl_IsValidNetwork_ok (S := TT) (Network_mkv (x := p.Network) (H.rt 2 rfl) (H.rt 1 rfl)) hy) fun v w a hp hf => ?_
  obtain ⟨hb, hp⟩ := hp
  obtain rfl := VR_bool hp
  have H := H.keep hb
  refine pz 2 hf fun a hf => ?_
  refine iteB hGc4 (fun hc hGc4 => ?_) fun hc hGc4 => ?_
  ·have hf := hf.lit 9 rfl hc
   refine pz 5 hf fun a hf => ?_
   obtain rfl := oi hGc4
   have hf := hf.pn [14, 1]
   have H := H.lt_ [true] [] [] [0, 1, 2]
   exact wl_end ⟨hf, H⟩
  ·have hf := hf.lit 9 rfl hc
   refine pz 1 hf fun a hf => ?_
   refine wlg hf rfl rfl rfl (op_q hf (rq_loadB hf H TF.ls35 0 rfl rfl rfl) rfl (by decide) fun a hf => ?_)
   refine pz 3 hf fun a hf => ?_
   obtain rfl := oi hGc4
   have hf := hf.pn [14, 1]
   have H := H.lt_ [true] [] [] [0, 1, 2]
   exact wl_end ⟨hf, H⟩
 refine then_n (ib hF hf (fun hc2 hF => ?_) fun hc2 hF => ?_)
 ·refine sqz (pz 1 hf fun a hf => ?_)
  refine wl_end (then_n (wp_ret (then_r (?_))))
  obtain rfl := oi hF
  refine rT hf ?_
  exact ⟨_, rfl, H.bel, mk_bool⟩
 ·refine wp_skip (then_n (sq (sqz (pz 1 hf fun a hf => ?_))))
  refine lB 0 hf H TF.ls35 fun a hf => ?_
  refine pz 2 hf fun a hf => ?_
  refine wl_end (then_n ?_)
  obtain ⟨out', hB1, hF⟩ := bs_ hF
  have hf := hf.pn [1, 16, 17, 18]
  have H := H.lt_ [true] [] [] [0, 1, 2]
  refine loopC (fun (s : Int) (a : Act) (w : World) => match s with | i => Fr a 53 [(1, (.pointer (some ⟨b', 0, none⟩))), (16, (.slice A3 p.Lights.length c3)), (17, (.int .i64 (p.Lights.length : Int))), (18, (.int .i64 i))] ∧ Mem ⟨w0, []⟩ S [⟨b', 37, [(.slice A p.Network.Nodes.length c), (.slice A2 p.Network.Fibers.length c2), (.slice A3 p.Lights.length c3)]⟩] [] [] [(false, MP.val [(.slice A3 p.Lights.length c3)] (p.Lights : List Light)), (false, MP.val [(.slice A2 p.Network.Fibers.length c2)] (p.Network.Fibers : List Fiber)), (false, MP.val [(.slice A p.Network.Nodes.length c)] (p.Network.Nodes : List ByteArray))] w) (fun k (s : Int) => impl_IsValidPlan_L1 fu p k s = some out') (fun s => out' = Out.next s) 0 fu hB1 ⟨hf, H⟩ (fun s h => by cases h) ?_ ?_
  ·rintro fk i a w hR1 hI
   replace hR1 : impl_IsValidPlan_L1 fu p (fk + 1) i = some out' := hR1
   rw [impl_IsValidPlan_L1] at hR1
   obtain ⟨hf, H⟩ := hI
   refine sqz (pz 1 hf fun a hf => ?_)
   refine wl_end (then_n (sq (ib hR1 hf (fun hc3 hR1 => ?_) fun hc3 hR1 => ?_)))
   ·refine ws (pz 1 hf fun a hf => ?_)
    obtain ⟨e, he, hR1⟩ := bs_ hR1
    refine wl0 rfl (op_iaddr hf H Tryz.underlying35 TF.sz73 0 rfl rfl rfl he (by decide) fun p2 o cs a hf hr H => ?_)
    obtain ⟨A4, c5, rfl, hl4⟩ := Light_cells hr
    have H := H.pF hl4
    refine oq hf (rq_loadIN hf H TF.la73 1 0 rfl rfl rfl rfl) fun a hf => ?_
    refine aL hf H TF.zv73 fun b2 a w hf H => ?_
    refine pz 1 hf fun a hf => ?_
    refine sB 0 hf H TF.sz73 fun w H => ?_
    refine wl_end (then_n (sq ?_))
    obtain ⟨c6, hGc6, hR1⟩ := bs_ hR1
    have fh2 := hf.prune [1, 16, 17, 18] rfl
    have Hm2 := H.lt_ [false, true] [] [] [2, 3, 4]
    refine midF 51 (.bool c6) fh2 Hm2 ?_ fun a w hf H => ?_
    ·refine dw [] 29 fun w hb => ?_
     have H := H.keep hb
     refine zp 0 hf trivial fun a hf => ?_
     refine strT (H.lt_ [false, true] [] [] []) (fun w H => trivial) fun hS => ?_
     refine zS 1 [] rfl rfl rfl rfl hf hS (fun w H => rq_loadBN hf H TF.la34 0 rfl rfl rfl rfl) fun a hf => ?_
     refine strT (H.lt_ [true, true] [] [] []) (fun w H => H.lt_ [false, true] [] [] []) fun hS => ?_
     refine zS 2 [] rfl rfl rfl rfl hf hS (fun w H => rq_loadBN hf H TF.la73 0 rfl rfl rfl rfl) fun a hf => ?_
     obtain ⟨y2, hy2, hGc6⟩ := bs_ hGc6
     refine nn 3 rfl (oC hf TF.cl91 (impl_isLight_ok (S := TT) (Network_mkv (x := p.Network) (H.rt 4 rfl) (H.rt 3 rfl)) (Light_mkv (x := e) (H.rt 0 rfl)) hy2) fun v2 w a hp2 hf => ?_)
     obtain ⟨hb2, hp2⟩ := hp2
     obtain rfl := VR_bool hp2
     have H := H.keep hb2
     have hS := H.lt_ [true, true] [] [] []
     refine aS hS ?_
     refine zp 4 hf hS fun a hf => ?_
     refine zp 5 hf hS fun a hf => ?_
     refine iteB hGc6 (fun hc4 hGc6 => ?_) fun hc4 hGc6 => ?_
     ·have hf := hf.lit 28 rfl hc4
      refine zU 6 hf hS fun a hf => ?_
      refine zU 7 hf hS fun a hf => ?_
      refine zU 8 hf hS fun a hf => ?_
      refine zV 9 hf hS fun a hf => ?_
      refine zV 10 hf hS fun a hf => ?_
      refine zV 11 hf hS fun a hf => ?_
      refine zV 12 hf hS fun a hf => ?_
      refine zV 13 hf hS fun a hf => ?_
      refine zV 14 hf hS fun a hf => ?_
      refine zV 15 hf hS fun a hf => ?_
      refine zV 16 hf hS fun a hf => ?_
      refine zV 17 hf hS fun a hf => ?_
      refine zV 18 hf hS fun a hf => ?_
      refine zU 19 hf hS fun a hf => ?_
      refine zp 20 hf hS fun a hf => ?_
      refine zp 21 hf hS fun a hf => ?_
      refine zU 22 hf hS fun a hf => ?_
      refine zU 23 hf hS fun a hf => ?_
      refine zU 24 hf hS fun a hf => ?_
      refine zU 25 hf hS fun a hf => ?_
      refine zU 26 hf hS fun a hf => ?_
      refine zU 27 hf hS fun a hf => ?_
      refine zp 28 hf hS fun a hf => ?_
      refine dk ?_
      obtain rfl := oi hGc6
      have hf := hf.pn [51, 1, 16, 17, 18]
      have H := H.lt_ [false, true] [] [] [2, 3, 4]
      exact ⟨hf, H⟩
     ·have hf := hf.lit 28 rfl hc4
      refine zg 6 hf hS fun a hf => ?_
      refine zg 7 hf hS fun a hf => ?_
      refine zg 8 hf hS fun a hf => ?_
      refine iteB hGc6 (fun hc5 hGc6 => ?_) fun hc5 hGc6 => ?_
      ·have hf := hf.lit 31 rfl hc5
       refine zg 9 hf hS fun a hf => ?_
       refine tSg 10 [] rfl rfl rfl rfl rfl rfl hf (by kernel_rfl) (by kernel_rfl) hS (fun w H => rq_loadB hf H TF.ls35 1 rfl rfl rfl) fun a hf => ?_
       refine zg 11 hf hS fun a hf => ?_
       refine zg 12 hf hS fun a hf => ?_
       obtain ⟨e2, he2, hGc6⟩ := bs_ hGc6
       obtain ⟨p3, o2, cs2, hx, hr2, H⟩ := pre_iaddr H Tryz.underlying35 TF.sz73 2 rfl he2
       refine tPg 13 rfl rfl rfl rfl rfl rfl hf (by kernel_rfl) (fun _ => hS) (fun w => rq_iaddrE hf rfl rfl rfl hx w) fun a hf => ?_
       obtain ⟨A5, c7, rfl, hl5⟩ := Light_cells hr2
       have H := H.pF hl5
       refine zg 14 hf hS fun a hf => ?_
       refine strT (H.lt_ [true, true] [] [] [1]) (fun w H => H.lt_ [true, true] [] [] []) fun hS => ?_
       refine tSg 15 [] rfl rfl rfl rfl rfl rfl hf (by kernel_rfl) (by kernel_rfl) hS (fun w H => rq_loadI hf H TF.ls3 0 0 rfl rfl rfl) fun a hf => ?_
       refine zg 16 hf hS fun a hf => ?_
       refine tSg 17 [] rfl rfl rfl rfl rfl rfl hf (by kernel_rfl) (by kernel_rfl) hS (fun w H => rq_loadB hf H TF.ls3 0 rfl rfl rfl) fun a hf => ?_
       refine zg 18 hf hS fun a hf => ?_
       refine zg 19 hf hS fun a hf => ?_
       refine zp 20 hf hS fun a hf => ?_
       refine zp 21 hf hS fun a hf => ?_
       refine iteB hGc6 (fun hc6 hGc6 => ?_) fun hc6 hGc6 => ?_
       ·have hf := hf.lit 44 rfl hc6
        refine zU 22 hf hS fun a hf => ?_
        refine zU 23 hf hS fun a hf => ?_
        refine zU 24 hf hS fun a hf => ?_
        refine zU 25 hf hS fun a hf => ?_
        refine zU 26 hf hS fun a hf => ?_
        refine zU 27 hf hS fun a hf => ?_
        refine zp 28 hf hS fun a hf => ?_
        refine dk ?_
        obtain rfl := oi hGc6
        have hf := hf.pn [51, 1, 16, 17, 18]
        have H := H.lt_ [false, true] [] [] [4, 5, 6]
        exact ⟨hf, H⟩
       ·have hf := hf.lit 44 rfl hc6
        refine zg 22 hf hS fun a hf => ?_
        refine tSg 23 [] rfl rfl rfl rfl rfl rfl hf (by kernel_rfl) (by kernel_rfl) hS (fun w H => rq_loadB hf H TF.ls35 1 rfl rfl rfl) fun a hf => ?_
        refine zg 24 hf hS fun a hf => ?_
        obtain ⟨l, hl_, hGc6⟩ := bs_ hGc6
        obtain ⟨A6, c8, hx2, H⟩ := pre_slice H Tryz.underlying35 TF.sz73 4 (lov := none) (hiv := some (.int .i64 i)) (.inl ⟨rfl, rfl⟩) (.inr rfl) rfl hl_
        refine tPg 25 rfl rfl rfl rfl rfl rfl hf (by kernel_rfl) (fun _ => hS) (fun w => rq_sliceE hf rfl rfl rfl hx2 w) fun a hf => ?_
        refine n1g 26 (by kernel_rfl) rfl rfl rfl rfl hf (op_q hf (rq_makeFunc hf rfl) rfl (by decide) fun a hf => ?_)
        have hS := H.lt_ [true, true] [] [] [2]
        refine aS hS ?_
        obtain ⟨y3, hy3, hGc6⟩ := bs_ hGc6
        refine n1g 27 (by kernel_rfl) rfl rfl rfl rfl hf (oC hf TF.cl92 (slices_ContainsFunc_impl_Light_impl_Light_of_IsValidPlan_c1_ok (S := TT) (mk_list (H.rt 0 rfl)) (H.boxTrue 0 rfl) ((Light_mk (x := e) (H.rt 3 rfl))) hy3) fun v3 w a hp3 hf => ?_)
        obtain ⟨hb3, hp3⟩ := hp3
        obtain rfl := VR_bool hp3
        have H := H.keep hb3
        have hS := H.lt_ [true, true] [] [] [2]
        refine aS hS ?_
        refine zp 28 hf hS fun a hf => ?_
        refine dk ?_
        obtain rfl := oi hGc6
        have hf := hf.pn [51, 1, 16, 17, 18]
        have H := H.lt_ [false, true] [] [] [5, 6, 7]
        exact ⟨hf, H⟩
      ·have hf := hf.lit 31 rfl hc5
       refine zU 9 hf hS fun a hf => ?_
       refine zU 10 hf hS fun a hf => ?_
       refine zU 11 hf hS fun a hf => ?_
       refine zU 12 hf hS fun a hf => ?_
       refine zU 13 hf hS fun a hf => ?_
       refine zU 14 hf hS fun a hf => ?_
       refine zU 15 hf hS fun a hf => ?_
       refine zU 16 hf hS fun a hf => ?_
       refine zU 17 hf hS fun a hf => ?_
       refine zU 18 hf hS fun a hf => ?_
       refine zg 19 hf hS fun a hf => ?_
       refine zp 20 hf hS fun a hf => ?_
       refine zp 21 hf hS fun a hf => ?_
       refine zg 22 hf hS fun a hf => ?_
       refine tSg 23 [] rfl rfl rfl rfl rfl rfl hf (by kernel_rfl) (by kernel_rfl) hS (fun w H => rq_loadB hf H TF.ls35 1 rfl rfl rfl) fun a hf => ?_
       refine zg 24 hf hS fun a hf => ?_
       obtain ⟨l2, hl2_, hGc6⟩ := bs_ hGc6
       obtain ⟨A7, c9, hx3, H⟩ := pre_slice H Tryz.underlying35 TF.sz73 2 (lov := none) (hiv := some (.int .i64 i)) (.inl ⟨rfl, rfl⟩) (.inr rfl) rfl hl2_
       refine tPg 25 rfl rfl rfl rfl rfl rfl hf (by kernel_rfl) (fun _ => hS) (fun w => rq_sliceE hf rfl rfl rfl hx3 w) fun a hf => ?_
       refine n1g 26 (by kernel_rfl) rfl rfl rfl rfl hf (op_q hf (rq_makeFunc hf rfl) rfl (by decide) fun a hf => ?_)
       have hS := H.lt_ [true, true] [] [] []
       refine aS hS ?_
       obtain ⟨y4, hy4, hGc6⟩ := bs_ hGc6
       refine n1g 27 (by kernel_rfl) rfl rfl rfl rfl hf (oC hf TF.cl92 (slices_ContainsFunc_impl_Light_impl_Light_of_IsValidPlan_c1_ok (S := TT) (mk_list (H.rt 0 rfl)) (H.boxTrue 0 rfl) ((Light_mk (x := e) (H.rt 1 rfl))) hy4) fun v4 w a hp4 hf => ?_)
       obtain ⟨hb4, hp4⟩ := hp4
       obtain rfl := VR_bool hp4
       have H := H.keep hb4
       have hS := H.lt_ [true, true] [] [] []
       refine aS hS ?_
       refine zp 28 hf hS fun a hf => ?_
       refine dk ?_
       obtain rfl := oi hGc6
       have hf := hf.pn [51, 1, 16, 17, 18]
       have H := H.lt_ [false, true] [] [] [3, 4, 5]
       exact ⟨hf, H⟩
    refine then_n (ib hR1 hf (fun hc7 hR1 => ?_) fun hc7 hR1 => ?_)
    ·refine sqz (pz 1 hf fun a hf => ?_)
     refine wl_end (then_n (wp_ret (blk_r (then_r (then_r (blk_r (then_r (then_r (?_)))))))))
     obtain rfl := oi hR1
     replace hF := on_ret hF
     obtain rfl := oi hF
     refine rT hf ?_
     exact ⟨_, rfl, H.bel, mk_bool⟩
    ·refine wp_skip (blk_n (then_n (reg (pz 2 hf fun a hf => ?_))))
     refine wl_end ?_
     have hf := hf.pn [1, 16, 17, 18]
     have H := H.lt_ [true] [] [] [0, 1, 2]
     exact then_n ⟨w64 (i + 1), hR1, hf, H⟩
   ·refine wp_exit (then_x (then_x (blk_e (?_))))
    have hf := hf.pn [1, 16, 17, 18]
    have H := H.lt_ [true] [] [] [0, 1, 2]
    exact ⟨i, (Option.some.inj hR1).symm, hf, H⟩
  rintro a w ⟨i2, rfl, hf, H⟩
  replace hF := on_next hF
  refine then_n (sqz (pz 1 hf fun a hf => ?_))
  refine wer ?_
  obtain rfl := oi hF
  refine rT hf ?_
  exact ⟨_, rfl, H.bel, mk_bool⟩
theorem impl_requestsOf_ok {S : Nat → Prop} {v0_ : Value} {p : Plan} {r : List Request} (h0 : VR w0 S v0_ p) (hF : impl_requestsOf fu p = some r) :
    Calls Tryz.prog 54 [v0_].toArray w0 fun e w' => ∃ v, e = .returned v ∧ (Below w0.heap.size w0 w' ∧ VR w' (St ⟨w0, []⟩ S [] [] [] false) v r) := by
 obtain ⟨A, c, A2, c2, A3, c3, rfl, hl, hl2, hl3⟩ := Plan_open h0
 have H := Mem.start ⟨w0, []⟩ S
 have H := H.pA hl
 have H := H.pA hl2
 have H := H.pA hl3
 refine en Tryz.func54 fun a hf => ?_
 rw [impl_requestsOf] at hF
 refine bx hf H fun b' a w hf H => ?_
 refine pz 1 hf fun a hf => ?_
 refine wr (wl0 rfl (bl hf H 61 ([] : List Request) [] el0 fun A4 a w hf H => ?_))
 refine pz 1 hf fun a hf => ?_
 refine we (sqz (pz 1 hf fun a hf => ?_))
 refine lB 0 hf H TF.ls35 fun a hf => ?_
 refine pz 2 hf fun a hf => ?_
 refine wl_end (then_n ?_)
 have H := H.rowWeak 0 rfl
 obtain ⟨out2, hB1, hF⟩ := bs_ hF
 have hf := hf.pn [3, 8, 9, 10]
 have H := H.lt_ [false] [true] [] [0]
 refine loopC (fun (s : List Request × Int) (a : Act) (w : World) => match s with | (out', i) => ∃ (A5 : Option Addr) (c4 : Nat) (E : Go.TypeId), Fr a 25 [(3, (.slice A5 out'.length c4)), (8, (.slice A3 p.Lights.length c3)), (9, (.int .i64 (p.Lights.length : Int))), (10, (.int .i64 i))] ∧ Mem ⟨w0, []⟩ S [] [⟨.sh false, E, A5, c4, (out' : List Request)⟩] [] [(false, MP.val [(.slice A3 p.Lights.length c3)] (p.Lights : List Light))] w) (fun k (s : List Request × Int) => impl_requestsOf_L1 fu p k s.1 s.2 = some out2) (fun s => out2 = s) (([] : List Request), 0) fu hB1 ⟨A4, 0, 61, hf, H⟩ (fun s h => by cases h) ?_ ?_
 ·rintro fk ⟨out', i⟩ a w hR1 hI
  replace hR1 : impl_requestsOf_L1 fu p (fk + 1) out' i = some out2 := hR1
  rw [impl_requestsOf_L1] at hR1
  obtain ⟨A5, c4, E, hf, H⟩ := hI
  refine sqz (pz 1 hf fun a hf => ?_)
  refine wl_end (then_n (sq (ib hR1 hf (fun hc hR1 => ?_) fun hc hR1 => ?_)))
  ·refine wp_skip (then_n (sq (wp_block (sq (reg ?_)))))
   obtain ⟨e, he, hR1⟩ := bs_ hR1
   refine wl0 rfl (op_iaddr hf H Tryz.underlying35 TF.sz73 0 rfl rfl rfl he (by decide) fun p2 o cs a hf hr H => ?_)
   obtain ⟨A6, c5, rfl, hl4⟩ := Light_cells hr
   have H := H.pF hl4
   refine oq hf (rq_loadIN hf H TF.la73 1 0 rfl rfl rfl rfl) fun a hf => ?_
   refine aL hf H TF.zv73 fun b2 a w hf H => ?_
   refine sB 0 hf H TF.sz73 fun w H => ?_
   refine wl_end (then_n (reg (pz 2 hf fun a hf => ?_)))
   refine lN 0 hf H TF.la59 fun a hf => ?_
   refine pz 2 hf fun a hf => ?_
   refine lB 0 hf H TF.ls3 fun a hf => ?_
   refine oq hf (rq_build hf (cs := [(.int .i64 e.Route.Start), (.slice A6 e.Route.Fibers.length c5), (.int .i64 e.Block.Count)]) rfl (fun w => by kernel_rfl)) fun a hf => ?_
   refine wl0 rfl (op_bslice hf H (.sh false) rfl 61 ([({ Route := e.Route, Count := e.Block.Count } : Request)] : List Request) [(.int .i64 e.Route.Start), (.slice A6 e.Route.Fibers.length c5), (.int .i64 e.Block.Count)] rfl (fun w => by kernel_rfl) rfl (by decide) rfl trivial (el1 (y := ({ Route := e.Route, Count := e.Block.Count } : Request)) ((Request_mk (x := ({ Route := e.Route, Count := e.Block.Count } : Request)) (H.get 0 rfl)))) (by decide) fun A7 a w hf H => ?_)
   obtain ⟨l, hl_, hR1⟩ := bs_ hR1
   refine wl0 rfl (op_appR hf H Tryz.underlying46 TF.ai61 rfl (by decide) 1 0 rfl rfl rfl rfl (.inl rfl) hl_ (by decide) fun E2 A8 c6 a w hf H => ?_)
   refine pz 1 hf fun a hf => ?_
   have hf := hf.pn [3, 8, 9, 10]
   refine wl_end (blk_n (then_n (reg (pz 2 hf fun a hf => ?_))))
   refine wl_end ?_
   have hf := hf.pn [3, 8, 9, 10]
   have H := H.lt_ [false] [false, true] [] [2]
   exact then_n ⟨(l, w64 (i + 1)), hR1, A8, c6, E2, hf, H⟩
  ·refine wp_exit (then_x (then_x (blk_e (?_))))
   have hf := hf.pn [3, 8, 9, 10]
   have H := H.lt_ [] [true] [] [0]
   exact ⟨(out', i), (Option.some.inj hR1).symm, A5, c4, E, hf, H⟩
 rintro a w ⟨⟨out3, i2⟩, rfl, A9, c7, E3, hf, H⟩
 try dsimp only at hF
 refine then_n (sqz (pz 2 hf fun a hf => ?_))
 refine wer ?_
 have H := H.freeze 0 rfl
 obtain rfl := oi hF
 refine rT hf ?_
 exact ⟨_, rfl, H.bel, (mk_list (rep_end (α := List Request) (H.get 0 rfl)))⟩
theorem impl_LowestHeight_ok {S : Nat → Prop} {v0_ : Value} {p : Plan} {r : Int × Bool} (h0 : VR w0 S v0_ p) (hF : impl_LowestHeight fu p = some r) :
    Calls Tryz.prog 12 [v0_].toArray w0 fun e w' => ∃ v, e = .returned v ∧ (Below w0.heap.size w0 w' ∧ ∃ u0 u1, v = .tuple #[u0, u1] ∧ VR w' (St ⟨w0, []⟩ S [] [] [] true) u0 r.1 ∧ VR w' (St ⟨w0, []⟩ S [] [] [] true) u1 r.2) := by
 obtain ⟨A, c, A2, c2, A3, c3, rfl, hl, hl2, hl3⟩ := Plan_open h0
 have H := Mem.start ⟨w0, []⟩ S
 have H := H.pA hl
 have H := H.pA hl2
 have H := H.pA hl3
 refine en Tryz.func12 fun a hf => ?_
 rw [impl_LowestHeight] at hF
 refine bx hf H fun b' a w hf H => ?_
 refine pz 2 hf fun a hf => ?_
 refine wl_end (then_n (sq (sq (reg (lN 0 hf H TF.la37 fun a hf => ?_)))))
 obtain ⟨y, hy, hF⟩ := bs_ hF
 refine oc hf TF.cl34 (impl_IsValidPlan_ok (S := TT) (Plan_mkv (x := p) (H.rt 2 rfl) (H.rt 1 rfl) (H.rt 0 rfl)) hy) fun v w a hp hf => ?_
 obtain ⟨hb, hp⟩ := hp
 obtain rfl := VR_bool hp
 have H := H.keep hb
 refine pz 1 hf fun a hf => ?_
 refine wl_end (then_n (ib hF hf (fun hc hF => ?_) fun hc hF => ?_))
 ·refine sqz (pz 2 hf fun a hf => ?_)
  refine wl_end (then_n (wp_ret (then_r (?_))))
  obtain rfl := oi hF
  refine ret_2 hf rfl (rv_tmp hf rfl) (rv_tmp hf rfl) ?_
  exact ⟨_, rfl, H.bel, _, _, rfl, mk_int, mk_bool⟩
 ·refine wp_skip (then_n (sq (dw [] 12 fun w hb => ?_)))
  have H := H.keep hb
  refine zp 0 hf trivial fun a hf => ?_
  refine strT (H.lt_ [true] [] [] []) (fun w H => trivial) fun hS => ?_
  refine zS 1 [] rfl rfl rfl rfl hf hS (fun w H => rq_loadBN hf H TF.la34 0 rfl rfl rfl rfl) fun a hf => ?_
  refine zS 2 [] rfl rfl rfl rfl hf hS (fun w H => rq_loadBN hf H TF.la37 0 rfl rfl rfl rfl) fun a hf => ?_
  obtain ⟨y2, hy2, hF⟩ := bs_ hF
  refine nn 3 rfl (oC hf TF.cl54 (impl_requestsOf_ok (Plan_mkv (x := p) (H.get 2 rfl) (H.get 1 rfl) (H.get 0 rfl)) hy2) fun v2 w a hp2 hf => ?_)
  obtain ⟨hb2, hp2⟩ := hp2
  obtain ⟨A4, c4, rfl, hl4⟩ := VR_list hp2
  replace hl4 := H.res (f := MP.val [(.slice A4 y2.length c4)] y2) hl4
  have H := H.keep hb2
  have H := H.pF hl4
  have hS := H.lt_ [true] [] [] []
  refine aS hS ?_
  obtain ⟨y3, hy3, hF⟩ := bs_ hF
  refine nn 4 rfl (oC hf TF.cl20 (impl_AssignExact_ok (S := TT) (Network_mkv (x := p.Network) (H.rt 3 rfl) (H.rt 2 rfl)) (mk_list (H.rt 0 rfl)) hy3) fun v3 w a hp3 hf => ?_)
  obtain ⟨hb3, F, v4, v5, v6, rfl, hp4, hp5, hp6, hN⟩ := hp3
  obtain ⟨A5, c5, rfl, hl5⟩ := VO_list hp4
  obtain rfl := VR_int hp5
  obtain rfl := VR_bool hp6
  have H := H.aO1 hb3 hN hl5
  have H := H.lend 0 rfl
  have hS := H.lt_ [true] [] [false] []
  refine aS hS ?_
  refine zp 5 hf hS fun a hf => ?_
  refine zp 6 hf hS fun a hf => ?_
  refine zp 7 hf hS fun a hf => ?_
  refine zp 8 hf hS fun a hf => ?_
  refine zp 9 hf hS fun a hf => ?_
  refine zp 10 hf hS fun a hf => ?_
  refine zp 11 hf hS fun a hf => ?_
  refine dk ?_
  have hf := hf.pn [5, 6]
  refine then_n (sqz (pz 4 hf fun a hf => ?_))
  refine wer ?_
  obtain rfl := oi hF
  refine ret_2 hf rfl (rv_tmp hf rfl) (rv_tmp hf rfl) ?_
  exact ⟨_, rfl, H.bel, _, _, rfl, mk_int, mk_bool⟩
theorem spec_l2Own_ok {S : Nat → Prop} {v0_ : Value} {n' : Network} {r : Network} (h0 : VR w0 S v0_ n') (hF : spec_l2Own fu n' = some r) :
    Calls Tryz.prog 124 [v0_].toArray w0 fun e w' => ∃ v, e = .returned v ∧ (Below w0.heap.size w0 w' ∧ ∃ F0, VO w' F0 v r ∧ New w0 w' F0) := by
 obtain ⟨A, c, A2, c2, rfl, hl, hl2⟩ := Network_open h0
 have H := Mem.start ⟨w0, []⟩ S
 have H := H.pA hl
 have H := H.pA hl2
 refine en Tryz.func124 fun a hf => ?_
 rw [spec_l2Own] at hF
 refine bx hf H fun b' a w hf H => ?_
 refine aL hf H TF.zv34 fun b2 a w hf H => ?_
 refine wl_end (then_n (sq ?_))
 obtain ⟨l, hl_, hF⟩ := bs_ hF
 obtain ⟨l2, hl2_, hF⟩ := bs_ hF
 refine mid (fun a w => ∃ (A4 : Option Addr) (c3 : Nat) (E : Go.TypeId) (A6 : Option Addr) (c4 : Nat) (E2 : Go.TypeId), Fr a 12 [(2, (.pointer (some ⟨b2, 0, none⟩)))] ∧ Mem ⟨w0, []⟩ S [⟨b2, 34, [(.slice A4 l.length c3), (.slice A6 l2.length c4)]⟩] [⟨.sh true, E2, A6, c4, (l2 : List Fiber)⟩, ⟨.sh true, E, A4, c3, (l : List ByteArray)⟩] [] [] w) ?_ ?_
 ·refine dw [9] 10 fun w hb => ?_
  have H := H.keep hb
  refine zp 1 hf trivial fun a hf => ?_
  refine strT (H.lt_ [false, true] [] [] []) (fun w H => trivial) fun hS => ?_
  refine zS 2 [2, 3, 7, 8, 9] rfl rfl rfl rfl hf hS (fun w H => rq_loadB hf H TF.ls22 0 rfl rfl rfl) fun a hf => ?_
  refine zp 5 hf hS fun a hf => ?_
  refine zS 6 [6, 7, 8, 9] rfl rfl rfl rfl hf hS (fun w H => rq_loadB hf H TF.ls32 0 rfl rfl rfl) fun a hf => ?_
  refine on2 (i := 0) (j := 4) (bi := [true, true, true, false, false, true, true, false, false, false]) (bj := [false, true, true, false, true, true, true, false, false, false]) (by kernel_rfl) rfl rfl rfl rfl rfl rfl ?_ ?_
  ·refine (bl hf H 9 ([] : List ByteArray) [] el0 fun A3 a w hf H => ?_)
   have hS := H.lt_ [false, true] [false] [] []
   refine aS hS ?_
   refine on2 (i := 3) (j := 4) (bi := [true, true, true, true, false, true, true, false, false, false]) (bj := [true, true, true, false, true, true, true, false, false, false]) (by kernel_rfl) rfl rfl rfl rfl rfl rfl ?_ ?_
   ·have H := H.rowWeak 0 rfl
    refine (op_appI hf H Tryz.underlying22 TF.ai9 rfl (by decide) 0 1 rfl rfl rfl rfl (.inl rfl) hl_ (by decide) fun E A4 c3 a w hf H => ?_)
    have H := H.rowOwn 0 rfl rfl
    have H := H.rowSh 0 rfl
    have hS := H.lt_ [false, true] [false] [] []
    refine aS hS ?_
    refine nn 4 rfl (bl hf H 180 ([] : List Fiber) [] el0 fun A5 a w hf H => ?_)
    have hS := H.lt_ [false, true] [false, false] [] []
    refine aS hS ?_
    have H := H.rowWeak 0 rfl
    refine nn 7 rfl (op_appI hf H Tryz.underlying32 TF.ai180 rfl (by decide) 0 0 rfl rfl rfl rfl (.inl rfl) hl2_ (by decide) fun E2 A6 c4 a w hf H => ?_)
    have H := H.rowOwn 0 rfl rfl
    have H := H.rowSh 0 rfl
    have hS := H.lt_ [false, true] [false, false] [] []
    refine aS hS ?_
    refine zP 8 rfl rfl rfl rfl hf hS (fun w => rq_build hf (cs := [(.slice A4 l.length c3), (.slice A6 l2.length c4)]) rfl (fun w => by kernel_rfl)) fun a hf => ?_
    refine nn 9 rfl (op_storeB hf H 0 TF.sz34 rfl rfl rfl rfl rfl rfl (nle rfl) fun w H => ?_)
    refine ⟨fun h => absurd h (by decide), ?_⟩
    refine dk ?_
    have hf := hf.pn [2]
    have H := H.lt_ [true, false] [true, true] [] []
    exact ⟨A4, c3, E, A6, c4, E2, hf, H⟩
   ·refine (bl hf H 180 ([] : List Fiber) [] el0 fun A4 a w hf H => ?_)
    have hS := H.lt_ [false, true] [false, false] [] []
    refine aS hS ?_
    have H := H.rowWeak 1 rfl
    refine nn 3 rfl (op_appI hf H Tryz.underlying22 TF.ai9 rfl (by decide) 1 1 rfl rfl rfl rfl (.inl rfl) hl_ (by decide) fun E A5 c3 a w hf H => ?_)
    have H := H.rowOwn 1 rfl rfl
    have H := H.rowSh 1 rfl
    have hS := H.lt_ [false, true] [false, false] [] []
    refine aS hS ?_
    have H := H.rowWeak 0 rfl
    refine nn 7 rfl (op_appI hf H Tryz.underlying32 TF.ai180 rfl (by decide) 0 0 rfl rfl rfl rfl (.inl rfl) hl2_ (by decide) fun E2 A6 c4 a w hf H => ?_)
    have H := H.rowOwn 0 rfl rfl
    have H := H.rowSh 0 rfl
    have hS := H.lt_ [false, true] [false, false] [] []
    refine aS hS ?_
    refine zP 8 rfl rfl rfl rfl hf hS (fun w => rq_build hf (cs := [(.slice A5 l.length c3), (.slice A6 l2.length c4)]) rfl (fun w => by kernel_rfl)) fun a hf => ?_
    refine nn 9 rfl (op_storeB hf H 0 TF.sz34 rfl rfl rfl rfl rfl rfl (nle rfl) fun w H => ?_)
    refine ⟨fun h => absurd h (by decide), ?_⟩
    refine dk ?_
    have hf := hf.pn [2]
    have H := H.lt_ [true, false] [true, true] [] []
    exact ⟨A5, c3, E, A6, c4, E2, hf, H⟩
  ·refine (bl hf H 180 ([] : List Fiber) [] el0 fun A3 a w hf H => ?_)
   have hS := H.lt_ [false, true] [false] [] []
   refine aS hS ?_
   refine nn 0 rfl (bl hf H 9 ([] : List ByteArray) [] el0 fun A4 a w hf H => ?_)
   have hS := H.lt_ [false, true] [false, false] [] []
   refine aS hS ?_
   have H := H.rowWeak 0 rfl
   refine nn 3 rfl (op_appI hf H Tryz.underlying22 TF.ai9 rfl (by decide) 0 1 rfl rfl rfl rfl (.inl rfl) hl_ (by decide) fun E A5 c3 a w hf H => ?_)
   have H := H.rowOwn 0 rfl rfl
   have H := H.rowSh 0 rfl
   have hS := H.lt_ [false, true] [false, false] [] []
   refine aS hS ?_
   have H := H.rowWeak 1 rfl
   refine nn 7 rfl (op_appI hf H Tryz.underlying32 TF.ai180 rfl (by decide) 1 0 rfl rfl rfl rfl (.inl rfl) hl2_ (by decide) fun E2 A6 c4 a w hf H => ?_)
   have H := H.rowOwn 1 rfl rfl
   have H := H.rowSh 1 rfl
   have hS := H.lt_ [false, true] [false, false] [] []
   refine aS hS ?_
   refine zP 8 rfl rfl rfl rfl hf hS (fun w => rq_build hf (cs := [(.slice A5 l.length c3), (.slice A6 l2.length c4)]) rfl (fun w => by kernel_rfl)) fun a hf => ?_
   refine nn 9 rfl (op_storeB hf H 0 TF.sz34 rfl rfl rfl rfl rfl rfl (nle rfl) fun w H => ?_)
   refine ⟨fun h => absurd h (by decide), ?_⟩
   refine dk ?_
   have H := H.frontR 1 rfl
   have hf := hf.pn [2]
   have H := H.lt_ [true, false] [true, true] [] []
   exact ⟨A5, c3, E, A6, c4, E2, hf, H⟩
 rintro a w ⟨A4, c3, E, A6, c4, E2, hf, H⟩
 refine then_n (wp_ret (?_))
 have H := H.rowOwn 1 rfl rfl
 obtain ⟨F, H⟩ := H.freezeOwn 1 rfl
 have H := H.lend 0 rfl
 have H := H.rowOwn 0 rfl rfl
 obtain ⟨F2, H⟩ := H.freezeOwn 0 rfl
 have H := H.lend 0 rfl
 have H := H.frontD 1 rfl
 obtain rfl := oi hF
 refine ret_1 hf rfl (rv_cellN hf H 0 TF.la34 rfl rfl rfl) ?_
 have hN := H.ends2
 exact ⟨_, rfl, H.bel, (F ++ F2), ⟨_, Network_ownmk (x := ({ Nodes := l, Fibers := l2 } : Network)) (H.ownAt 0 rfl) (H.ownAt 1 rfl), rfl⟩, by first | exact hN | simpa using hN⟩
theorem spec_l1Own_ok {S : Nat → Prop} {v0_ : Value} {l : List Int} {r : List Int} (h0 : VR w0 S v0_ l) (hF : spec_l1Own fu l = some r) :
    Calls Tryz.prog 163 [v0_].toArray w0 fun e w' => ∃ v, e = .returned v ∧ (Below w0.heap.size w0 w' ∧ ∃ F0, VO w' F0 v r ∧ New w0 w' F0) := by
 obtain ⟨A, c, rfl, hl⟩ := VR_list h0
 have H := Mem.start ⟨w0, []⟩ S
 have H := H.pA hl
 refine en Tryz.func163 fun a hf => ?_
 rw [spec_l1Own] at hF
 refine sqz (pz 1 hf fun a hf => ?_)
 refine wr (wl0 rfl (bl hf H 3 ([] : List Int) [] el0 fun A2 a w hf H => ?_))
 refine pz 1 hf fun a hf => ?_
 obtain ⟨l2, hl2_, hF⟩ := bs_ hF
 have H := H.rowWeak 0 rfl
 refine wl0 rfl (op_appI hf H Tryz.underlying47 TF.ai3 rfl (by decide) 0 0 rfl rfl rfl rfl (.inl rfl) hl2_ (by decide) fun E A3 c2 a w hf H => ?_)
 have H := H.rowOwn 0 rfl rfl
 have H := H.rowSh 0 rfl
 refine pz 1 hf fun a hf => ?_
 refine wer ?_
 have H := H.rowOwn 0 rfl rfl
 obtain ⟨F, H⟩ := H.freezeOwn 0 rfl
 have H := H.lend 0 rfl
 obtain rfl := oi hF
 refine rT hf ?_
 have hN := H.ends1
 exact ⟨_, rfl, H.bel, F, (mko_list (H.ownAt 0 rfl)), by first | exact hN | simpa using hN⟩
theorem spec_l4Own_ok {S : Nat → Prop} {v0_ : Value} {r' : Route} {r : Route} (h0 : VR w0 S v0_ r') (hF : spec_l4Own fu r' = some r) :
    Calls Tryz.prog 190 [v0_].toArray w0 fun e w' => ∃ v, e = .returned v ∧ (Below w0.heap.size w0 w' ∧ ∃ F0, VO w' F0 v r ∧ New w0 w' F0) := by
 obtain ⟨A, c, rfl, hl⟩ := Route_open h0
 have H := Mem.start ⟨w0, []⟩ S
 have H := H.pA hl
 refine en Tryz.func190 fun a hf => ?_
 rw [spec_l4Own] at hF
 refine bx hf H fun b' a w hf H => ?_
 refine aL hf H TF.zv59 fun b2 a w hf H => ?_
 refine wl_end (then_n (sq (dw [6] 7 fun w hb => ?_)))
 have H := H.keep hb
 refine zp 0 hf trivial fun a hf => ?_
 refine strT (H.lt_ [false, true] [] [] []) (fun w H => trivial) fun hS => ?_
 refine zS 1 [1, 5, 6] rfl rfl rfl rfl hf hS (fun w H => rq_loadB hf H TF.ls3 0 rfl rfl rfl) fun a hf => ?_
 refine zp 2 hf hS fun a hf => ?_
 refine zS 3 [3, 4, 5, 6] rfl rfl rfl rfl hf hS (fun w H => rq_loadB hf H TF.ls47 0 rfl rfl rfl) fun a hf => ?_
 obtain ⟨y, hy, hF⟩ := bs_ hF
 refine nn 4 rfl (oC hf TF.cl163 (spec_l1Own_ok (S := TT) (mk_list (H.rt 0 rfl)) hy) fun v w a hp hf => ?_)
 obtain ⟨hb, F, hp2, hN⟩ := hp
 obtain ⟨A2, c2, rfl, hl2⟩ := VO_list hp2
 have H := H.aO1 hb hN hl2
 have H := H.lend 0 rfl
 have hS := H.lt_ [false, true] [] [false] []
 refine aS hS ?_
 refine zP 5 rfl rfl rfl rfl hf hS (fun w => rq_build hf (cs := [(.int .i64 r'.Start), (.slice A2 y.length c2)]) rfl (fun w => by kernel_rfl)) fun a hf => ?_
 refine nn 6 rfl (op_storeB hf H 0 TF.sz59 rfl rfl rfl rfl rfl rfl (nle rfl) fun w H => ?_)
 refine ⟨fun h => absurd h (by decide), ?_⟩
 refine dk ?_
 refine then_n (wp_ret (?_))
 obtain rfl := oi hF
 refine ret_1 hf rfl (rv_cellN hf H 0 TF.la59 rfl rfl rfl) ?_
 have hN := H.ends1
 exact ⟨_, rfl, H.bel, F, ⟨_, Route_ownmk (x := ({ Start := r'.Start, Fibers := y } : Route)) (H.ownAt 0 rfl), rfl⟩, by first | exact hN | simpa using hN⟩
theorem spec_l9Copy_ok {S : Nat → Prop} {v0_ : Value} {x1 : Light} {r : Light} (h0 : VR w0 S v0_ x1) (hF : spec_l9Copy fu x1 = some r) :
    Calls Tryz.prog 125 [v0_].toArray w0 fun e w' => ∃ v, e = .returned v ∧ (Below w0.heap.size w0 w' ∧ ∃ F0, VO w' F0 v r ∧ New w0 w' F0) := by
 obtain ⟨A, c, rfl, hl⟩ := Light_open h0
 have H := Mem.start ⟨w0, []⟩ S
 have H := H.pA hl
 refine en Tryz.func125 fun a hf => ?_
 rw [spec_l9Copy] at hF
 refine bx hf H fun b' a w hf H => ?_
 refine aL hf H TF.zv73 fun b2 a w hf H => ?_
 refine wl_end (then_n (sq (dw [8] 9 fun w hb => ?_)))
 have H := H.keep hb
 refine zp 0 hf trivial fun a hf => ?_
 refine strT (H.lt_ [false, true] [] [] []) (fun w H => trivial) fun hS => ?_
 refine zS 1 [1, 7, 8] rfl rfl rfl rfl hf hS (fun w H => rq_loadB hf H TF.ls3 0 rfl rfl rfl) fun a hf => ?_
 refine zp 2 hf hS fun a hf => ?_
 refine zS 3 [3, 4, 7, 8] rfl rfl rfl rfl hf hS (fun w H => rq_loadBN hf H TF.la59 0 rfl rfl rfl rfl) fun a hf => ?_
 refine zp 5 hf hS fun a hf => ?_
 refine zS 6 [6, 7, 8] rfl rfl rfl rfl hf hS (fun w H => rq_loadBN hf H TF.la71 0 rfl rfl rfl rfl) fun a hf => ?_
 obtain ⟨y, hy, hF⟩ := bs_ hF
 refine nn 4 rfl (oC hf TF.cl190 (spec_l4Own_ok (S := TT) (Route_mkv (x := x1.Route) (H.rt 0 rfl)) hy) fun v w a hp hf => ?_)
 obtain ⟨hb, F, hp2, hN⟩ := hp
 obtain ⟨A2, c2, F2, rfl, rfl, hl2⟩ := Route_vo hp2
 have H := H.aO1 hb hN hl2
 have H := H.lend 0 rfl
 have hS := H.lt_ [false, true] [] [false] []
 refine aS hS ?_
 refine zP 7 rfl rfl rfl rfl hf hS (fun w => rq_build hf (cs := [(.int .i64 x1.Id), (.int .i64 y.Start), (.slice A2 y.Fibers.length c2), (.int .i64 x1.Block.First), (.int .i64 x1.Block.Count)]) rfl (fun w => by kernel_rfl)) fun a hf => ?_
 refine nn 8 rfl (op_storeB hf H 0 TF.sz73 rfl rfl rfl rfl rfl rfl (nle rfl) fun w H => ?_)
 refine ⟨fun h => absurd h (by decide), ?_⟩
 refine dk ?_
 refine then_n (wp_ret (?_))
 obtain rfl := oi hF
 refine ret_1 hf rfl (rv_cellN hf H 0 TF.la73 rfl rfl rfl) ?_
 have hN := H.ends1
 exact ⟨_, rfl, H.bel, F2, ⟨_, Light_ownmk (x := ({ Id := x1.Id, Route := y, Block := x1.Block } : Light)) (H.ownAt 0 rfl), rfl⟩, by first | exact hN | simpa using hN⟩
theorem spec_l9Own_ok {S : Nat → Prop} {v0_ : Value} {p : Plan} {r : Plan} (h0 : VR w0 S v0_ p) (hF : spec_l9Own fu p = some r) :
    Calls Tryz.prog 57 [v0_].toArray w0 fun e w' => ∃ v, e = .returned v ∧ (Below w0.heap.size w0 w' ∧ ∃ F0, VO w' F0 v r ∧ New w0 w' F0) := by
 obtain ⟨A, c, A2, c2, A3, c3, rfl, hl, hl2, hl3⟩ := Plan_open h0
 have H := Mem.start ⟨w0, []⟩ S
 have H := H.pA hl
 have H := H.pA hl2
 have H := H.pA hl3
 refine en Tryz.func57 fun a hf => ?_
 rw [spec_l9Own] at hF
 refine bx hf H fun b' a w hf H => ?_
 refine aL hf H TF.zv37 fun b2 a w hf H => ?_
 refine wr (pz 1 hf fun a hf => ?_)
 refine lN 1 hf H TF.la34 fun a hf => ?_
 obtain ⟨y, hy, hF⟩ := bs_ hF
 refine oc hf TF.cl124 (spec_l2Own_ok (S := TT) (Network_mkv (x := p.Network) (H.rt 2 rfl) (H.rt 1 rfl)) hy) fun v w a hp hf => ?_
 obtain ⟨hb, F, hp2, hN⟩ := hp
 obtain ⟨A4, c4, F2, A5, c5, F3, rfl, rfl, hl4, hl5⟩ := Network_vo hp2
 have H := H.aO2 hb hN hl4 hl5
 have H := H.lend 0 rfl
 have H := H.lend 1 rfl
 refine oq hf (rq_build hf (cs := [(.slice A4 y.Nodes.length c4), (.slice A5 y.Fibers.length c5), (.slice none 0 0)]) rfl (fun w => by kernel_rfl)) fun a hf => ?_
 refine aL hf H TF.zv37 fun b3 a w hf H => ?_
 refine sB 0 hf H TF.sz37 fun w H => ?_
 refine we (sqz (pz 1 hf fun a hf => ?_))
 refine wl_end (then_n ?_)
 have H := H.nilRow (Light) (.ow []) rfl rfl 73
 obtain ⟨out', hB1, hF⟩ := bs_ hF
 have hf := hf.pn [1, 2, 3, 4]
 have H := H.lt_ [true, true, true] [true] [true, true] [0, 1, 2, 3, 4]
 refine loopC (fun (s : Int × List Light) (a : Act) (w : World) => match s with | (i, m) => ∃ (A6 : Option Addr) (c6 : Nat) (E : Go.TypeId) (Fs : List (List Nat)), Fr a 28 [(1, (.pointer (some ⟨b', 0, none⟩))), (2, (.pointer (some ⟨b2, 0, none⟩))), (3, (.pointer (some ⟨b3, 0, none⟩))), (4, (.int .i64 i))] ∧ Mem ⟨w0, []⟩ S [⟨b3, 37, [(.slice A4 y.Nodes.length c4), (.slice A5 y.Fibers.length c5), (.slice A6 m.length c6)]⟩, ⟨b2, 37, [(.slice none 0 0), (.slice none 0 0), (.slice none 0 0)]⟩, ⟨b', 37, [(.slice A p.Network.Nodes.length c), (.slice A2 p.Network.Fibers.length c2), (.slice A3 p.Lights.length c3)]⟩] [⟨.ow Fs, E, A6, c6, (m : List Light)⟩] [⟨F2, MP.own F2 [(.slice A4 y.Nodes.length c4)] (y.Nodes : List ByteArray)⟩, ⟨F3, MP.own F3 [(.slice A5 y.Fibers.length c5)] (y.Fibers : List Fiber)⟩] [(true, MP.val [(.slice A5 y.Fibers.length c5)] (y.Fibers : List Fiber)), (true, MP.val [(.slice A4 y.Nodes.length c4)] (y.Nodes : List ByteArray)), (false, MP.val [(.slice A3 p.Lights.length c3)] (p.Lights : List Light)), (false, MP.val [(.slice A2 p.Network.Fibers.length c2)] (p.Network.Fibers : List Fiber)), (false, MP.val [(.slice A p.Network.Nodes.length c)] (p.Network.Nodes : List ByteArray))] w) (fun k (s : Int × List Light) => spec_l9Own_L1 fu p k s.1 s.2 = some out') (fun s => out' = s) (0, ([] : List Light)) fu hB1 ⟨none, 0, 73, [], hf, H⟩ (fun s h => by cases h) ?_ ?_
 ·rintro fk ⟨i, m⟩ a w hR1 hI
  replace hR1 : spec_l9Own_L1 fu p (fk + 1) i m = some out' := hR1
  rw [spec_l9Own_L1] at hR1
  obtain ⟨A6, c6, E, Fs, hf, H⟩ := hI
  refine sq (sqz (pz 2 hf fun a hf => ?_))
  refine lB 2 hf H TF.ls35 fun a hf => ?_
  refine pz 2 hf fun a hf => ?_
  refine wl_end (then_n (ib hR1 hf (fun hc hR1 => ?_) fun hc hR1 => ?_))
  ·refine wp_skip (then_n (sq (wp_block (dw [11] 12 fun w hb => ?_))))
   have H := H.keep hb
   refine zp 0 hf trivial fun a hf => ?_
   refine strT (H.lt_ [true, false, false] [false] [false, false] []) (fun w H => trivial) fun hS => ?_
   refine zS 1 [1, 9, 10, 11] rfl rfl rfl rfl hf hS (fun w H => rq_loadB hf H TF.ls35 0 rfl rfl rfl) fun a hf => ?_
   refine zp 2 hf hS fun a hf => ?_
   refine strT (H.lt_ [true, false, true] [false] [false, false] []) (fun w H => H.lt_ [true, false] [] [] []) fun hS => ?_
   refine zS 3 [3, 5, 6, 7, 8, 9, 10, 11] rfl rfl rfl rfl hf hS (fun w H => rq_loadB hf H TF.ls35 1 rfl rfl rfl) fun a hf => ?_
   refine zp 4 hf hS fun a hf => ?_
   obtain ⟨e, he, hR1⟩ := bs_ hR1
   obtain ⟨p2, o, cs, hx, hr, H⟩ := pre_iaddr H Tryz.underlying35 TF.sz73 2 rfl he
   refine zP 5 rfl rfl rfl rfl hf hS (fun w => rq_iaddrE hf rfl rfl rfl hx w) fun a hf => ?_
   obtain ⟨A7, c7, rfl, hl6⟩ := Light_cells hr
   have H := H.pF hl6
   refine strT (H.lt_ [true, false, true] [false] [false, false] [1]) (fun w H => H.lt_ [true, true] [] [] []) fun hS => ?_
   refine zS 6 [6, 7, 8, 9, 10, 11] rfl rfl rfl rfl hf hS (fun w H => rq_loadIN hf H TF.la73 0 0 rfl rfl rfl rfl) fun a hf => ?_
   obtain ⟨y2, hy2, hR1⟩ := bs_ hR1
   refine nn 7 rfl (oC hf TF.cl125 (spec_l9Copy_ok (S := TT) (Light_mkv (x := e) (H.rt 0 rfl)) hy2) fun v2 w a hp3 hf => ?_)
   obtain ⟨hb2, F4, hp4, hN2⟩ := hp3
   obtain ⟨A8, c8, F5, rfl, rfl, hl7⟩ := Light_vo hp4
   have H := H.aO1 hb2 hN2 hl7
   have H := H.lend 0 rfl
   have hS := H.lt_ [true, false, true] [false] [false, false, false] [2]
   refine aS hS ?_
   have H := H.recast (X := [(⟨F5, MP.own F5 [(.slice A8 y2.Route.Fibers.length c8)] (y2.Route.Fibers : List Int)⟩ : DI)]) (Y := [(⟨F5, MP.own F5 [(.int .i64 y2.Id), (.int .i64 y2.Route.Start), (.slice A8 y2.Route.Fibers.length c8), (.int .i64 y2.Block.First), (.int .i64 y2.Block.Count)] (y2 : Light)⟩ : DI)]) (List.Perm.of_eq (by simp)) fun _ => ps1 (Light_ownmk (x := y2) (H.ownAt 0 rfl)) ps0
   refine nn 8 rfl (op_bsliceO hf 73 H rfl (fun w => by kernel_rfl) (by decide) fun A9 a w hf H => ?_)
   have hS := H.lt_ [true, false, true] [false, false] [false, false] [2]
   refine aS hS ?_
   obtain ⟨al, hal, hR1⟩ := bs_ hR1
   have H := H.frontR 1 rfl
   refine nn 9 rfl (op_appO hf H Tryz.underlying35 TF.ai73 rfl (by decide) rfl rfl hal (by decide) fun E2 A10 c9 a w hf H => ?_)
   have hS := H.lt_ [true, false, true] [false] [false, false] [2]
   refine aS hS ?_
   refine zp 10 hf hS fun a hf => ?_
   refine nn 11 rfl (op_storeB hf H 0 TF.sz35 rfl rfl rfl rfl rfl rfl (nle rfl) fun w H => ?_)
   refine ⟨fun h => absurd h (by decide), ?_⟩
   refine dk ?_
   have hf := hf.pn [1, 2, 3, 4]
   refine blk_n (then_n (reg (pz 3 hf fun a hf => ?_)))
   refine wl_end ?_
   have hf := hf.pn [1, 2, 3, 4]
   have H := H.lt_ [true, true, true] [true] [true, true] [3, 4, 5, 6, 7]
   exact then_n ⟨(w64 (i + 1), al), hR1, A10, c9, E2, Fs ++ [F5], hf, H⟩
  ·refine wp_exit (then_x (then_x (blk_e (?_))))
   have hf := hf.pn [1, 2, 3, 4]
   have H := H.lt_ [true, true, true] [true] [true, true] [0, 1, 2, 3, 4]
   exact ⟨(i, m), (Option.some.inj hR1).symm, A6, c6, E, Fs, hf, H⟩
 rintro a w ⟨⟨i2, m2⟩, rfl, A11, c10, E3, Fs2, hf, H⟩
 try dsimp only at hF
 refine then_n (sq (reg (lN 0 hf H TF.la37 fun a hf => ?_)))
 refine sB 1 hf H TF.sz37 fun w H => ?_
 refine wer ?_
 obtain ⟨F6, H⟩ := H.freezeOwn 0 rfl
 have H := H.lend 0 rfl
 have H := H.frontD 2 rfl
 have H := H.frontD 2 rfl
 obtain rfl := oi hF
 refine ret_1 hf rfl (rv_cellN hf H 1 TF.la37 rfl rfl rfl) ?_
 have hN := H.ends3
 exact ⟨_, rfl, H.bel, (F2 ++ (F3 ++ F6)), ⟨_, Plan_ownmk (x := ({ Network := y, Lights := m2 } : Plan)) (H.ownAt 0 rfl) (H.ownAt 1 rfl) (H.ownAt 2 rfl), rfl⟩, by first | exact hN | simpa using hN⟩
theorem impl_copyNetwork_ok {S : Nat → Prop} {v0_ : Value} {n' : Network} {r : Network} (h0 : VR w0 S v0_ n') (hF : impl_copyNetwork fu n' = some r) :
    Calls Tryz.prog 126 [v0_].toArray w0 fun e w' => ∃ v, e = .returned v ∧ (Below w0.heap.size w0 w' ∧ ∃ F0, VO w' F0 v r ∧ New w0 w' F0) := by
 obtain ⟨A, c, A2, c2, rfl, hl, hl2⟩ := Network_open h0
 have H := Mem.start ⟨w0, []⟩ S
 have H := H.pA hl
 have H := H.pA hl2
 refine en Tryz.func126 fun a hf => ?_
 rw [impl_copyNetwork] at hF
 refine bx hf H fun b' a w hf H => ?_
 refine aL hf H TF.zv34 fun b2 a w hf H => ?_
 refine wl_end (then_n (sq ?_))
 obtain ⟨l, hl_, hF⟩ := bs_ hF
 obtain ⟨l2, hl2_, hF⟩ := bs_ hF
 refine mid (fun a w => ∃ (A4 : Option Addr) (c3 : Nat) (E : Go.TypeId) (A6 : Option Addr) (c4 : Nat) (E2 : Go.TypeId), Fr a 12 [(2, (.pointer (some ⟨b2, 0, none⟩)))] ∧ Mem ⟨w0, []⟩ S [⟨b2, 34, [(.slice A4 l.length c3), (.slice A6 l2.length c4)]⟩] [⟨.sh true, E2, A6, c4, (l2 : List Fiber)⟩, ⟨.sh true, E, A4, c3, (l : List ByteArray)⟩] [] [] w) ?_ ?_
 ·refine dw [9] 10 fun w hb => ?_
  have H := H.keep hb
  refine zp 1 hf trivial fun a hf => ?_
  refine strT (H.lt_ [false, true] [] [] []) (fun w H => trivial) fun hS => ?_
  refine zS 2 [2, 3, 7, 8, 9] rfl rfl rfl rfl hf hS (fun w H => rq_loadB hf H TF.ls22 0 rfl rfl rfl) fun a hf => ?_
  refine zp 5 hf hS fun a hf => ?_
  refine zS 6 [6, 7, 8, 9] rfl rfl rfl rfl hf hS (fun w H => rq_loadB hf H TF.ls32 0 rfl rfl rfl) fun a hf => ?_
  refine on2 (i := 0) (j := 4) (bi := [true, true, true, false, false, true, true, false, false, false]) (bj := [false, true, true, false, true, true, true, false, false, false]) (by kernel_rfl) rfl rfl rfl rfl rfl rfl ?_ ?_
  ·refine (bl hf H 9 ([] : List ByteArray) [] el0 fun A3 a w hf H => ?_)
   have hS := H.lt_ [false, true] [false] [] []
   refine aS hS ?_
   refine on2 (i := 3) (j := 4) (bi := [true, true, true, true, false, true, true, false, false, false]) (bj := [true, true, true, false, true, true, true, false, false, false]) (by kernel_rfl) rfl rfl rfl rfl rfl rfl ?_ ?_
   ·have H := H.rowWeak 0 rfl
    refine (op_appI hf H Tryz.underlying22 TF.ai9 rfl (by decide) 0 1 rfl rfl rfl rfl (.inl rfl) hl_ (by decide) fun E A4 c3 a w hf H => ?_)
    have H := H.rowOwn 0 rfl rfl
    have H := H.rowSh 0 rfl
    have hS := H.lt_ [false, true] [false] [] []
    refine aS hS ?_
    refine nn 4 rfl (bl hf H 180 ([] : List Fiber) [] el0 fun A5 a w hf H => ?_)
    have hS := H.lt_ [false, true] [false, false] [] []
    refine aS hS ?_
    have H := H.rowWeak 0 rfl
    refine nn 7 rfl (op_appI hf H Tryz.underlying32 TF.ai180 rfl (by decide) 0 0 rfl rfl rfl rfl (.inl rfl) hl2_ (by decide) fun E2 A6 c4 a w hf H => ?_)
    have H := H.rowOwn 0 rfl rfl
    have H := H.rowSh 0 rfl
    have hS := H.lt_ [false, true] [false, false] [] []
    refine aS hS ?_
    refine zP 8 rfl rfl rfl rfl hf hS (fun w => rq_build hf (cs := [(.slice A4 l.length c3), (.slice A6 l2.length c4)]) rfl (fun w => by kernel_rfl)) fun a hf => ?_
    refine nn 9 rfl (op_storeB hf H 0 TF.sz34 rfl rfl rfl rfl rfl rfl (nle rfl) fun w H => ?_)
    refine ⟨fun h => absurd h (by decide), ?_⟩
    refine dk ?_
    have hf := hf.pn [2]
    have H := H.lt_ [true, false] [true, true] [] []
    exact ⟨A4, c3, E, A6, c4, E2, hf, H⟩
   ·refine (bl hf H 180 ([] : List Fiber) [] el0 fun A4 a w hf H => ?_)
    have hS := H.lt_ [false, true] [false, false] [] []
    refine aS hS ?_
    have H := H.rowWeak 1 rfl
    refine nn 3 rfl (op_appI hf H Tryz.underlying22 TF.ai9 rfl (by decide) 1 1 rfl rfl rfl rfl (.inl rfl) hl_ (by decide) fun E A5 c3 a w hf H => ?_)
    have H := H.rowOwn 1 rfl rfl
    have H := H.rowSh 1 rfl
    have hS := H.lt_ [false, true] [false, false] [] []
    refine aS hS ?_
    have H := H.rowWeak 0 rfl
    refine nn 7 rfl (op_appI hf H Tryz.underlying32 TF.ai180 rfl (by decide) 0 0 rfl rfl rfl rfl (.inl rfl) hl2_ (by decide) fun E2 A6 c4 a w hf H => ?_)
    have H := H.rowOwn 0 rfl rfl
    have H := H.rowSh 0 rfl
    have hS := H.lt_ [false, true] [false, false] [] []
    refine aS hS ?_
    refine zP 8 rfl rfl rfl rfl hf hS (fun w => rq_build hf (cs := [(.slice A5 l.length c3), (.slice A6 l2.length c4)]) rfl (fun w => by kernel_rfl)) fun a hf => ?_
    refine nn 9 rfl (op_storeB hf H 0 TF.sz34 rfl rfl rfl rfl rfl rfl (nle rfl) fun w H => ?_)
    refine ⟨fun h => absurd h (by decide), ?_⟩
    refine dk ?_
    have hf := hf.pn [2]
    have H := H.lt_ [true, false] [true, true] [] []
    exact ⟨A5, c3, E, A6, c4, E2, hf, H⟩
  ·refine (bl hf H 180 ([] : List Fiber) [] el0 fun A3 a w hf H => ?_)
   have hS := H.lt_ [false, true] [false] [] []
   refine aS hS ?_
   refine nn 0 rfl (bl hf H 9 ([] : List ByteArray) [] el0 fun A4 a w hf H => ?_)
   have hS := H.lt_ [false, true] [false, false] [] []
   refine aS hS ?_
   have H := H.rowWeak 0 rfl
   refine nn 3 rfl (op_appI hf H Tryz.underlying22 TF.ai9 rfl (by decide) 0 1 rfl rfl rfl rfl (.inl rfl) hl_ (by decide) fun E A5 c3 a w hf H => ?_)
   have H := H.rowOwn 0 rfl rfl
   have H := H.rowSh 0 rfl
   have hS := H.lt_ [false, true] [false, false] [] []
   refine aS hS ?_
   have H := H.rowWeak 1 rfl
   refine nn 7 rfl (op_appI hf H Tryz.underlying32 TF.ai180 rfl (by decide) 1 0 rfl rfl rfl rfl (.inl rfl) hl2_ (by decide) fun E2 A6 c4 a w hf H => ?_)
   have H := H.rowOwn 1 rfl rfl
   have H := H.rowSh 1 rfl
   have hS := H.lt_ [false, true] [false, false] [] []
   refine aS hS ?_
   refine zP 8 rfl rfl rfl rfl hf hS (fun w => rq_build hf (cs := [(.slice A5 l.length c3), (.slice A6 l2.length c4)]) rfl (fun w => by kernel_rfl)) fun a hf => ?_
   refine nn 9 rfl (op_storeB hf H 0 TF.sz34 rfl rfl rfl rfl rfl rfl (nle rfl) fun w H => ?_)
   refine ⟨fun h => absurd h (by decide), ?_⟩
   refine dk ?_
   have H := H.frontR 1 rfl
   have hf := hf.pn [2]
   have H := H.lt_ [true, false] [true, true] [] []
   exact ⟨A5, c3, E, A6, c4, E2, hf, H⟩
 rintro a w ⟨A4, c3, E, A6, c4, E2, hf, H⟩
 refine then_n (wp_ret (?_))
 have H := H.rowOwn 1 rfl rfl
 obtain ⟨F, H⟩ := H.freezeOwn 1 rfl
 have H := H.lend 0 rfl
 have H := H.rowOwn 0 rfl rfl
 obtain ⟨F2, H⟩ := H.freezeOwn 0 rfl
 have H := H.lend 0 rfl
 have H := H.frontD 1 rfl
 obtain rfl := oi hF
 refine ret_1 hf rfl (rv_cellN hf H 0 TF.la34 rfl rfl rfl) ?_
 have hN := H.ends2
 exact ⟨_, rfl, H.bel, (F ++ F2), ⟨_, Network_ownmk (x := ({ Nodes := l, Fibers := l2 } : Network)) (H.ownAt 0 rfl) (H.ownAt 1 rfl), rfl⟩, by first | exact hN | simpa using hN⟩
theorem impl_copyRoute_ok {S : Nat → Prop} {v0_ : Value} {r' : Route} {r : Route} (h0 : VR w0 S v0_ r') (hF : impl_copyRoute fu r' = some r) :
    Calls Tryz.prog 127 [v0_].toArray w0 fun e w' => ∃ v, e = .returned v ∧ (Below w0.heap.size w0 w' ∧ ∃ F0, VO w' F0 v r ∧ New w0 w' F0) := by
 obtain ⟨A, c, rfl, hl⟩ := Route_open h0
 have H := Mem.start ⟨w0, []⟩ S
 have H := H.pA hl
 refine en Tryz.func127 fun a hf => ?_
 rw [impl_copyRoute] at hF
 refine bx hf H fun b' a w hf H => ?_
 refine aL hf H TF.zv59 fun b2 a w hf H => ?_
 refine wl_end (then_n (sq (dw [7] 8 fun w hb => ?_)))
 have H := H.keep hb
 refine zp 0 hf trivial fun a hf => ?_
 refine strT (H.lt_ [false, true] [] [] []) (fun w H => trivial) fun hS => ?_
 refine zS 1 [1, 6, 7] rfl rfl rfl rfl hf hS (fun w H => rq_loadB hf H TF.ls3 0 rfl rfl rfl) fun a hf => ?_
 refine zp 3 hf hS fun a hf => ?_
 refine zS 4 [4, 5, 6, 7] rfl rfl rfl rfl hf hS (fun w H => rq_loadB hf H TF.ls47 0 rfl rfl rfl) fun a hf => ?_
 refine nn 2 rfl (bl hf H 3 ([] : List Int) [] el0 fun A2 a w hf H => ?_)
 have hS := H.lt_ [false, true] [false] [] []
 refine aS hS ?_
 obtain ⟨l, hl_, hF⟩ := bs_ hF
 have H := H.rowWeak 0 rfl
 refine nn 5 rfl (op_appI hf H Tryz.underlying47 TF.ai3 rfl (by decide) 0 0 rfl rfl rfl rfl (.inl rfl) hl_ (by decide) fun E A3 c2 a w hf H => ?_)
 have H := H.rowOwn 0 rfl rfl
 have H := H.rowSh 0 rfl
 have hS := H.lt_ [false, true] [false] [] []
 refine aS hS ?_
 refine zP 6 rfl rfl rfl rfl hf hS (fun w => rq_build hf (cs := [(.int .i64 r'.Start), (.slice A3 l.length c2)]) rfl (fun w => by kernel_rfl)) fun a hf => ?_
 refine nn 7 rfl (op_storeB hf H 0 TF.sz59 rfl rfl rfl rfl rfl rfl (nle rfl) fun w H => ?_)
 refine ⟨fun h => absurd h (by decide), ?_⟩
 refine dk ?_
 refine then_n (wp_ret (?_))
 have H := H.rowOwn 0 rfl rfl
 obtain ⟨F, H⟩ := H.freezeOwn 0 rfl
 have H := H.lend 0 rfl
 obtain rfl := oi hF
 refine ret_1 hf rfl (rv_cellN hf H 0 TF.la59 rfl rfl rfl) ?_
 have hN := H.ends1
 exact ⟨_, rfl, H.bel, F, ⟨_, Route_ownmk (x := ({ Start := r'.Start, Fibers := l } : Route)) (H.ownAt 0 rfl), rfl⟩, by first | exact hN | simpa using hN⟩
theorem impl_copyPlan_ok {S : Nat → Prop} {v0_ : Value} {p : Plan} {r : Plan} (h0 : VR w0 S v0_ p) (hF : impl_copyPlan fu p = some r) :
    Calls Tryz.prog 58 [v0_].toArray w0 fun e w' => ∃ v, e = .returned v ∧ (Below w0.heap.size w0 w' ∧ ∃ F0, VO w' F0 v r ∧ New w0 w' F0) := by
 obtain ⟨A, c, A2, c2, A3, c3, rfl, hl, hl2, hl3⟩ := Plan_open h0
 have H := Mem.start ⟨w0, []⟩ S
 have H := H.pA hl
 have H := H.pA hl2
 have H := H.pA hl3
 refine en Tryz.func58 fun a hf => ?_
 rw [impl_copyPlan] at hF
 refine bx hf H fun b' a w hf H => ?_
 refine aL hf H TF.zv37 fun b2 a w hf H => ?_
 refine wr (pz 1 hf fun a hf => ?_)
 refine lN 1 hf H TF.la34 fun a hf => ?_
 obtain ⟨y, hy, hF⟩ := bs_ hF
 refine oc hf TF.cl126 (impl_copyNetwork_ok (S := TT) (Network_mkv (x := p.Network) (H.rt 2 rfl) (H.rt 1 rfl)) hy) fun v w a hp hf => ?_
 obtain ⟨hb, F, hp2, hN⟩ := hp
 obtain ⟨A4, c4, F2, A5, c5, F3, rfl, rfl, hl4, hl5⟩ := Network_vo hp2
 have H := H.aO2 hb hN hl4 hl5
 have H := H.lend 0 rfl
 have H := H.lend 1 rfl
 refine oq hf (rq_build hf (cs := [(.slice A4 y.Nodes.length c4), (.slice A5 y.Fibers.length c5), (.slice none 0 0)]) rfl (fun w => by kernel_rfl)) fun a hf => ?_
 refine aL hf H TF.zv37 fun b3 a w hf H => ?_
 refine sB 0 hf H TF.sz37 fun w H => ?_
 refine we (sqz (pz 1 hf fun a hf => ?_))
 refine lB 2 hf H TF.ls35 fun a hf => ?_
 refine pz 2 hf fun a hf => ?_
 refine wl_end (then_n ?_)
 have H := H.nilRow (Light) (.ow []) rfl rfl 73
 obtain ⟨out', hB1, hF⟩ := bs_ hF
 have hf := hf.pn [2, 3, 11, 12, 13]
 have H := H.lt_ [true, true, false] [true] [true, true] [0, 1, 2]
 refine loopC (fun (s : Int × List Light) (a : Act) (w : World) => match s with | (i, m) => ∃ (A6 : Option Addr) (c6 : Nat) (E : Go.TypeId) (Fs : List (List Nat)), Fr a 32 [(2, (.pointer (some ⟨b2, 0, none⟩))), (3, (.pointer (some ⟨b3, 0, none⟩))), (11, (.slice A3 p.Lights.length c3)), (12, (.int .i64 (p.Lights.length : Int))), (13, (.int .i64 i))] ∧ Mem ⟨w0, []⟩ S [⟨b3, 37, [(.slice A4 y.Nodes.length c4), (.slice A5 y.Fibers.length c5), (.slice A6 m.length c6)]⟩, ⟨b2, 37, [(.slice none 0 0), (.slice none 0 0), (.slice none 0 0)]⟩] [⟨.ow Fs, E, A6, c6, (m : List Light)⟩] [⟨F2, MP.own F2 [(.slice A4 y.Nodes.length c4)] (y.Nodes : List ByteArray)⟩, ⟨F3, MP.own F3 [(.slice A5 y.Fibers.length c5)] (y.Fibers : List Fiber)⟩] [(true, MP.val [(.slice A5 y.Fibers.length c5)] (y.Fibers : List Fiber)), (true, MP.val [(.slice A4 y.Nodes.length c4)] (y.Nodes : List ByteArray)), (false, MP.val [(.slice A3 p.Lights.length c3)] (p.Lights : List Light))] w) (fun k (s : Int × List Light) => impl_copyPlan_L1 fu p k s.1 s.2 = some out') (fun s => out' = s) (0, ([] : List Light)) fu hB1 ⟨none, 0, 73, [], hf, H⟩ (fun s h => by cases h) ?_ ?_
 ·rintro fk ⟨i, m⟩ a w hR1 hI
  replace hR1 : impl_copyPlan_L1 fu p (fk + 1) i m = some out' := hR1
  rw [impl_copyPlan_L1] at hR1
  obtain ⟨A6, c6, E, Fs, hf, H⟩ := hI
  refine sqz (pz 1 hf fun a hf => ?_)
  refine wl_end (then_n (sq (ib hR1 hf (fun hc hR1 => ?_) fun hc hR1 => ?_)))
  ·refine wp_skip (then_n (sq (wp_block (sq (reg ?_)))))
   obtain ⟨e, he, hR1⟩ := bs_ hR1
   refine wl0 rfl (op_iaddr hf H Tryz.underlying35 TF.sz73 2 rfl rfl rfl he (by decide) fun p2 o cs a hf hr H => ?_)
   obtain ⟨A7, c7, rfl, hl6⟩ := Light_cells hr
   have H := H.pF hl6
   refine oq hf (rq_loadIN hf H TF.la73 1 0 rfl rfl rfl rfl) fun a hf => ?_
   refine aL hf H TF.zv73 fun b4 a w hf H => ?_
   refine sB 0 hf H TF.sz73 fun w H => ?_
   refine wl_end (then_n (dw [13] 14 fun w hb => ?_))
   have H := H.keep hb
   refine zp 0 hf trivial fun a hf => ?_
   refine strT (H.lt_ [false, true, false] [false] [false, false] []) (fun w H => trivial) fun hS => ?_
   refine zS 1 [1, 11, 12, 13] rfl rfl rfl rfl hf hS (fun w H => rq_loadB hf H TF.ls35 0 rfl rfl rfl) fun a hf => ?_
   refine zp 2 hf hS fun a hf => ?_
   refine strT (H.lt_ [true, true, false] [false] [false, false] []) (fun w H => H.lt_ [false, true] [] [] []) fun hS => ?_
   refine zS 3 [3, 9, 10, 11, 12, 13] rfl rfl rfl rfl hf hS (fun w H => rq_loadB hf H TF.ls3 0 rfl rfl rfl) fun a hf => ?_
   refine zp 4 hf hS fun a hf => ?_
   refine zS 5 [5, 6, 9, 10, 11, 12, 13] rfl rfl rfl rfl hf hS (fun w H => rq_loadBN hf H TF.la59 0 rfl rfl rfl rfl) fun a hf => ?_
   refine zp 7 hf hS fun a hf => ?_
   refine zS 8 [8, 9, 10, 11, 12, 13] rfl rfl rfl rfl hf hS (fun w H => rq_loadBN hf H TF.la71 0 rfl rfl rfl rfl) fun a hf => ?_
   obtain ⟨y2, hy2, hR1⟩ := bs_ hR1
   refine nn 6 rfl (oC hf TF.cl127 (impl_copyRoute_ok (S := TT) (Route_mkv (x := e.Route) (H.rt 0 rfl)) hy2) fun v2 w a hp3 hf => ?_)
   obtain ⟨hb2, F4, hp4, hN2⟩ := hp3
   obtain ⟨A8, c8, F5, rfl, rfl, hl7⟩ := Route_vo hp4
   have H := H.aO1 hb2 hN2 hl7
   have H := H.lend 0 rfl
   have hS := H.lt_ [true, true, false] [false] [false, false, false] []
   refine aS hS ?_
   refine zP 9 rfl rfl rfl rfl hf hS (fun w => rq_build hf (cs := [(.int .i64 e.Id), (.int .i64 y2.Start), (.slice A8 y2.Fibers.length c8), (.int .i64 e.Block.First), (.int .i64 e.Block.Count)]) rfl (fun w => by kernel_rfl)) fun a hf => ?_
   have H := H.recast (X := [(⟨F5, MP.own F5 [(.slice A8 y2.Fibers.length c8)] (y2.Fibers : List Int)⟩ : DI)]) (Y := [(⟨F5, MP.own F5 [(.int .i64 e.Id), (.int .i64 y2.Start), (.slice A8 y2.Fibers.length c8), (.int .i64 e.Block.First), (.int .i64 e.Block.Count)] (({ Id := e.Id, Route := y2, Block := e.Block } : Light) : Light)⟩ : DI)]) (List.Perm.of_eq (by simp)) fun _ => ps1 (Light_ownmk (x := ({ Id := e.Id, Route := y2, Block := e.Block } : Light)) (H.ownAt 0 rfl)) ps0
   refine nn 10 rfl (op_bsliceO hf 73 H rfl (fun w => by kernel_rfl) (by decide) fun A9 a w hf H => ?_)
   have hS := H.lt_ [true, true, false] [false, false] [false, false] []
   refine aS hS ?_
   obtain ⟨al, hal, hR1⟩ := bs_ hR1
   have H := H.frontR 1 rfl
   refine nn 11 rfl (op_appO hf H Tryz.underlying35 TF.ai73 rfl (by decide) rfl rfl hal (by decide) fun E2 A10 c9 a w hf H => ?_)
   have hS := H.lt_ [true, true, false] [false] [false, false] []
   refine aS hS ?_
   refine zp 12 hf hS fun a hf => ?_
   refine nn 13 rfl (op_storeB hf H 1 TF.sz35 rfl rfl rfl rfl rfl rfl (nle rfl) fun w H => ?_)
   refine ⟨fun h => absurd h (by decide), ?_⟩
   refine dk ?_
   have hf := hf.pn [2, 3, 11, 12, 13]
   refine blk_n (then_n (reg (pz 2 hf fun a hf => ?_)))
   refine wl_end ?_
   have hf := hf.pn [2, 3, 11, 12, 13]
   have H := H.lt_ [false, true, true] [true] [true, true] [3, 4, 5]
   exact then_n ⟨(w64 (i + 1), al), hR1, A10, c9, E2, Fs ++ [F5], hf, H⟩
  ·refine wp_exit (then_x (then_x (blk_e (?_))))
   have hf := hf.pn [2, 3, 11, 12, 13]
   have H := H.lt_ [true, true] [true] [true, true] [0, 1, 2]
   exact ⟨(i, m), (Option.some.inj hR1).symm, A6, c6, E, Fs, hf, H⟩
 rintro a w ⟨⟨i2, m2⟩, rfl, A11, c10, E3, Fs2, hf, H⟩
 try dsimp only at hF
 refine then_n (sq (reg (lN 0 hf H TF.la37 fun a hf => ?_)))
 refine sB 1 hf H TF.sz37 fun w H => ?_
 refine wer ?_
 obtain ⟨F6, H⟩ := H.freezeOwn 0 rfl
 have H := H.lend 0 rfl
 have H := H.frontD 2 rfl
 have H := H.frontD 2 rfl
 obtain rfl := oi hF
 refine ret_1 hf rfl (rv_cellN hf H 1 TF.la37 rfl rfl rfl) ?_
 have hN := H.ends3
 exact ⟨_, rfl, H.bel, (F2 ++ (F3 ++ F6)), ⟨_, Plan_ownmk (x := ({ Network := y, Lights := m2 } : Plan)) (H.ownAt 0 rfl) (H.ownAt 1 rfl) (H.ownAt 2 rfl), rfl⟩, by first | exact hN | simpa using hN⟩
theorem impl_CompactPlan_ok {S : Nat → Prop} {v0_ : Value} {p : Plan} {r : Plan × Bool} (h0 : VR w0 S v0_ p) (hF : impl_CompactPlan fu p = some r) :
    Calls Tryz.prog 15 [v0_].toArray w0 fun e w' => ∃ v, e = .returned v ∧ (Below w0.heap.size w0 w' ∧ ∃ F0, ∃ u0 u1, v = .tuple #[u0, u1] ∧ VO w' F0 u0 r.1 ∧ VR w' (St ⟨w0, []⟩ S [] [] [] true) u1 r.2 ∧ New w0 w' F0) := by
 obtain ⟨A, c, A2, c2, A3, c3, rfl, hl, hl2, hl3⟩ := Plan_open h0
 have H := Mem.start ⟨w0, []⟩ S
 have H := H.pA hl
 have H := H.pA hl2
 have H := H.pA hl3
 refine en Tryz.func15 fun a hf => ?_
 rw [impl_CompactPlan] at hF
 refine bx hf H fun b' a w hf H => ?_
 refine aL hf H TF.zv37 fun b2 a w hf H => ?_
 refine pz 1 hf fun a hf => ?_
 refine wl_end (then_n (sq (sq (reg (lN 1 hf H TF.la37 fun a hf => ?_)))))
 obtain ⟨y, hy, hF⟩ := bs_ hF
 refine oc hf TF.cl34 (impl_IsValidPlan_ok (S := TT) (Plan_mkv (x := p) (H.rt 2 rfl) (H.rt 1 rfl) (H.rt 0 rfl)) hy) fun v w a hp hf => ?_
 obtain ⟨hb, hp⟩ := hp
 obtain rfl := VR_bool hp
 have H := H.keep hb
 refine pz 1 hf fun a hf => ?_
 refine wl_end (then_n (ib hF hf (fun hc hF => ?_) fun hc hF => ?_))
 ·refine sq (reg (oq hf (rq_build hf (cs := [(.slice none 0 0), (.slice none 0 0), (.slice none 0 0)]) rfl (fun w => by kernel_rfl)) fun a hf => ?_))
  refine sB 0 hf H TF.sz37 fun w H => ?_
  refine pz 1 hf fun a hf => ?_
  refine wl_end (then_n (wp_ret (then_r (?_))))
  have H := H.ownNil (ByteArray)
  have H := H.lend 0 rfl
  have H := H.ownNil (Fiber)
  have H := H.lend 0 rfl
  have H := H.ownNil (Light)
  have H := H.lend 0 rfl
  have H := H.frontD 1 rfl
  have H := H.frontD 2 rfl
  obtain rfl := oi hF
  refine ret_2 hf rfl (rv_cellN hf H 0 TF.la37 rfl rfl rfl) (rv_tmp hf rfl) ?_
  have hN := H.ends3
  exact ⟨_, rfl, H.bel, ([] ++ ([] ++ [])), _, _, rfl, ⟨_, Plan_ownmk (x := ({ Network := ({ Nodes := [], Fibers := [] } : Network), Lights := [] } : Plan)) (H.ownAt 0 rfl) (H.ownAt 1 rfl) (H.ownAt 2 rfl), rfl⟩, mk_bool, by first | exact hN | simpa using hN⟩
 ·refine wp_skip (then_n (sq (dw [] 12 fun w hb => ?_)))
  have H := H.keep hb
  refine zp 0 hf trivial fun a hf => ?_
  refine strT (H.lt_ [false, true] [] [] []) (fun w H => trivial) fun hS => ?_
  refine zS 1 [] rfl rfl rfl rfl hf hS (fun w H => rq_loadBN hf H TF.la34 0 rfl rfl rfl rfl) fun a hf => ?_
  refine zS 2 [] rfl rfl rfl rfl hf hS (fun w H => rq_loadBN hf H TF.la37 0 rfl rfl rfl rfl) fun a hf => ?_
  obtain ⟨y2, hy2, hF⟩ := bs_ hF
  refine nn 3 rfl (oC hf TF.cl54 (impl_requestsOf_ok (Plan_mkv (x := p) (H.get 2 rfl) (H.get 1 rfl) (H.get 0 rfl)) hy2) fun v2 w a hp2 hf => ?_)
  obtain ⟨hb2, hp2⟩ := hp2
  obtain ⟨A4, c4, rfl, hl4⟩ := VR_list hp2
  replace hl4 := H.res (f := MP.val [(.slice A4 y2.length c4)] y2) hl4
  have H := H.keep hb2
  have H := H.pF hl4
  have hS := H.lt_ [false, true] [] [] []
  refine aS hS ?_
  obtain ⟨y3, hy3, hF⟩ := bs_ hF
  refine nn 4 rfl (oC hf TF.cl20 (impl_AssignExact_ok (S := TT) (Network_mkv (x := p.Network) (H.rt 3 rfl) (H.rt 2 rfl)) (mk_list (H.rt 0 rfl)) hy3) fun v3 w a hp3 hf => ?_)
  obtain ⟨hb3, F, v4, v5, v6, rfl, hp4, hp5, hp6, hN⟩ := hp3
  obtain ⟨A5, c5, rfl, hl5⟩ := VO_list hp4
  obtain rfl := VR_int hp5
  obtain rfl := VR_bool hp6
  have H := H.aO1 hb3 hN hl5
  have H := H.lend 0 rfl
  have hS := H.lt_ [false, true] [] [false] []
  refine aS hS ?_
  refine zp 5 hf hS fun a hf => ?_
  refine zp 6 hf hS fun a hf => ?_
  refine zp 7 hf hS fun a hf => ?_
  refine zp 8 hf hS fun a hf => ?_
  refine zp 9 hf hS fun a hf => ?_
  refine zp 10 hf hS fun a hf => ?_
  refine zp 11 hf hS fun a hf => ?_
  refine dk ?_
  have hf := hf.pn [1, 2, 4, 6]
  refine then_n (sq (sqz (pz 2 hf fun a hf => ?_)))
  refine wl_end (then_n (ib hF hf (fun hc2 hF => ?_) fun hc2 hF => ?_))
  ·refine sq (reg (oq hf (rq_build hf (cs := [(.slice none 0 0), (.slice none 0 0), (.slice none 0 0)]) rfl (fun w => by kernel_rfl)) fun a hf => ?_))
   refine sB 0 hf H TF.sz37 fun w H => ?_
   refine pz 1 hf fun a hf => ?_
   refine wl_end (then_n (wp_ret (then_r (?_))))
   have H := H.ownNil (ByteArray)
   have H := H.lend 0 rfl
   have H := H.ownNil (Fiber)
   have H := H.lend 0 rfl
   have H := H.ownNil (Light)
   have H := H.lend 0 rfl
   have H := H.frontD 1 rfl
   have H := H.frontD 2 rfl
   obtain rfl := oi hF
   refine ret_2 hf rfl (rv_cellN hf H 0 TF.la37 rfl rfl rfl) (rv_tmp hf rfl) ?_
   have hN := H.ends3
   exact ⟨_, rfl, H.bel, ([] ++ ([] ++ [])), _, _, rfl, ⟨_, Plan_ownmk (x := ({ Network := ({ Nodes := [], Fibers := [] } : Network), Lights := [] } : Plan)) (H.ownAt 0 rfl) (H.ownAt 1 rfl) (H.ownAt 2 rfl), rfl⟩, mk_bool, by first | exact hN | simpa using hN⟩
  ·refine wp_skip (then_n (sq (reg (lN 1 hf H TF.la37 fun a hf => ?_))))
   obtain ⟨y4, hy4, hF⟩ := bs_ hF
   refine oc hf TF.cl58 (impl_copyPlan_ok (S := TT) (Plan_mkv (x := p) (H.rt 4 rfl) (H.rt 3 rfl) (H.rt 2 rfl)) hy4) fun v7 w a hp7 hf => ?_
   obtain ⟨hb4, F3, hp8, hN2⟩ := hp7
   obtain ⟨A6, c6, F4, A7, c7, F5, A8, c8, F6, rfl, rfl, hl6, hl7, hl8⟩ := Plan_vo hp8
   have H := H.aO3 hb4 (by first | exact hN2 | simpa using hN2) hl6 hl7 hl8
   have H := H.lend 0 rfl
   have H := H.lend 1 rfl
   have H := H.lend 2 rfl
   have H := H.frontD 2 rfl
   obtain ⟨Fs, E, H, -⟩ := H.thaw rfl
   have H := H.pA hl
   have H := H.pA hl2
   have H := H.pA hl3
   have H := H.lend 0 rfl
   have H := H.lend 1 rfl
   have H := H.lend 2 rfl
   refine aL hf H TF.zv37 fun b3 a w hf H => ?_
   refine sB 0 hf H TF.sz37 fun w H => ?_
   refine we (sqz (pz 3 hf fun a hf => ?_))
   refine wl_end (then_n ?_)
   obtain ⟨out', hB1, hF⟩ := bs_ hF
   have hf := hf.pn [2, 7, 28, 29, 30]
   have H := H.lt_ [true, true, false] [true] [true, true, true] [0, 1, 2]
   refine loopC (fun (s : Int × List Light) (a : Act) (w : World) => match s with | (i, m) => ∃ (A9 : Option Addr) (c9 : Nat) (E2 : Go.TypeId) (Fs2 : List (List Nat)), Fr a 43 [(2, (.pointer (some ⟨b2, 0, none⟩))), (7, (.pointer (some ⟨b3, 0, none⟩))), (28, (.slice A5 y3.1.length c5)), (29, (.int .i64 (y3.1.length : Int))), (30, (.int .i64 i))] ∧ Mem ⟨w0, []⟩ S [⟨b3, 37, [(.slice A6 y4.Network.Nodes.length c6), (.slice A7 y4.Network.Fibers.length c7), (.slice A9 m.length c9)]⟩, ⟨b2, 37, [(.slice none 0 0), (.slice none 0 0), (.slice none 0 0)]⟩] [⟨.ow Fs2, E2, A9, c9, (m : List Light)⟩] [⟨F4, MP.own F4 [(.slice A6 y4.Network.Nodes.length c6)] (y4.Network.Nodes : List ByteArray)⟩, ⟨F5, MP.own F5 [(.slice A7 y4.Network.Fibers.length c7)] (y4.Network.Fibers : List Fiber)⟩, ⟨F, MP.own F [(.slice A5 y3.1.length c5)] (y3.1 : List Block)⟩] [(true, MP.val [(.slice A5 y3.1.length c5)] (y3.1 : List Block)), (true, MP.val [(.slice A7 y4.Network.Fibers.length c7)] (y4.Network.Fibers : List Fiber)), (true, MP.val [(.slice A6 y4.Network.Nodes.length c6)] (y4.Network.Nodes : List ByteArray))] w) (fun k (s : Int × List Light) => impl_CompactPlan_L1 fu y3 k s.1 s.2 = some out') (fun s => out' = s) (0, y4.Lights) fu hB1 ⟨A8, c8, E, Fs, hf, H⟩ (fun s h => by cases h) ?_ ?_
   ·rintro fk ⟨i, m⟩ a w hR1 hI
    replace hR1 : impl_CompactPlan_L1 fu y3 (fk + 1) i m = some out' := hR1
    rw [impl_CompactPlan_L1] at hR1
    obtain ⟨A9, c9, E2, Fs2, hf, H⟩ := hI
    refine sqz (pz 1 hf fun a hf => ?_)
    refine wl_end (then_n (sq (ib hR1 hf (fun hc3 hR1 => ?_) fun hc3 hR1 => ?_)))
    ·refine ws (pz 1 hf fun a hf => ?_)
     obtain ⟨e, he, hR1⟩ := bs_ hR1
     refine wl0 rfl (op_iaddr hf H Tryz.underlying50 TF.sz71 0 rfl rfl rfl he (by decide) fun p2 o cs a hf hr H => ?_)
     obtain rfl := Block_cells hr
     refine oq hf (rq_loadIN hf H TF.la71 0 0 rfl rfl rfl rfl) fun a hf => ?_
     refine aL hf H TF.zv71 fun b4 a w hf H => ?_
     refine pz 1 hf fun a hf => ?_
     refine sB 0 hf H TF.sz71 fun w H => ?_
     refine wl_end (then_n (reg (pz 1 hf fun a hf => ?_)))
     refine lB 1 hf H TF.ls35 fun a hf => ?_
     refine pz 1 hf fun a hf => ?_
     refine lN 0 hf H TF.la71 fun a hf => ?_
     obtain ⟨e2, he2, hR1⟩ := bs_ hR1
     refine wl0 rfl (op_iaddrR hf H Tryz.underlying35 TF.sz73 0 rfl rfl rfl he2 (by decide) fun p3 o2 cs2 a hf hA hr2 hk => ?_)
     have hrk := hr2
     obtain ⟨A10, c10, rfl, hl9⟩ := Light_cells hr2
     have H := H.pT hl9
     refine pz 1 hf fun a hf => ?_
     refine wl0 rfl (op_storeR (e' := ({ Id := e2.Id, Route := e2.Route, Block := e } : Light)) (o := o2) (off := 3) hf H TF.sz71 0 rfl rfl rfl rfl rfl (nle rfl) rfl hA he2 (st_own fun F cs h => by obtain ⟨A0, c0, F0, rfl, rfl, l0⟩ := Light_own h; exact Light_ownmk (x := ({ Id := e2.Id, Route := e2.Route, Block := e } : Light)) l0) fun w H => ?_)
     replace hf : Fr a 43 [(2, (.pointer (some ⟨b2, 0, none⟩))), (7, (.pointer (some ⟨b3, 0, none⟩))), (8, (.int .i64 i)), (9, (.pointer (some ⟨b4, 0, none⟩))), (28, (.slice A5 y3.1.length c5)), (29, (.int .i64 (y3.1.length : Int))), (30, (.int .i64 i)), (35, (.pointer (some ⟨b3, 2, none⟩))), (36, (.slice A9 m.length c9)), (37, (.int .i64 i)), (38, (.agg #[(.int .i64 e.First), (.int .i64 e.Count)])), (39, (.pointer (some ⟨p3, o2 + 0, none⟩))), (40, (.pointer (some ⟨p3, o2 + 3, none⟩)))] := hf.prune [2, 7, 8, 9, 28, 29, 30, 35, 36, 37, 38, 39, 40] rfl
     replace hf : Fr a 43 [(2, (.pointer (some ⟨b2, 0, none⟩))), (7, (.pointer (some ⟨b3, 0, none⟩))), (8, (.int .i64 i)), (9, (.pointer (some ⟨b4, 0, none⟩))), (28, (.slice A5 y3.1.length c5)), (29, (.int .i64 (y3.1.length : Int))), (30, (.int .i64 i)), (35, (.pointer (some ⟨b3, 2, none⟩))), (36, (.slice A9 (m.set (i : Int).toNat ({ Id := e2.Id, Route := e2.Route, Block := e } : Light)).length c9)), (37, (.int .i64 i)), (38, (.agg #[(.int .i64 e.First), (.int .i64 e.Count)])), (39, (.pointer (some ⟨p3, o2 + 0, none⟩))), (40, (.pointer (some ⟨p3, o2 + 3, none⟩)))] := by simpa only [List.length_set, Nat.add_zero] using hf
     replace H : Mem ⟨w0, []⟩ S [⟨b4, 71, [(.int .i64 e.First), (.int .i64 e.Count)]⟩, ⟨b3, 37, [(.slice A6 y4.Network.Nodes.length c6), (.slice A7 y4.Network.Fibers.length c7), (.slice A9 (m.set (i : Int).toNat ({ Id := e2.Id, Route := e2.Route, Block := e } : Light)).length c9)]⟩, ⟨b2, 37, [(.slice none 0 0), (.slice none 0 0), (.slice none 0 0)]⟩] [⟨.ow Fs2, E2, A9, c9, (m.set (i : Int).toNat ({ Id := e2.Id, Route := e2.Route, Block := e } : Light) : List Light)⟩] [⟨F4, MP.own F4 [(.slice A6 y4.Network.Nodes.length c6)] (y4.Network.Nodes : List ByteArray)⟩, ⟨F5, MP.own F5 [(.slice A7 y4.Network.Fibers.length c7)] (y4.Network.Fibers : List Fiber)⟩, ⟨F, MP.own F [(.slice A5 y3.1.length c5)] (y3.1 : List Block)⟩] [(true, MP.val [(.slice A10 e2.Route.Fibers.length c10)] (e2.Route.Fibers : List Int)), (true, MP.cells ⟨p2, o, none⟩ [(.int .i64 e.First), (.int .i64 e.Count)]), (true, MP.val [(.slice A5 y3.1.length c5)] (y3.1 : List Block)), (true, MP.val [(.slice A7 y4.Network.Fibers.length c7)] (y4.Network.Fibers : List Fiber)), (true, MP.val [(.slice A6 y4.Network.Nodes.length c6)] (y4.Network.Nodes : List ByteArray))] w := by first | (simp only [List.length_set]; exact H) | (simp only [List.length_set] at H ⊢; exact H)
     refine wl_end (blk_n (then_n (reg (pz 2 hf fun a hf => ?_))))
     refine wl_end ?_
     have hf := hf.pn [2, 7, 28, 29, 30]
     have H := H.lt_ [false, true, true] [true] [true, true, true] [2, 3, 4]
     exact then_n ⟨(w64 (i + 1), m.set (i : Int).toNat ({ Id := e2.Id, Route := e2.Route, Block := e } : Light)), hR1, A9, c9, E2, Fs2, hf, H⟩
    ·refine wp_exit (then_x (then_x (blk_e (?_))))
     have hf := hf.pn [2, 7, 28, 29, 30]
     have H := H.lt_ [true, true] [true] [true, true, true] [0, 1, 2]
     exact ⟨(i, m), (Option.some.inj hR1).symm, A9, c9, E2, Fs2, hf, H⟩
   rintro a w ⟨⟨i2, m2⟩, rfl, A11, c11, E3, Fs3, hf, H⟩
   try dsimp only at hF
   refine then_n (sq (reg (lN 0 hf H TF.la37 fun a hf => ?_)))
   refine sB 1 hf H TF.sz37 fun w H => ?_
   refine pz 1 hf fun a hf => ?_
   refine wer ?_
   obtain ⟨F7, H⟩ := H.freezeOwn 0 rfl
   have H := H.lend 0 rfl
   have H := H.frontD 2 rfl
   have H := H.frontD 2 rfl
   obtain rfl := oi hF
   refine ret_2 hf rfl (rv_cellN hf H 1 TF.la37 rfl rfl rfl) (rv_tmp hf rfl) ?_
   have hN := H.ends3
   exact ⟨_, rfl, H.bel, (F4 ++ (F5 ++ F7)), _, _, rfl, ⟨_, Plan_ownmk (x := ({ Network := y4.Network, Lights := m2 } : Plan)) (H.ownAt 0 rfl) (H.ownAt 1 rfl) (H.ownAt 2 rfl), rfl⟩, mk_bool, by first | exact hN | simpa using hN⟩
theorem laws_vBig_ok {S : Nat → Prop} {v0_ : Value} {code : List By} {r : Bool} (h0 : VR w0 S v0_ code) (hF : laws_vBig fu code = some r) :
    Calls Tryz.prog 18 [v0_].toArray w0 fun e w' => ∃ v, e = .returned v ∧ (Below w0.heap.size w0 w' ∧ VR w' (St ⟨w0, []⟩ S [] [] [] true) v r) := by
 obtain ⟨A, c, rfl, hl⟩ := VR_list h0
 have H := Mem.start ⟨w0, []⟩ S
 have H := H.pA hl
 refine en Tryz.func18 fun a hf => ?_
 rw [laws_vBig] at hF
 refine sqz (pz 1 hf fun a hf => ?_)
 refine wr (pz 4 hf fun a hf => ?_)
 refine wer ?_
 obtain rfl := oi hF
 refine rT hf ?_
 exact ⟨_, rfl, H.bel, mk_bool⟩
theorem spec_l1Cur_next_ok {S : Nat → Prop} {b0 : Nat} {cs0 : List Value} {c : L1CurP} {r : Int × L1CurP} (hp0 : w0.heap[b0]? = some (.cells cs0.toArray 101 (0, 0))) (hr0 : GoTy.rep w0 S cs0 c) (hS0 : ¬ S b0) (hF : spec_l1Cur_next fu c = some r) :
    Calls Tryz.prog 193 [(.pointer (some ⟨b0, 0, none⟩))].toArray w0 fun e w' => ∃ v, e = .returned v ∧ (Chg w0 w' [b0] ∧ ∃ cs', w'.heap[b0]? = some (.cells cs'.toArray 101 (0, 0)) ∧ GoTy.rep w' (St ⟨w0, [b0]⟩ S [⟨b0, 101, cs'⟩] [] [] false) cs' r.2 ∧ (cs'[0]? = cs0[0]? ∧ r.2.code = c.code) ∧ VR w' (St ⟨w0, [b0]⟩ S [⟨b0, 101, cs'⟩] [] [] true) v r.1) := by
 obtain ⟨A, c2, rfl, hl⟩ := L1CurP_cells hr0
 have H := Mem.startB S hp0
 have H := H.pB hS0 hl
 refine en Tryz.func193 fun a hf => ?_
 rw [spec_l1Cur_next] at hF
 refine sqz (pz 1 hf fun a hf => ?_)
 refine wr (pz 1 hf fun a hf => ?_)
 refine wl_end (then_n (sq (sq (dw [] 10 fun w hb => ?_))))
 have H := H.keep hb
 refine zp 0 hf trivial fun a hf => ?_
 refine zp 1 hf trivial fun a hf => ?_
 refine zp 2 hf trivial fun a hf => ?_
 refine strT (H.lt_ [true] [] [] []) (fun w H => trivial) fun hS => ?_
 refine zS 3 [] rfl rfl rfl rfl hf hS (fun w H => rq_loadB hf H TF.ls3 0 rfl rfl rfl) fun a hf => ?_
 refine zp 4 hf hS fun a hf => ?_
 refine zp 5 hf hS fun a hf => ?_
 refine zp 6 hf hS fun a hf => ?_
 refine zS 7 [] rfl rfl rfl rfl hf hS (fun w H => rq_loadB hf H TF.ls44 0 rfl rfl rfl) fun a hf => ?_
 refine zp 8 hf hS fun a hf => ?_
 refine zp 9 hf hS fun a hf => ?_
 refine dk ?_
 refine then_n (ib hF hf (fun hc hF => ?_) fun hc hF => ?_)
 ·refine dw [] 12 fun w hb => ?_
  have H := H.keep hb
  refine zp 0 hf trivial fun a hf => ?_
  refine zp 1 hf trivial fun a hf => ?_
  refine zp 2 hf trivial fun a hf => ?_
  refine strT (H.lt_ [true] [] [] []) (fun w H => trivial) fun hS => ?_
  refine zS 3 [] rfl rfl rfl rfl hf hS (fun w H => rq_loadB hf H TF.ls44 0 rfl rfl rfl) fun a hf => ?_
  refine zp 4 hf hS fun a hf => ?_
  refine zp 5 hf hS fun a hf => ?_
  refine zp 6 hf hS fun a hf => ?_
  refine zS 7 [] rfl rfl rfl rfl hf hS (fun w H => rq_loadB hf H TF.ls3 0 rfl rfl rfl) fun a hf => ?_
  obtain ⟨e, he, hF⟩ := bs_ hF
  obtain ⟨p, o2, cs2, hx, hr2, H⟩ := pre_iaddr H Tryz.underlying44 TF.sz5 0 rfl he
  refine zP 8 rfl rfl rfl rfl hf hS (fun w => rq_iaddrE hf rfl rfl rfl hx w) fun a hf => ?_
  obtain rfl := hr2
  refine strT (H.lt_ [true] [] [] [0]) (fun w H => H.lt_ [true] [] [] []) fun hS => ?_
  refine zS 9 [] rfl rfl rfl rfl hf hS (fun w H => rq_loadI hf H TF.ls5 0 0 rfl rfl rfl) fun a hf => ?_
  refine nn 10 rfl (op_q hf (rq_conv i64w Tryz.underlying5 Tryz.underlying3 hf rfl) rfl (by decide) fun a hf => ?_)
  have hS := H.lt_ [true] [] [] [0]
  refine aS hS ?_
  refine zp 11 hf hS fun a hf => ?_
  refine dk ?_
  have hf := hf.pn [0, 3]
  refine then_n (sqz (pz 3 hf fun a hf => ?_))
  refine lB 0 hf H TF.ls3 fun a hf => ?_
  refine pz 3 hf fun a hf => ?_
  refine sB 0 hf H TF.sz3 fun w H => ?_
  refine wr (pz 4 hf fun a hf => ?_)
  refine lB 0 hf H TF.ls99 fun a hf => ?_
  refine oq hf (rq_mulK u64w hf rfl rfl) fun a hf => ?_
  refine pz 1 hf fun a hf => ?_
  refine oq hf (rq_conv u64w Tryz.underlying3 Tryz.underlying99 hf rfl) fun a hf => ?_
  refine oq hf (rq_addK u64w hf rfl rfl) fun a hf => ?_
  refine oq hf (rq_addK u64w hf rfl rfl) fun a hf => ?_
  refine pz 2 hf fun a hf => ?_
  refine sB 0 hf H TF.sz99 fun w H => ?_
  have hf := hf.pn [0, 3]
  refine wl_end (then_n (sq (sq (dw [] 10 fun w hb => ?_))))
  have H := H.keep hb
  refine zp 0 hf trivial fun a hf => ?_
  refine zp 1 hf trivial fun a hf => ?_
  refine zp 2 hf trivial fun a hf => ?_
  refine strT (H.lt_ [true] [] [] []) (fun w H => trivial) fun hS => ?_
  refine zS 3 [] rfl rfl rfl rfl hf hS (fun w H => rq_loadB hf H TF.ls3 0 rfl rfl rfl) fun a hf => ?_
  refine zp 4 hf hS fun a hf => ?_
  refine zp 5 hf hS fun a hf => ?_
  refine zp 6 hf hS fun a hf => ?_
  refine zS 7 [] rfl rfl rfl rfl hf hS (fun w H => rq_loadB hf H TF.ls44 0 rfl rfl rfl) fun a hf => ?_
  refine zp 8 hf hS fun a hf => ?_
  refine zp 9 hf hS fun a hf => ?_
  refine dk ?_
  refine then_n (ib hF hf (fun hc2 hF => ?_) fun hc2 hF => ?_)
  ·refine sqz (pz 2 hf fun a hf => ?_)
   have hf := hf.pn [2]
   refine wl_end (then_n (wp_ret (then_r (?_))))
   obtain rfl := oi hF
   refine rT hf ?_
   exact ⟨_, rfl, H.chg, _, H.boxAt 0 rfl, (L1CurP_mk (x := ({ code := c.code, at_ := w64 (c.at_ + 1), seed := (⟨wu64 ((wu64 ((wu64 (c.seed.n * 6364136223846793005)) + (wu64 (w64 e.n)))) + 897897)⟩ : U64) } : L1CurP)) (eB 0 (H.get 1 rfl))), ⟨rfl, rfl⟩, mk_int⟩
  ·refine wp_skip (then_n (sqz (pz 3 hf fun a hf => ?_)))
   refine lB 0 hf H TF.ls99 fun a hf => ?_
   obtain ⟨q, hq, hF⟩ := bs_ hF
   refine oq hf (rq_shrK rfl hf rfl rfl hq) fun a hf => ?_
   refine oq hf (rq_andu64 hf rfl rfl) fun a hf => ?_
   refine oq hf (rq_conv i64w Tryz.underlying99 Tryz.underlying3 hf rfl) fun a hf => ?_
   refine pz 1 hf fun a hf => ?_
   have hf := hf.pn [2]
   refine wer ?_
   obtain rfl := oi hF
   refine rT hf ?_
   exact ⟨_, rfl, H.chg, _, H.boxAt 0 rfl, (L1CurP_mk (x := ({ code := c.code, at_ := w64 (c.at_ + 1), seed := (⟨wu64 ((wu64 ((wu64 (c.seed.n * 6364136223846793005)) + (wu64 (w64 e.n)))) + 897897)⟩ : U64) } : L1CurP)) (eB 0 (H.get 1 rfl))), ⟨rfl, rfl⟩, mk_int⟩
 ·refine wp_skip (then_n (sqz (pz 3 hf fun a hf => ?_)))
  refine lB 0 hf H TF.ls3 fun a hf => ?_
  refine pz 3 hf fun a hf => ?_
  refine sB 0 hf H TF.sz3 fun w H => ?_
  have hf := hf.pn [0, 3]
  refine wr (pz 4 hf fun a hf => ?_)
  refine lB 0 hf H TF.ls99 fun a hf => ?_
  refine oq hf (rq_mulK u64w hf rfl rfl) fun a hf => ?_
  refine pz 1 hf fun a hf => ?_
  refine oq hf (rq_conv u64w Tryz.underlying3 Tryz.underlying99 hf rfl) fun a hf => ?_
  refine oq hf (rq_addK u64w hf rfl rfl) fun a hf => ?_
  refine oq hf (rq_addK u64w hf rfl rfl) fun a hf => ?_
  refine pz 2 hf fun a hf => ?_
  refine sB 0 hf H TF.sz99 fun w H => ?_
  refine wl_end (then_n (sq (sq (dw [] 10 fun w hb => ?_))))
  have H := H.keep hb
  refine zp 0 hf trivial fun a hf => ?_
  refine zp 1 hf trivial fun a hf => ?_
  refine zp 2 hf trivial fun a hf => ?_
  refine strT (H.lt_ [true] [] [] []) (fun w H => trivial) fun hS => ?_
  refine zS 3 [] rfl rfl rfl rfl hf hS (fun w H => rq_loadB hf H TF.ls3 0 rfl rfl rfl) fun a hf => ?_
  refine zp 4 hf hS fun a hf => ?_
  refine zp 5 hf hS fun a hf => ?_
  refine zp 6 hf hS fun a hf => ?_
  refine zS 7 [] rfl rfl rfl rfl hf hS (fun w H => rq_loadB hf H TF.ls44 0 rfl rfl rfl) fun a hf => ?_
  refine zp 8 hf hS fun a hf => ?_
  refine zp 9 hf hS fun a hf => ?_
  refine dk ?_
  have hf := hf.pn [0, 3, 53]
  refine then_n (ib hF hf (fun hc3 hF => ?_) fun hc3 hF => ?_)
  ·refine sqz (pz 2 hf fun a hf => ?_)
   refine wl_end (then_n (wp_ret (then_r (?_))))
   obtain rfl := oi hF
   refine rT hf ?_
   exact ⟨_, rfl, H.chg, _, H.boxAt 0 rfl, (L1CurP_mk (x := ({ code := c.code, at_ := w64 (c.at_ + 1), seed := (⟨wu64 ((wu64 ((wu64 (c.seed.n * 6364136223846793005)) + (wu64 0))) + 897897)⟩ : U64) } : L1CurP)) (eB 0 (H.get 0 rfl))), ⟨rfl, rfl⟩, mk_int⟩
  ·refine wp_skip (then_n (sqz (pz 3 hf fun a hf => ?_)))
   refine lB 0 hf H TF.ls99 fun a hf => ?_
   obtain ⟨q2, hq2, hF⟩ := bs_ hF
   refine oq hf (rq_shrK rfl hf rfl rfl hq2) fun a hf => ?_
   refine oq hf (rq_andu64 hf rfl rfl) fun a hf => ?_
   refine oq hf (rq_conv i64w Tryz.underlying99 Tryz.underlying3 hf rfl) fun a hf => ?_
   refine pz 1 hf fun a hf => ?_
   refine wer ?_
   obtain rfl := oi hF
   refine rT hf ?_
   exact ⟨_, rfl, H.chg, _, H.boxAt 0 rfl, (L1CurP_mk (x := ({ code := c.code, at_ := w64 (c.at_ + 1), seed := (⟨wu64 ((wu64 ((wu64 (c.seed.n * 6364136223846793005)) + (wu64 0))) + 897897)⟩ : U64) } : L1CurP)) (eB 0 (H.get 0 rfl))), ⟨rfl, rfl⟩, mk_int⟩
theorem spec_l1Cur_pick_ok {S : Nat → Prop} {b0 : Nat} {cs0 : List Value} {v1_ : Value} {c : L1CurP} {n' : Int} {r : Int × L1CurP} (hp0 : w0.heap[b0]? = some (.cells cs0.toArray 101 (0, 0))) (hr0 : GoTy.rep w0 S cs0 c) (hS0 : ¬ S b0) (h1 : VR w0 S v1_ n') (hF : spec_l1Cur_pick fu c n' = some r) :
    Calls Tryz.prog 133 [(.pointer (some ⟨b0, 0, none⟩)), v1_].toArray w0 fun e w' => ∃ v, e = .returned v ∧ (Chg w0 w' [b0] ∧ ∃ cs', w'.heap[b0]? = some (.cells cs'.toArray 101 (0, 0)) ∧ GoTy.rep w' (St ⟨w0, [b0]⟩ S [⟨b0, 101, cs'⟩] [] [] false) cs' r.2 ∧ (cs'[0]? = cs0[0]? ∧ r.2.code = c.code) ∧ VR w' (St ⟨w0, [b0]⟩ S [⟨b0, 101, cs'⟩] [] [] true) v r.1) := by
 obtain ⟨A, c2, rfl, hl⟩ := L1CurP_cells hr0
 obtain rfl := VR_int h1
 have H := Mem.startB S hp0
 have H := H.pB hS0 hl
 refine en Tryz.func133 fun a hf => ?_
 rw [spec_l1Cur_pick] at hF
 refine sqz (pz 1 hf fun a hf => ?_)
 refine we (sqz (pz 2 hf fun a hf => ?_))
 refine wl_end (then_n (ib hF hf (fun hc hF => ?_) fun hc hF => ?_))
 ·refine sqz (pz 1 hf fun a hf => ?_)
  refine wl_end (then_n (wp_ret (then_r (?_))))
  obtain rfl := oi hF
  refine rT hf ?_
  exact ⟨_, rfl, H.chg, _, H.boxAt 0 rfl, (L1CurP_mk (x := c) (eB 0 (H.get 0 rfl))), ⟨rfl, rfl⟩, mk_int⟩
 ·refine wp_skip (then_n (sqz (pz 1 hf fun a hf => ?_)))
  obtain ⟨y, hy, hF⟩ := bs_ hF
  refine oc hf TF.cl193 (spec_l1Cur_next_ok (S := NB b0) (H.boxAt 0 rfl) ((L1CurP_mk (x := c) (H.nb 0 rfl (H.get 0 rfl)))) (fun h => h rfl) hy) fun v w a hp3 hf => ?_
  obtain ⟨hch, cs3, hbx, hr3, ⟨hx, hx2⟩, hs⟩ := hp3
  obtain rfl := VR_int hs
  obtain ⟨A2, c3, rfl, hl2⟩ := L1CurP_cells hr3
  obtain ⟨rfl, rfl⟩ := fx_slice hx rfl rfl
  have H := H.wroteBox 0 rfl hch hbx
  have H := H.pX 0 rfl hx2
  refine pz 1 hf fun a hf => ?_
  refine we (sqz (pz 2 hf fun a hf => ?_))
  refine wl_end (then_n (ib hF hf (fun hc2 hF => ?_) fun hc2 hF => ?_))
  ·refine reg (pz 3 hf fun a hf => ?_)
   obtain ⟨y2, hy2, hF⟩ := bs_ hF
   refine oc hf TF.cl193 (spec_l1Cur_next_ok (S := NB b0) (H.boxAt 0 rfl) ((L1CurP_mk (x := y.2) (H.nb 0 rfl (H.get 0 rfl)))) (fun h => h rfl) hy2) fun v2 w a hp4 hf => ?_
   obtain ⟨hch2, cs4, hbx2, hr4, ⟨hx3, hx4⟩, hs2⟩ := hp4
   obtain rfl := VR_int hs2
   obtain ⟨A3, c4, rfl, hl3⟩ := L1CurP_cells hr4
   obtain ⟨rfl, rfl⟩ := fx_slice hx3 rfl rfl
   have hx5 := hx4.trans hx2
   have H := H.wroteBox 0 rfl hch2 hbx2
   have H := H.pX 0 rfl hx4
   refine pz 2 hf fun a hf => ?_
   have hf := hf.pn [1, 5]
   refine wr (pz 2 hf fun a hf => ?_)
   obtain ⟨q, hq, hF⟩ := bs_ hF
   refine oq hf (rq_rem hf rfl rfl hq) fun a hf => ?_
   refine pz 1 hf fun a hf => ?_
   refine wer ?_
   obtain rfl := oi hF
   refine rT hf ?_
   exact ⟨_, rfl, H.chg, _, H.boxAt 0 rfl, (L1CurP_mk (x := y2.2) (eB 0 (H.get 0 rfl))), ⟨fxc hx5, hx5⟩, mk_int⟩
  ·refine wp_skip (then_n (sqz (pz 2 hf fun a hf => ?_)))
   obtain ⟨q2, hq2, hF⟩ := bs_ hF
   refine oq hf (rq_rem hf rfl rfl hq2) fun a hf => ?_
   refine pz 1 hf fun a hf => ?_
   refine wer ?_
   obtain rfl := oi hF
   refine rT hf ?_
   exact ⟨_, rfl, H.chg, _, H.boxAt 0 rfl, (L1CurP_mk (x := y.2) (eB 0 (H.get 0 rfl))), ⟨fxc hx2, hx2⟩, mk_int⟩
theorem spec_l1Cur_one_ok {S : Nat → Prop} {b0 : Nat} {cs0 : List Value} {v1_ : Value} {c : L1CurP} {n' : Int} {r : Bool × L1CurP} (hp0 : w0.heap[b0]? = some (.cells cs0.toArray 101 (0, 0))) (hr0 : GoTy.rep w0 S cs0 c) (hS0 : ¬ S b0) (h1 : VR w0 S v1_ n') (hF : spec_l1Cur_one fu c n' = some r) :
    Calls Tryz.prog 82 [(.pointer (some ⟨b0, 0, none⟩)), v1_].toArray w0 fun e w' => ∃ v, e = .returned v ∧ (Chg w0 w' [b0] ∧ ∃ cs', w'.heap[b0]? = some (.cells cs'.toArray 101 (0, 0)) ∧ GoTy.rep w' (St ⟨w0, [b0]⟩ S [⟨b0, 101, cs'⟩] [] [] false) cs' r.2 ∧ (cs'[0]? = cs0[0]? ∧ r.2.code = c.code) ∧ VR w' (St ⟨w0, [b0]⟩ S [⟨b0, 101, cs'⟩] [] [] true) v r.1) := by
 obtain ⟨A, c2, rfl, hl⟩ := L1CurP_cells hr0
 obtain rfl := VR_int h1
 have H := Mem.startB S hp0
 have H := H.pB hS0 hl
 refine en Tryz.func82 fun a hf => ?_
 rw [spec_l1Cur_one] at hF
 refine sqz (pz 1 hf fun a hf => ?_)
 refine wr (pz 2 hf fun a hf => ?_)
 obtain ⟨y, hy, hF⟩ := bs_ hF
 refine oc hf TF.cl133 (spec_l1Cur_pick_ok (S := NB b0) (H.boxAt 0 rfl) ((L1CurP_mk (x := c) (H.nb 0 rfl (H.get 0 rfl)))) (fun h => h rfl) mk_int hy) fun v w a hp3 hf => ?_
 obtain ⟨hch, cs3, hbx, hr3, ⟨hx, hx2⟩, hs⟩ := hp3
 obtain rfl := VR_int hs
 obtain ⟨A2, c3, rfl, hl2⟩ := L1CurP_cells hr3
 obtain ⟨rfl, rfl⟩ := fx_slice hx rfl rfl
 have H := H.wroteBox 0 rfl hch hbx
 have H := H.pX 0 rfl hx2
 refine pz 2 hf fun a hf => ?_
 refine wer ?_
 obtain rfl := oi hF
 refine rT hf ?_
 exact ⟨_, rfl, H.chg, _, H.boxAt 0 rfl, (L1CurP_mk (x := y.2) (eB 0 (H.get 0 rfl))), ⟨fxc hx2, hx2⟩, mk_bool⟩
theorem spec_l1Least_ok {S : Nat → Prop} {v0_ : Value} {v1_ : Value} {a' : Int} {b' : Int} {r : Int} (h0 : VR w0 S v0_ a') (h1 : VR w0 S v1_ b') (hF : spec_l1Least fu a' b' = some r) :
    Calls Tryz.prog 234 [v0_, v1_].toArray w0 fun e w' => ∃ v, e = .returned v ∧ (Below w0.heap.size w0 w' ∧ VR w' (St ⟨w0, []⟩ S [] [] [] true) v r) := by
 obtain rfl := VR_int h0
 obtain rfl := VR_int h1
 have H := Mem.start ⟨w0, []⟩ S
 refine en Tryz.func234 fun a hf => ?_
 rw [spec_l1Least] at hF
 refine sqz (pz 1 hf fun a hf => ?_)
 refine we (sqz (pz 3 hf fun a hf => ?_))
 refine wl_end (then_n (ib hF hf (fun hc hF => ?_) fun hc hF => ?_))
 ·refine sqz (pz 2 hf fun a hf => ?_)
  refine wl_end (then_n (wp_ret (then_r (?_))))
  obtain rfl := oi hF
  refine rT hf ?_
  exact ⟨_, rfl, H.bel, mk_int⟩
 ·refine wp_skip (then_n (sqz (pz 2 hf fun a hf => ?_)))
  refine wer ?_
  obtain rfl := oi hF
  refine rT hf ?_
  exact ⟨_, rfl, H.bel, mk_int⟩
theorem spec_l1Most_ok {S : Nat → Prop} {v0_ : Value} {v1_ : Value} {a' : Int} {b' : Int} {r : Int} (h0 : VR w0 S v0_ a') (h1 : VR w0 S v1_ b') (hF : spec_l1Most fu a' b' = some r) :
    Calls Tryz.prog 211 [v0_, v1_].toArray w0 fun e w' => ∃ v, e = .returned v ∧ (Below w0.heap.size w0 w' ∧ VR w' (St ⟨w0, []⟩ S [] [] [] true) v r) := by
 obtain rfl := VR_int h0
 obtain rfl := VR_int h1
 have H := Mem.start ⟨w0, []⟩ S
 refine en Tryz.func211 fun a hf => ?_
 rw [spec_l1Most] at hF
 refine sqz (pz 1 hf fun a hf => ?_)
 refine we (sqz (pz 3 hf fun a hf => ?_))
 refine wl_end (then_n (ib hF hf (fun hc hF => ?_) fun hc hF => ?_))
 ·refine sqz (pz 2 hf fun a hf => ?_)
  refine wl_end (then_n (wp_ret (then_r (?_))))
  obtain rfl := oi hF
  refine rT hf ?_
  exact ⟨_, rfl, H.bel, mk_int⟩
 ·refine wp_skip (then_n (sqz (pz 2 hf fun a hf => ?_)))
  refine wer ?_
  obtain rfl := oi hF
  refine rT hf ?_
  exact ⟨_, rfl, H.bel, mk_int⟩
theorem spec_l1Cur_among_ok {S : Nat → Prop} {b0 : Nat} {cs0 : List Value} {v1_ : Value} {c : L1CurP} {list : List Int} {r : Int × L1CurP} (hp0 : w0.heap[b0]? = some (.cells cs0.toArray 101 (0, 0))) (hr0 : GoTy.rep w0 S cs0 c) (hS0 : ¬ S b0) (h1 : VR w0 S v1_ list) (hF : spec_l1Cur_among fu c list = some r) :
    Calls Tryz.prog 83 [(.pointer (some ⟨b0, 0, none⟩)), v1_].toArray w0 fun e w' => ∃ v, e = .returned v ∧ (Chg w0 w' [b0] ∧ ∃ cs', w'.heap[b0]? = some (.cells cs'.toArray 101 (0, 0)) ∧ GoTy.rep w' (St ⟨w0, [b0]⟩ S [⟨b0, 101, cs'⟩] [] [] false) cs' r.2 ∧ (cs'[0]? = cs0[0]? ∧ r.2.code = c.code) ∧ VR w' (St ⟨w0, [b0]⟩ S [⟨b0, 101, cs'⟩] [] [] true) v r.1) := by
 obtain ⟨A, c2, rfl, hl⟩ := L1CurP_cells hr0
 obtain ⟨A2, c3, rfl, hl2⟩ := VR_list h1
 have H := Mem.startB S hp0
 have H := H.pB hS0 hl
 have H := H.pB hS0 hl2
 refine en Tryz.func83 fun a hf => ?_
 rw [spec_l1Cur_among] at hF
 refine sqz (pz 1 hf fun a hf => ?_)
 refine wr (pz 4 hf fun a hf => ?_)
 obtain ⟨y, hy, hF⟩ := bs_ hF
 refine oc hf TF.cl133 (spec_l1Cur_pick_ok (S := NB b0) (H.boxAt 0 rfl) ((L1CurP_mk (x := c) (H.nb 0 rfl (H.get 1 rfl)))) (fun h => h rfl) mk_int hy) fun v w a hp3 hf => ?_
 obtain ⟨hch, cs3, hbx, hr3, ⟨hx, hx2⟩, hs⟩ := hp3
 obtain rfl := VR_int hs
 obtain ⟨A3, c4, rfl, hl3⟩ := L1CurP_cells hr3
 obtain ⟨rfl, rfl⟩ := fx_slice hx rfl rfl
 have H := H.wroteBox 0 rfl hch hbx
 have H := H.pX 1 rfl hx2
 obtain ⟨e, he, hF⟩ := bs_ hF
 refine wl0 rfl (op_iaddr hf H Tryz.underlying47 TF.sz3 1 rfl rfl rfl he (by decide) fun p o3 cs4 a hf hr4 H => ?_)
 obtain rfl := hr4
 refine oq hf (rq_loadI hf H TF.ls3 0 0 rfl rfl rfl) fun a hf => ?_
 refine pz 1 hf fun a hf => ?_
 refine wer ?_
 obtain rfl := oi hF
 refine rT hf ?_
 exact ⟨_, rfl, H.chg, _, H.boxAt 0 rfl, (L1CurP_mk (x := y.2) (eB 0 (H.get 1 rfl))), ⟨fxc hx2, hx2⟩, mk_int⟩
theorem spec_l2Put_ok {S : Nat → Prop} {v0_ : Value} {v1_ : Value} {list : List Fiber} {f : Fiber} {r : List Fiber} (h0 : VR w0 S v0_ list) (h1 : VR w0 S v1_ f) (hF : spec_l2Put fu list f = some r) :
    Calls Tryz.prog 233 [v0_, v1_].toArray w0 fun e w' => ∃ v, e = .returned v ∧ (Below w0.heap.size w0 w' ∧ ∃ F0, VO w' F0 v r ∧ New w0 w' F0) := by
 obtain ⟨A, c, rfl, hl⟩ := VR_list h0
 obtain rfl := Fiber_open h1
 have H := Mem.start ⟨w0, []⟩ S
 have H := H.pA hl
 refine en Tryz.func233 fun a hf => ?_
 rw [spec_l2Put] at hF
 refine bx hf H fun b' a w hf H => ?_
 refine pz 1 hf fun a hf => ?_
 refine wr (pz 1 hf fun a hf => ?_)
 refine wl_end (then_n (sq ?_))
 obtain ⟨out', hB1, hF⟩ := bs_ hF
 have hf := hf.pn [0, 3, 5]
 have H := H.lt_ [true] [] [] [0]
 refine loopC (fun (s : Int) (a : Act) (w : World) => match s with | i => Fr a 33 [(0, (.slice A list.length c)), (3, (.pointer (some ⟨b', 0, none⟩))), (5, (.int .i64 i))] ∧ Mem ⟨w0, []⟩ S [⟨b', 180, [(.int .i64 f.A), (.int .i64 f.B), (.int .i64 f.Length), (.int .i64 f.Risk)]⟩] [] [] [(false, MP.val [(.slice A list.length c)] (list : List Fiber))] w) (fun k (s : Int) => spec_l2Put_L1 fu list f k s = some out') (fun s => out' = s) 0 fu hB1 ⟨hf, H⟩ (fun s h => by cases h) ?_ ?_
 ·rintro fk i a w hR1 hI
  replace hR1 : spec_l2Put_L1 fu list f (fk + 1) i = some out' := hR1
  rw [spec_l2Put_L1] at hR1
  obtain ⟨hf, H⟩ := hI
  refine sq (sq ?_)
  obtain ⟨c2, hGc2, hR1⟩ := bs_ hR1
  have fh := hf.prune [0, 3, 5] rfl
  have Hm := H.lt_ [true] [] [] [0]
  refine midF 18 (.bool c2) fh Hm ?_ fun a w hf H => ?_
  ·refine dw [] 13 fun w hb => ?_
   have H := H.keep hb
   refine zp 0 hf trivial fun a hf => ?_
   refine zp 1 hf trivial fun a hf => ?_
   refine zp 2 hf trivial fun a hf => ?_
   refine zp 3 hf trivial fun a hf => ?_
   refine zp 4 hf trivial fun a hf => ?_
   refine iteB hGc2 (fun hc hGc2 => ?_) fun hc hGc2 => ?_
   ·have hf := hf.lit 10 rfl hc
    refine zg 5 hf trivial fun a hf => ?_
    refine zg 6 hf trivial fun a hf => ?_
    obtain ⟨e, he, hGc2⟩ := bs_ hGc2
    obtain ⟨p, o, cs, hx, hr, H⟩ := pre_iaddr H Tryz.underlying32 TF.sz180 0 rfl he
    refine tPg 7 rfl rfl rfl rfl rfl rfl hf (by kernel_rfl) (fun _ => trivial) (fun w => rq_iaddrE hf rfl rfl rfl hx w) fun a hf => ?_
    obtain rfl := Fiber_cells hr
    refine strT (H.lt_ [false] [] [] [0]) (fun w H => trivial) fun hS => ?_
    refine tSg 8 [] rfl rfl rfl rfl rfl rfl hf (by kernel_rfl) (by kernel_rfl) hS (fun w H => rq_loadIN hf H TF.la180 0 0 rfl rfl rfl rfl) fun a hf => ?_
    refine strT (H.lt_ [true] [] [] [0]) (fun w H => H.lt_ [false] [] [] [0]) fun hS => ?_
    refine tSg 9 [] rfl rfl rfl rfl rfl rfl hf (by kernel_rfl) (by kernel_rfl) hS (fun w H => rq_loadBN hf H TF.la180 0 rfl rfl rfl rfl) fun a hf => ?_
    obtain ⟨y, hy, hGc2⟩ := bs_ hGc2
    refine n1g 10 (by kernel_rfl) rfl rfl rfl rfl hf (oC hf TF.cl179 (spec_l2Before_ok (S := TT) Fiber_mkv Fiber_mkv hy) fun v w a hp hf => ?_)
    obtain ⟨hb, hp⟩ := hp
    obtain rfl := VR_int hp
    have H := H.keep hb
    have hS := H.lt_ [true] [] [] [0]
    refine aS hS ?_
    refine zg 11 hf hS fun a hf => ?_
    refine zp 12 hf hS fun a hf => ?_
    refine dk ?_
    obtain rfl := oi hGc2
    have hf := hf.pn [18, 0, 3, 5]
    have H := H.lt_ [true] [] [] [1]
    exact ⟨hf, H⟩
   ·have hf := hf.lit 10 rfl hc
    refine zU 5 hf trivial fun a hf => ?_
    refine zU 6 hf trivial fun a hf => ?_
    refine zU 7 hf trivial fun a hf => ?_
    refine zU 8 hf trivial fun a hf => ?_
    refine zU 9 hf trivial fun a hf => ?_
    refine zU 10 hf trivial fun a hf => ?_
    refine zU 11 hf trivial fun a hf => ?_
    refine zp 12 hf trivial fun a hf => ?_
    refine dk ?_
    obtain rfl := oi hGc2
    have hf := hf.pn [18, 0, 3, 5]
    have H := H.lt_ [true] [] [] [0]
    exact ⟨hf, H⟩
  refine then_n (ib hR1 hf (fun hc2 hR1 => ?_) fun hc2 hR1 => ?_)
  ·refine wp_skip (then_n (wp_block (reg (pz 3 hf fun a hf => ?_))))
   refine wl_end (blk_n ?_)
   have hf := hf.pn [0, 3, 5]
   have H := H.lt_ [true] [] [] [0]
   exact then_n ⟨w64 (i + 1), hR1, hf, H⟩
  ·refine wp_exit (then_x (then_x (blk_e (?_))))
   have hf := hf.pn [0, 3, 5]
   have H := H.lt_ [true] [] [] [0]
   exact ⟨i, (Option.some.inj hR1).symm, hf, H⟩
 rintro a w ⟨out', rfl, hf, H⟩
 refine then_n (sq ?_)
 obtain ⟨l, hl_, hF⟩ := bs_ hF
 obtain ⟨l2, hl2_, hF⟩ := bs_ hF
 obtain ⟨l3, hl3_, hF⟩ := bs_ hF
 obtain ⟨l4, hl4_, hF⟩ := bs_ hF
 obtain ⟨l5, hl5_, hF⟩ := bs_ hF
 refine mid (fun a w => ∃ (A8 : Option Addr) (c7 : Nat) (E3 : Go.TypeId), Fr a 33 [(4, (.slice A8 l5.length c7))] ∧ Mem ⟨w0, []⟩ S [] [⟨.sh true, E3, A8, c7, (l5 : List Fiber)⟩] [] [] w) ?_ ?_
 ·refine dw [] 13 fun w hb => ?_
  have H := H.keep hb
  refine zp 1 hf trivial fun a hf => ?_
  refine zp 2 hf trivial fun a hf => ?_
  obtain ⟨A2, c3, hx2, H⟩ := pre_slice H Tryz.underlying32 TF.sz180 0 (lov := none) (hiv := some (.int .i64 out')) (.inl ⟨rfl, rfl⟩) (.inr rfl) rfl hl_
  refine tP 3 rfl rfl rfl rfl hf (by kernel_rfl) (fun _ => trivial) (fun w => rq_sliceE hf rfl rfl rfl hx2 w) fun a hf => ?_
  refine strT (H.lt_ [true] [] [] []) (fun w H => trivial) fun hS => ?_
  refine zS 5 [] rfl rfl rfl rfl hf hS (fun w H => rq_loadBN hf H TF.la180 0 rfl rfl rfl rfl) fun a hf => ?_
  refine zp 8 hf hS fun a hf => ?_
  refine zp 9 hf hS fun a hf => ?_
  obtain ⟨A3, c4, hx3, H⟩ := pre_slice H Tryz.underlying32 TF.sz180 1 (lov := some (.int .i64 out')) (hiv := none) (.inr rfl) (.inl ⟨rfl, rfl⟩) rfl hl2_
  refine zP 10 rfl rfl rfl rfl hf hS (fun w => rq_sliceE hf rfl rfl rfl hx3 w) fun a hf => ?_
  refine on2 (i := 0) (j := 6) (bi := [true, true, true, true, false, true, false, false, true, true, true, false, false]) (bj := [false, true, true, true, false, true, true, false, true, true, true, false, false]) (by kernel_rfl) rfl rfl rfl rfl rfl rfl ?_ ?_
  ·refine (bl hf H 180 ([] : List Fiber) [] el0 fun A4 a w hf H => ?_)
   have hS := H.lt_ [true] [false] [] []
   refine aS hS ?_
   refine on2 (i := 4) (j := 6) (bi := [true, true, true, true, true, true, false, false, true, true, true, false, false]) (bj := [true, true, true, true, false, true, true, false, true, true, true, false, false]) (by kernel_rfl) rfl rfl rfl rfl rfl rfl ?_ ?_
   ·have H := H.rowWeak 0 rfl
    refine (op_appI hf H Tryz.underlying32 TF.ai180 rfl (by decide) 0 1 rfl rfl rfl rfl (.inl rfl) hl3_ (by decide) fun E A5 c5 a w hf H => ?_)
    have H := H.rowOwn 0 rfl rfl
    have H := H.rowSh 0 rfl
    have hS := H.lt_ [true] [false] [] []
    refine aS hS ?_
    refine nn 6 rfl (bl hf H 180 ([f] : List Fiber) [(.int .i64 f.A), (.int .i64 f.B), (.int .i64 f.Length), (.int .i64 f.Risk)] (el1 (y := f) ((Fiber_mk (x := f)))) fun A6 a w hf H => ?_)
    have hS := H.lt_ [true] [false, false] [] []
    refine aS hS ?_
    refine nn 7 rfl (op_appR hf H Tryz.underlying32 TF.ai180 rfl (by decide) 1 0 rfl rfl rfl rfl (.inr rfl) hl4_ (by decide) fun E2 A7 c6 a w hf H => ?_)
    have hS := H.lt_ [true] [false, false] [] []
    refine aS hS ?_
    have H := H.rowWeak 1 rfl
    refine nn 11 rfl (op_appI hf H Tryz.underlying32 TF.ai180 rfl (by decide) 1 0 rfl rfl rfl rfl (.inl rfl) hl5_ (by decide) fun E3 A8 c7 a w hf H => ?_)
    have H := H.rowOwn 1 rfl rfl
    have H := H.rowSh 1 rfl
    have hS := H.lt_ [true] [false, false] [] []
    refine aS hS ?_
    refine zp 12 hf hS fun a hf => ?_
    refine dk ?_
    have hf := hf.pn [4]
    have H := H.lt_ [false] [false, true] [] []
    exact ⟨A8, c7, E3, hf, H⟩
   ·refine (bl hf H 180 ([f] : List Fiber) [(.int .i64 f.A), (.int .i64 f.B), (.int .i64 f.Length), (.int .i64 f.Risk)] (el1 (y := f) ((Fiber_mk (x := f)))) fun A5 a w hf H => ?_)
    have hS := H.lt_ [true] [false, false] [] []
    refine aS hS ?_
    have H := H.rowWeak 1 rfl
    refine nn 4 rfl (op_appI hf H Tryz.underlying32 TF.ai180 rfl (by decide) 1 1 rfl rfl rfl rfl (.inl rfl) hl3_ (by decide) fun E A6 c5 a w hf H => ?_)
    have H := H.rowOwn 1 rfl rfl
    have H := H.rowSh 1 rfl
    have hS := H.lt_ [true] [false, false] [] []
    refine aS hS ?_
    refine nn 7 rfl (op_appR hf H Tryz.underlying32 TF.ai180 rfl (by decide) 1 0 rfl rfl rfl rfl (.inr rfl) hl4_ (by decide) fun E2 A7 c6 a w hf H => ?_)
    have hS := H.lt_ [true] [false, false] [] []
    refine aS hS ?_
    have H := H.rowWeak 1 rfl
    refine nn 11 rfl (op_appI hf H Tryz.underlying32 TF.ai180 rfl (by decide) 1 0 rfl rfl rfl rfl (.inl rfl) hl5_ (by decide) fun E3 A8 c7 a w hf H => ?_)
    have H := H.rowOwn 1 rfl rfl
    have H := H.rowSh 1 rfl
    have hS := H.lt_ [true] [false, false] [] []
    refine aS hS ?_
    refine zp 12 hf hS fun a hf => ?_
    refine dk ?_
    have hf := hf.pn [4]
    have H := H.lt_ [false] [false, true] [] []
    exact ⟨A8, c7, E3, hf, H⟩
  ·refine (bl hf H 180 ([f] : List Fiber) [(.int .i64 f.A), (.int .i64 f.B), (.int .i64 f.Length), (.int .i64 f.Risk)] (el1 (y := f) ((Fiber_mk (x := f)))) fun A4 a w hf H => ?_)
   have hS := H.lt_ [true] [false] [] []
   refine aS hS ?_
   refine nn 0 rfl (bl hf H 180 ([] : List Fiber) [] el0 fun A5 a w hf H => ?_)
   have hS := H.lt_ [true] [false, false] [] []
   refine aS hS ?_
   have H := H.rowWeak 0 rfl
   refine nn 4 rfl (op_appI hf H Tryz.underlying32 TF.ai180 rfl (by decide) 0 1 rfl rfl rfl rfl (.inl rfl) hl3_ (by decide) fun E A6 c5 a w hf H => ?_)
   have H := H.rowOwn 0 rfl rfl
   have H := H.rowSh 0 rfl
   have hS := H.lt_ [true] [false, false] [] []
   refine aS hS ?_
   refine nn 7 rfl (op_appR hf H Tryz.underlying32 TF.ai180 rfl (by decide) 0 1 rfl rfl rfl rfl (.inr rfl) hl4_ (by decide) fun E2 A7 c6 a w hf H => ?_)
   have hS := H.lt_ [true] [false, false] [] []
   refine aS hS ?_
   have H := H.rowWeak 0 rfl
   refine nn 11 rfl (op_appI hf H Tryz.underlying32 TF.ai180 rfl (by decide) 0 0 rfl rfl rfl rfl (.inl rfl) hl5_ (by decide) fun E3 A8 c7 a w hf H => ?_)
   have H := H.rowOwn 0 rfl rfl
   have H := H.rowSh 0 rfl
   have hS := H.lt_ [true] [false, false] [] []
   refine aS hS ?_
   refine zp 12 hf hS fun a hf => ?_
   refine dk ?_
   have hf := hf.pn [4]
   have H := H.lt_ [false] [true, false] [] []
   exact ⟨A8, c7, E3, hf, H⟩
 rintro a w ⟨A8, c7, E3, hf, H⟩
 refine then_n (wp_ret (?_))
 have H := H.rowOwn 0 rfl rfl
 obtain ⟨F, H⟩ := H.freezeOwn 0 rfl
 have H := H.lend 0 rfl
 obtain rfl := oi hF
 refine rT hf ?_
 have hN := H.ends1
 exact ⟨_, rfl, H.bel, F, (mko_list (H.ownAt 0 rfl)), by first | exact hN | simpa using hN⟩
end AT
