/- The Go functions do what is told of them, by program (gen.py). -/
import Derived.Test.YtmokfdffnijbbaaWFnRegenerators0
set_option linter.unusedVariables false
set_option linter.unusedSimpArgs false
set_option maxRecDepth 100000
set_option maxHeartbeats 1000000
namespace AT
open Go Go.RowKit Go.Proofs
variable {fu : Nat} {w0 : World}
theorem impl_IsValidNetwork_ok {S : Nat → Prop} {v0_ : Value} {n' : Network} {r : Bool} (h0 : VR w0 S v0_ n') (hF : impl_IsValidNetwork fu n' = some r) :
    Calls Try.prog 47 [v0_].toArray w0 fun e w' => ∃ v, e = .returned v ∧ (Below w0.heap.size w0 w' ∧ VR w' (St ⟨w0, []⟩ S [] [] [] true) v r) := by
 obtain ⟨A, c, A2, c2, rfl, hl, hl2⟩ := Network_open h0
 have H := Mem.start ⟨w0, []⟩ S
 have H := H.pA hl
 have H := H.pA hl2
 refine en Try.func47 fun a hf => ?_
 rw [impl_IsValidNetwork] at hF
 refine bx hf H fun b' a w hf H => ?_
 refine pz 1 hf fun a hf => ?_
 refine we (sqz (pz 1 hf fun a hf => ?_))
 refine lB 0 hf H TF.ls24 fun a hf => ?_
 refine pz 2 hf fun a hf => ?_
 refine wl_end (then_n ?_)
 obtain ⟨out', hB1, hF⟩ := bs_ hF
 have hf := hf.pn [1, 8, 9, 10]
 have H := H.lt_ [true] [] [] [0, 1]
 refine loopC (fun (s : Int) (a : Act) (w : World) => match s with | i => Fr a 91 [(1, (.pointer (some ⟨b', 0, none⟩))), (8, (.slice A n'.Nodes.length c)), (9, (.int .i64 (n'.Nodes.length : Int))), (10, (.int .i64 i))] ∧ Mem ⟨w0, []⟩ S [⟨b', 27, [(.slice A n'.Nodes.length c), (.slice A2 n'.Fibers.length c2)]⟩] [] [] [(false, MP.val [(.slice A2 n'.Fibers.length c2)] (n'.Fibers : List Fiber)), (false, MP.val [(.slice A n'.Nodes.length c)] (n'.Nodes : List ByteArray))] w) (fun k (s : Int) => impl_IsValidNetwork_L1 fu n' k s = some out') (fun s => out' = Out.next s) 0 fu hB1 ⟨hf, H⟩ (fun s h => by cases h) ?_ ?_
 ·rintro fk i a w hR1 hI
  replace hR1 : impl_IsValidNetwork_L1 fu n' (fk + 1) i = some out' := hR1
  rw [impl_IsValidNetwork_L1] at hR1
  obtain ⟨hf, H⟩ := hI
  refine sqz (pz 1 hf fun a hf => ?_)
  refine wl_end (then_n (sq (ib hR1 hf (fun hc hR1 => ?_) fun hc hR1 => ?_)))
  ·refine ws (pz 1 hf fun a hf => ?_)
   obtain ⟨e, he, hR1⟩ := bs_ hR1
   refine wl0 rfl (op_iaddr hf H Try.underlying24 TF.sz9 1 rfl rfl rfl he (by decide) fun p o cs a hf hr H => ?_)
   obtain rfl := hr
   refine oq hf (rq_loadI hf H TF.ls9 0 0 rfl rfl rfl) fun a hf => ?_
   refine pz 2 hf fun a hf => ?_
   refine wl_end (then_n (sq ?_))
   obtain ⟨c3, hGc3, hR1⟩ := bs_ hR1
   have fh := hf.prune [1, 8, 9, 10] rfl
   have Hm := H.lt_ [true] [] [] [1, 2]
   refine midF 25 (.bool c3) fh Hm ?_ fun a w hf H => ?_
   ·refine reg (pz 1 hf fun a hf => ?_)
    obtain ⟨y, hy, hGc3⟩ := bs_ hGc3
    refine oc hf TF.cl79 (impl_isName_ok (S := TT) mk_str hy) fun v w a hp hf => ?_
    obtain ⟨hb, hp⟩ := hp
    obtain rfl := VR_bool hp
    have H := H.keep hb
    refine pz 2 hf fun a hf => ?_
    refine iteB hGc3 (fun hc2 hGc3 => ?_) fun hc2 hGc3 => ?_
    ·have hf := hf.lit 18 rfl hc2
     refine pz 7 hf fun a hf => ?_
     obtain rfl := oi hGc3
     have hf := hf.pn [25, 1, 8, 9, 10]
     have H := H.lt_ [true] [] [] [1, 2]
     exact wl_end ⟨hf, H⟩
    ·have hf := hf.lit 18 rfl hc2
     refine pz 1 hf fun a hf => ?_
     refine wlg hf rfl rfl rfl (op_q hf (rq_loadB hf H TF.ls24 0 rfl rfl rfl) rfl (by decide) fun a hf => ?_)
     refine pz 1 hf fun a hf => ?_
     obtain ⟨l, hl_, hGc3⟩ := bs_ hGc3
     refine wlg hf rfl rfl rfl (op_sliceI hf H Try.underlying24 TF.sz9 2 rfl rfl rfl rfl hl_ (by decide) fun A3 c4 a hf H => ?_)
     refine pz 1 hf fun a hf => ?_
     obtain ⟨y2, hy2, hGc3⟩ := bs_ hGc3
     refine wlg hf rfl rfl rfl (oC hf TF.cl80 (slices_Contains_string_string_ok (S := TT) (mk_list (H.rt 0 rfl)) mk_str hy2) fun v2 w a hp2 hf => ?_)
     obtain ⟨hb2, hp2⟩ := hp2
     obtain rfl := VR_bool hp2
     have H := H.keep hb2
     refine pz 1 hf fun a hf => ?_
     obtain rfl := oi hGc3
     have hf := hf.pn [25, 1, 8, 9, 10]
     have H := H.lt_ [true] [] [] [2, 3]
     exact wl_end ⟨hf, H⟩
   refine then_n (ib hR1 hf (fun hc3 hR1 => ?_) fun hc3 hR1 => ?_)
   ·refine sqz (pz 1 hf fun a hf => ?_)
    refine wl_end (then_n (wp_ret (blk_r (then_r (then_r (blk_r (then_r (then_r (?_)))))))))
    obtain rfl := oi hR1
    replace hF := on_ret hF
    obtain rfl := oi hF
    refine rT hf ?_
    exact ⟨_, rfl, H.bel, mk_bool⟩
   ·refine wp_skip (blk_n (then_n (reg (pz 2 hf fun a hf => ?_))))
    refine wl_end ?_
    have hf := hf.pn [1, 8, 9, 10]
    have H := H.lt_ [true] [] [] [0, 1]
    exact then_n ⟨w64 (i + 1), hR1, hf, H⟩
  ·refine wp_exit (then_x (then_x (blk_e (?_))))
   have hf := hf.pn [1, 8, 9, 10]
   have H := H.lt_ [true] [] [] [0, 1]
   exact ⟨i, (Option.some.inj hR1).symm, hf, H⟩
 rintro a w ⟨i2, rfl, hf, H⟩
 replace hF := on_next hF
 refine then_n (sq (sqz (pz 1 hf fun a hf => ?_)))
 refine lB 0 hf H TF.ls25 fun a hf => ?_
 refine pz 2 hf fun a hf => ?_
 refine wl_end (then_n ?_)
 obtain ⟨out2, hB1, hF⟩ := bs_ hF
 have hf := hf.pn [1, 28, 29, 30]
 have H := H.lt_ [true] [] [] [0, 1]
 refine loopC (fun (s : Int) (a : Act) (w : World) => match s with | i3 => Fr a 91 [(1, (.pointer (some ⟨b', 0, none⟩))), (28, (.slice A2 n'.Fibers.length c2)), (29, (.int .i64 (n'.Fibers.length : Int))), (30, (.int .i64 i3))] ∧ Mem ⟨w0, []⟩ S [⟨b', 27, [(.slice A n'.Nodes.length c), (.slice A2 n'.Fibers.length c2)]⟩] [] [] [(false, MP.val [(.slice A2 n'.Fibers.length c2)] (n'.Fibers : List Fiber)), (false, MP.val [(.slice A n'.Nodes.length c)] (n'.Nodes : List ByteArray))] w) (fun k (s : Int) => impl_IsValidNetwork_L2 fu n' k s = some out2) (fun s => out2 = Out.next s) 0 fu hB1 ⟨hf, H⟩ (fun s h => by cases h) ?_ ?_
 ·rintro fk i3 a w hR1 hI
  replace hR1 : impl_IsValidNetwork_L2 fu n' (fk + 1) i3 = some out2 := hR1
  rw [impl_IsValidNetwork_L2] at hR1
  obtain ⟨hf, H⟩ := hI
  refine sqz (pz 1 hf fun a hf => ?_)
  refine wl_end (then_n (sq (ib hR1 hf (fun hc4 hR1 => ?_) fun hc4 hR1 => ?_)))
  ·refine ws (pz 1 hf fun a hf => ?_)
   obtain ⟨e2, he2, hR1⟩ := bs_ hR1
   refine wl0 rfl (op_iaddr hf H Try.underlying25 TF.sz79 0 rfl rfl rfl he2 (by decide) fun p2 o2 cs2 a hf hr2 H => ?_)
   obtain rfl := Fiber_cells hr2
   refine oq hf (rq_loadIN hf H TF.la79 0 0 rfl rfl rfl rfl) fun a hf => ?_
   refine aL hf H TF.zv79 fun b2 a w hf H => ?_
   refine pz 1 hf fun a hf => ?_
   refine sB 0 hf H TF.sz79 fun w H => ?_
   refine wl_end (then_n (sq ?_))
   obtain ⟨c5, hGc5, hR1⟩ := bs_ hR1
   have fh2 := hf.prune [1, 28, 29, 30] rfl
   have Hm2 := H.lt_ [false, true] [] [] [1, 2]
   refine midF 79 (.bool c5) fh2 Hm2 ?_ fun a w hf H => ?_
   ·refine dw [] 45 fun w hb => ?_
    have H := H.keep hb
    refine zp 0 hf trivial fun a hf => ?_
    refine strT (H.lt_ [true, false] [] [] []) (fun w H => trivial) fun hS => ?_
    refine zS 1 [] rfl rfl rfl rfl hf hS (fun w H => rq_loadB hf H TF.ls3 0 rfl rfl rfl) fun a hf => ?_
    refine zp 2 hf hS fun a hf => ?_
    refine zp 3 hf hS fun a hf => ?_
    refine iteB hGc5 (fun hc5 hGc5 => ?_) fun hc5 hGc5 => ?_
    ·have hf := hf.lit 38 rfl hc5
     refine zU 4 hf hS fun a hf => ?_
     refine zU 5 hf hS fun a hf => ?_
     refine zU 6 hf hS fun a hf => ?_
     refine zU 7 hf hS fun a hf => ?_
     refine zU 8 hf hS fun a hf => ?_
     refine zp 9 hf hS fun a hf => ?_
     refine zp 10 hf hS fun a hf => ?_
     refine zU 11 hf hS fun a hf => ?_
     refine zU 12 hf hS fun a hf => ?_
     refine zU 13 hf hS fun a hf => ?_
     refine zU 14 hf hS fun a hf => ?_
     refine zU 15 hf hS fun a hf => ?_
     refine zU 16 hf hS fun a hf => ?_
     refine zp 17 hf hS fun a hf => ?_
     refine zp 18 hf hS fun a hf => ?_
     refine zU 19 hf hS fun a hf => ?_
     refine zU 20 hf hS fun a hf => ?_
     refine zU 21 hf hS fun a hf => ?_
     refine zU 22 hf hS fun a hf => ?_
     refine zp 23 hf hS fun a hf => ?_
     refine zp 24 hf hS fun a hf => ?_
     refine zU 25 hf hS fun a hf => ?_
     refine zU 26 hf hS fun a hf => ?_
     refine zU 27 hf hS fun a hf => ?_
     refine zU 28 hf hS fun a hf => ?_
     refine zp 29 hf hS fun a hf => ?_
     refine zp 30 hf hS fun a hf => ?_
     refine zU 31 hf hS fun a hf => ?_
     refine zU 32 hf hS fun a hf => ?_
     refine zU 33 hf hS fun a hf => ?_
     refine zV 34 hf hS fun a hf => ?_
     refine zV 35 hf hS fun a hf => ?_
     refine zV 36 hf hS fun a hf => ?_
     refine zV 37 hf hS fun a hf => ?_
     refine zV 38 hf hS fun a hf => ?_
     refine zV 39 hf hS fun a hf => ?_
     refine zV 40 hf hS fun a hf => ?_
     refine zV 41 hf hS fun a hf => ?_
     refine zV 42 hf hS fun a hf => ?_
     refine zU 43 hf hS fun a hf => ?_
     refine zp 44 hf hS fun a hf => ?_
     refine dk ?_
     obtain rfl := oi hGc5
     have hf := hf.pn [79, 1, 28, 29, 30]
     have H := H.lt_ [false, true] [] [] [1, 2]
     exact ⟨hf, H⟩
    ·have hf := hf.lit 38 rfl hc5
     refine zg 4 hf hS fun a hf => ?_
     refine tSg 5 [] rfl rfl rfl rfl rfl rfl hf (by kernel_rfl) (by kernel_rfl) hS (fun w H => rq_loadB hf H TF.ls3 0 rfl rfl rfl) fun a hf => ?_
     refine zg 6 hf hS fun a hf => ?_
     refine tSg 7 [] rfl rfl rfl rfl rfl rfl hf (by kernel_rfl) (by kernel_rfl) hS (fun w H => rq_loadB hf H TF.ls3 0 rfl rfl rfl) fun a hf => ?_
     refine zg 8 hf hS fun a hf => ?_
     refine zp 9 hf hS fun a hf => ?_
     refine zp 10 hf hS fun a hf => ?_
     refine iteB hGc5 (fun hc6 hGc5 => ?_) fun hc6 hGc5 => ?_
     ·have hf := hf.lit 45 rfl hc6
      refine zU 11 hf hS fun a hf => ?_
      refine zU 12 hf hS fun a hf => ?_
      refine zU 13 hf hS fun a hf => ?_
      refine zU 14 hf hS fun a hf => ?_
      refine zU 15 hf hS fun a hf => ?_
      refine zU 16 hf hS fun a hf => ?_
      refine zp 17 hf hS fun a hf => ?_
      refine zp 18 hf hS fun a hf => ?_
      refine zU 19 hf hS fun a hf => ?_
      refine zU 20 hf hS fun a hf => ?_
      refine zU 21 hf hS fun a hf => ?_
      refine zU 22 hf hS fun a hf => ?_
      refine zp 23 hf hS fun a hf => ?_
      refine zp 24 hf hS fun a hf => ?_
      refine zU 25 hf hS fun a hf => ?_
      refine zU 26 hf hS fun a hf => ?_
      refine zU 27 hf hS fun a hf => ?_
      refine zU 28 hf hS fun a hf => ?_
      refine zp 29 hf hS fun a hf => ?_
      refine zp 30 hf hS fun a hf => ?_
      refine zU 31 hf hS fun a hf => ?_
      refine zU 32 hf hS fun a hf => ?_
      refine zU 33 hf hS fun a hf => ?_
      refine zV 34 hf hS fun a hf => ?_
      refine zV 35 hf hS fun a hf => ?_
      refine zV 36 hf hS fun a hf => ?_
      refine zV 37 hf hS fun a hf => ?_
      refine zV 38 hf hS fun a hf => ?_
      refine zV 39 hf hS fun a hf => ?_
      refine zV 40 hf hS fun a hf => ?_
      refine zV 41 hf hS fun a hf => ?_
      refine zV 42 hf hS fun a hf => ?_
      refine zU 43 hf hS fun a hf => ?_
      refine zp 44 hf hS fun a hf => ?_
      refine dk ?_
      obtain rfl := oi hGc5
      have hf := hf.pn [79, 1, 28, 29, 30]
      have H := H.lt_ [false, true] [] [] [1, 2]
      exact ⟨hf, H⟩
     ·have hf := hf.lit 45 rfl hc6
      refine zg 11 hf hS fun a hf => ?_
      refine tSg 12 [] rfl rfl rfl rfl rfl rfl hf (by kernel_rfl) (by kernel_rfl) hS (fun w H => rq_loadB hf H TF.ls3 0 rfl rfl rfl) fun a hf => ?_
      refine zg 13 hf hS fun a hf => ?_
      refine strT (H.lt_ [true, true] [] [] []) (fun w H => H.lt_ [true, false] [] [] []) fun hS => ?_
      refine tSg 14 [] rfl rfl rfl rfl rfl rfl hf (by kernel_rfl) (by kernel_rfl) hS (fun w H => rq_loadB hf H TF.ls24 1 rfl rfl rfl) fun a hf => ?_
      refine zg 15 hf hS fun a hf => ?_
      refine zg 16 hf hS fun a hf => ?_
      refine zp 17 hf hS fun a hf => ?_
      refine zp 18 hf hS fun a hf => ?_
      refine iteB hGc5 (fun hc7 hGc5 => ?_) fun hc7 hGc5 => ?_
      ·have hf := hf.lit 53 rfl hc7
       refine zU 19 hf hS fun a hf => ?_
       refine zU 20 hf hS fun a hf => ?_
       refine zU 21 hf hS fun a hf => ?_
       refine zU 22 hf hS fun a hf => ?_
       refine zp 23 hf hS fun a hf => ?_
       refine zp 24 hf hS fun a hf => ?_
       refine zU 25 hf hS fun a hf => ?_
       refine zU 26 hf hS fun a hf => ?_
       refine zU 27 hf hS fun a hf => ?_
       refine zU 28 hf hS fun a hf => ?_
       refine zp 29 hf hS fun a hf => ?_
       refine zp 30 hf hS fun a hf => ?_
       refine zU 31 hf hS fun a hf => ?_
       refine zU 32 hf hS fun a hf => ?_
       refine zU 33 hf hS fun a hf => ?_
       refine zV 34 hf hS fun a hf => ?_
       refine zV 35 hf hS fun a hf => ?_
       refine zV 36 hf hS fun a hf => ?_
       refine zV 37 hf hS fun a hf => ?_
       refine zV 38 hf hS fun a hf => ?_
       refine zV 39 hf hS fun a hf => ?_
       refine zV 40 hf hS fun a hf => ?_
       refine zV 41 hf hS fun a hf => ?_
       refine zV 42 hf hS fun a hf => ?_
       refine zU 43 hf hS fun a hf => ?_
       refine zp 44 hf hS fun a hf => ?_
       refine dk ?_
       obtain rfl := oi hGc5
       have hf := hf.pn [79, 1, 28, 29, 30]
       have H := H.lt_ [false, true] [] [] [1, 2]
       exact ⟨hf, H⟩
      ·have hf := hf.lit 53 rfl hc7
       refine zg 19 hf hS fun a hf => ?_
       refine tSg 20 [] rfl rfl rfl rfl rfl rfl hf (by kernel_rfl) (by kernel_rfl) hS (fun w H => rq_loadB hf H TF.ls3 0 rfl rfl rfl) fun a hf => ?_
       obtain ⟨y3, hy3, hGc5⟩ := bs_ hGc5
       refine n1g 21 (by kernel_rfl) rfl rfl rfl rfl hf (oC hf TF.cl40 (impl_within_ok (S := TT) mk_int mk_int mk_int hy3) fun v3 w a hp3 hf => ?_)
       obtain ⟨hb3, hp3⟩ := hp3
       obtain rfl := VR_bool hp3
       have H := H.keep hb3
       have hS := H.lt_ [true, true] [] [] []
       refine aS hS ?_
       refine zg 22 hf hS fun a hf => ?_
       refine zp 23 hf hS fun a hf => ?_
       refine zp 24 hf hS fun a hf => ?_
       refine iteB hGc5 (fun hc8 hGc5 => ?_) fun hc8 hGc5 => ?_
       ·have hf := hf.lit 59 rfl hc8
        refine zU 25 hf hS fun a hf => ?_
        refine zU 26 hf hS fun a hf => ?_
        refine zU 27 hf hS fun a hf => ?_
        refine zU 28 hf hS fun a hf => ?_
        refine zp 29 hf hS fun a hf => ?_
        refine zp 30 hf hS fun a hf => ?_
        refine zU 31 hf hS fun a hf => ?_
        refine zU 32 hf hS fun a hf => ?_
        refine zU 33 hf hS fun a hf => ?_
        refine zV 34 hf hS fun a hf => ?_
        refine zV 35 hf hS fun a hf => ?_
        refine zV 36 hf hS fun a hf => ?_
        refine zV 37 hf hS fun a hf => ?_
        refine zV 38 hf hS fun a hf => ?_
        refine zV 39 hf hS fun a hf => ?_
        refine zV 40 hf hS fun a hf => ?_
        refine zV 41 hf hS fun a hf => ?_
        refine zV 42 hf hS fun a hf => ?_
        refine zU 43 hf hS fun a hf => ?_
        refine zp 44 hf hS fun a hf => ?_
        refine dk ?_
        obtain rfl := oi hGc5
        have hf := hf.pn [79, 1, 28, 29, 30]
        have H := H.lt_ [false, true] [] [] [1, 2]
        exact ⟨hf, H⟩
       ·have hf := hf.lit 59 rfl hc8
        refine zg 25 hf hS fun a hf => ?_
        refine tSg 26 [] rfl rfl rfl rfl rfl rfl hf (by kernel_rfl) (by kernel_rfl) hS (fun w H => rq_loadB hf H TF.ls3 0 rfl rfl rfl) fun a hf => ?_
        obtain ⟨y4, hy4, hGc5⟩ := bs_ hGc5
        refine n1g 27 (by kernel_rfl) rfl rfl rfl rfl hf (oC hf TF.cl40 (impl_within_ok (S := TT) mk_int mk_int mk_int hy4) fun v4 w a hp4 hf => ?_)
        obtain ⟨hb4, hp4⟩ := hp4
        obtain rfl := VR_bool hp4
        have H := H.keep hb4
        have hS := H.lt_ [true, true] [] [] []
        refine aS hS ?_
        refine zg 28 hf hS fun a hf => ?_
        refine zp 29 hf hS fun a hf => ?_
        refine zp 30 hf hS fun a hf => ?_
        refine iteB hGc5 (fun hc9 hGc5 => ?_) fun hc9 hGc5 => ?_
        ·have hf := hf.lit 65 rfl hc9
         refine zU 31 hf hS fun a hf => ?_
         refine zU 32 hf hS fun a hf => ?_
         refine zU 33 hf hS fun a hf => ?_
         refine zV 34 hf hS fun a hf => ?_
         refine zV 35 hf hS fun a hf => ?_
         refine zV 36 hf hS fun a hf => ?_
         refine zV 37 hf hS fun a hf => ?_
         refine zV 38 hf hS fun a hf => ?_
         refine zV 39 hf hS fun a hf => ?_
         refine zV 40 hf hS fun a hf => ?_
         refine zV 41 hf hS fun a hf => ?_
         refine zV 42 hf hS fun a hf => ?_
         refine zU 43 hf hS fun a hf => ?_
         refine zp 44 hf hS fun a hf => ?_
         refine dk ?_
         obtain rfl := oi hGc5
         have hf := hf.pn [79, 1, 28, 29, 30]
         have H := H.lt_ [false, true] [] [] [1, 2]
         exact ⟨hf, H⟩
        ·have hf := hf.lit 65 rfl hc9
         refine zg 31 hf hS fun a hf => ?_
         refine zg 32 hf hS fun a hf => ?_
         refine zg 33 hf hS fun a hf => ?_
         refine iteB hGc5 (fun hc10 hGc5 => ?_) fun hc10 hGc5 => ?_
         ·have hf := hf.lit 68 rfl hc10
          refine zg 34 hf hS fun a hf => ?_
          refine tSg 35 [] rfl rfl rfl rfl rfl rfl hf (by kernel_rfl) (by kernel_rfl) hS (fun w H => rq_loadB hf H TF.ls25 1 rfl rfl rfl) fun a hf => ?_
          refine zg 36 hf hS fun a hf => ?_
          refine zg 37 hf hS fun a hf => ?_
          obtain ⟨e3, he3, hGc5⟩ := bs_ hGc5
          obtain ⟨p3, o3, cs3, hx, hr3, H⟩ := pre_iaddr H Try.underlying25 TF.sz79 1 rfl he3
          refine tPg 38 rfl rfl rfl rfl rfl rfl hf (by kernel_rfl) (fun _ => hS) (fun w => rq_iaddrE hf rfl rfl rfl hx w) fun a hf => ?_
          obtain rfl := Fiber_cells hr3
          refine strT (H.lt_ [true, true] [] [] [0]) (fun w H => H.lt_ [true, true] [] [] []) fun hS => ?_
          refine tSg 39 [] rfl rfl rfl rfl rfl rfl hf (by kernel_rfl) (by kernel_rfl) hS (fun w H => rq_loadIN hf H TF.la79 0 0 rfl rfl rfl rfl) fun a hf => ?_
          refine tSg 40 [] rfl rfl rfl rfl rfl rfl hf (by kernel_rfl) (by kernel_rfl) hS (fun w H => rq_loadBN hf H TF.la79 0 rfl rfl rfl rfl) fun a hf => ?_
          obtain ⟨y5, hy5, hGc5⟩ := bs_ hGc5
          refine n1g 41 (by kernel_rfl) rfl rfl rfl rfl hf (oC hf TF.cl81 (impl_compareFibers_ok (S := TT) Fiber_mkv Fiber_mkv hy5) fun v5 w a hp5 hf => ?_)
          obtain ⟨hb5, hp5⟩ := hp5
          obtain rfl := VR_int hp5
          have H := H.keep hb5
          have hS := H.lt_ [true, true] [] [] [0]
          refine aS hS ?_
          refine zg 42 hf hS fun a hf => ?_
          refine zg 43 hf hS fun a hf => ?_
          refine zp 44 hf hS fun a hf => ?_
          refine dk ?_
          obtain rfl := oi hGc5
          have hf := hf.pn [79, 1, 28, 29, 30]
          have H := H.lt_ [false, true] [] [] [2, 3]
          exact ⟨hf, H⟩
         ·have hf := hf.lit 68 rfl hc10
          refine zU 34 hf hS fun a hf => ?_
          refine zU 35 hf hS fun a hf => ?_
          refine zU 36 hf hS fun a hf => ?_
          refine zU 37 hf hS fun a hf => ?_
          refine zU 38 hf hS fun a hf => ?_
          refine zU 39 hf hS fun a hf => ?_
          refine zU 40 hf hS fun a hf => ?_
          refine zU 41 hf hS fun a hf => ?_
          refine zU 42 hf hS fun a hf => ?_
          refine zg 43 hf hS fun a hf => ?_
          refine zp 44 hf hS fun a hf => ?_
          refine dk ?_
          obtain rfl := oi hGc5
          have hf := hf.pn [79, 1, 28, 29, 30]
          have H := H.lt_ [false, true] [] [] [1, 2]
          exact ⟨hf, H⟩
   refine then_n (ib hR1 hf (fun hc11 hR1 => ?_) fun hc11 hR1 => ?_)
   ·refine sqz (pz 1 hf fun a hf => ?_)
    refine wl_end (then_n (wp_ret (blk_r (then_r (then_r (blk_r (then_r (then_r (?_)))))))))
    obtain rfl := oi hR1
    replace hF := on_ret hF
    obtain rfl := oi hF
    refine rT hf ?_
    exact ⟨_, rfl, H.bel, mk_bool⟩
   ·refine wp_skip (blk_n (then_n (reg (pz 2 hf fun a hf => ?_))))
    refine wl_end ?_
    have hf := hf.pn [1, 28, 29, 30]
    have H := H.lt_ [true] [] [] [0, 1]
    exact then_n ⟨w64 (i3 + 1), hR1, hf, H⟩
  ·refine wp_exit (then_x (then_x (blk_e (?_))))
   have hf := hf.pn [1, 28, 29, 30]
   have H := H.lt_ [true] [] [] [0, 1]
   exact ⟨i3, (Option.some.inj hR1).symm, hf, H⟩
 rintro a w ⟨i4, rfl, hf, H⟩
 replace hF := on_next hF
 refine then_n (sq ?_)
 obtain ⟨c6, hGc6, hF⟩ := bs_ hF
 have fh3 := hf.prune [] rfl
 have Hm3 := H.lt_ [false] [] [] []
 refine midF 2 (.bool c6) fh3 Hm3 ?_ fun a w hf H => ?_
 ·refine reg (pz 1 hf fun a hf => ?_)
  refine lB 0 hf H TF.ls24 fun a hf => ?_
  refine pz 1 hf fun a hf => ?_
  obtain ⟨y6, hy6, hGc6⟩ := bs_ hGc6
  refine oc hf TF.cl40 (impl_within_ok (S := TT) mk_int mk_int mk_int hy6) fun v6 w a hp6 hf => ?_
  obtain ⟨hb6, hp6⟩ := hp6
  obtain rfl := VR_bool hp6
  have H := H.keep hb6
  refine pz 1 hf fun a hf => ?_
  refine iteB hGc6 (fun hc12 hGc6 => ?_) fun hc12 hGc6 => ?_
  ·have hf := hf.lit 85 rfl hc12
   refine pz 1 hf fun a hf => ?_
   refine wlg hf rfl rfl rfl (op_q hf (rq_loadB hf H TF.ls25 0 rfl rfl rfl) rfl (by decide) fun a hf => ?_)
   refine pz 4 hf fun a hf => ?_
   obtain rfl := oi hGc6
   have hf := hf.pn [2]
   have H := H.lt_ [false] [] [] []
   exact wl_end ⟨hf, H⟩
  ·have hf := hf.lit 85 rfl hc12
   refine pz 6 hf fun a hf => ?_
   obtain rfl := oi hGc6
   have hf := hf.pn [2]
   have H := H.lt_ [false] [] [] []
   exact wl_end ⟨hf, H⟩
 refine then_n (wp_ret (?_))
 obtain rfl := oi hF
 refine rT hf ?_
 exact ⟨_, rfl, H.bel, mk_bool⟩
theorem impl_otherEnd_ok {S : Nat → Prop} {v0_ : Value} {v1_ : Value} {f : Fiber} {node : Int} {r : Int} (h0 : VR w0 S v0_ f) (h1 : VR w0 S v1_ node) (hF : impl_otherEnd fu f node = some r) :
    Calls Try.prog 98 [v0_, v1_].toArray w0 fun e w' => ∃ v, e = .returned v ∧ (Below w0.heap.size w0 w' ∧ VR w' (St ⟨w0, []⟩ S [] [] [] true) v r) := by
 obtain rfl := Fiber_open h0
 obtain rfl := VR_int h1
 have H := Mem.start ⟨w0, []⟩ S
 refine en Try.func98 fun a hf => ?_
 rw [impl_otherEnd] at hF
 refine bx hf H fun b' a w hf H => ?_
 refine pz 1 hf fun a hf => ?_
 refine we (sqz (pz 1 hf fun a hf => ?_))
 refine wl_end (then_n (wp_block (sqz (pz 1 hf fun a hf => ?_))))
 refine lB 0 hf H TF.ls3 fun a hf => ?_
 refine pz 2 hf fun a hf => ?_
 refine wl_end (then_n (ib hF hf (fun hc hF => ?_) fun hc hF => ?_))
 ·refine sqz (pz 1 hf fun a hf => ?_)
  refine lB 0 hf H TF.ls3 fun a hf => ?_
  refine pz 1 hf fun a hf => ?_
  refine wl_end (then_n (wp_ret (blk_r (then_r (?_)))))
  obtain rfl := oi hF
  refine rT hf ?_
  exact ⟨_, rfl, H.bel, mk_int⟩
 ·refine sqz (pz 1 hf fun a hf => ?_)
  refine lB 0 hf H TF.ls3 fun a hf => ?_
  refine pz 2 hf fun a hf => ?_
  refine wl_end (then_n (ib hF hf (fun hc2 hF => ?_) fun hc2 hF => ?_))
  ·refine sqz (pz 1 hf fun a hf => ?_)
   refine lB 0 hf H TF.ls3 fun a hf => ?_
   refine pz 1 hf fun a hf => ?_
   have hf := hf.pn [4]
   refine wl_end (then_n (wp_ret (blk_r (then_r (?_)))))
   obtain rfl := oi hF
   refine rT hf ?_
   exact ⟨_, rfl, H.bel, mk_int⟩
  ·refine wp_skip (blk_n (then_n (sqz (pz 1 hf fun a hf => ?_))))
   refine wer ?_
   obtain rfl := oi hF
   refine rT hf ?_
   exact ⟨_, rfl, H.bel, mk_int⟩
theorem slices_Index_int_int_ok {S : Nat → Prop} {v0_ : Value} {v1_ : Value} {s' : List Int} {v : Int} {r : Int} (h0 : VR w0 S v0_ s') (h1 : VR w0 S v1_ v) (hF : slices_Index_int_int fu s' v = some r) :
    Calls Try.prog 61 [v0_, v1_].toArray w0 fun e w' => ∃ v, e = .returned v ∧ (Below w0.heap.size w0 w' ∧ VR w' (St ⟨w0, []⟩ S [] [] [] true) v r) := by
 obtain ⟨A, c, rfl, hl⟩ := VR_list h0
 obtain rfl := VR_int h1
 have H := Mem.start ⟨w0, []⟩ S
 have H := H.pA hl
 refine en Try.func61 fun a hf => ?_
 rw [slices_Index_int_int] at hF
 refine sqz (pz 1 hf fun a hf => ?_)
 refine we (sqz (pz 3 hf fun a hf => ?_))
 refine wl_end (then_n ?_)
 obtain ⟨out', hB1, hF⟩ := bs_ hF
 have hf := hf.pn [0, 1, 7, 8]
 have H := H.lt_ [] [] [] [0]
 refine loopC (fun (s : Int) (a : Act) (w : World) => match s with | i => Fr a 19 [(0, (.slice A s'.length c)), (1, (.int .i64 v)), (7, (.int .i64 (s'.length : Int))), (8, (.int .i64 i))] ∧ Mem ⟨w0, []⟩ S [] [] [] [(false, MP.val [(.slice A s'.length c)] (s' : List Int))] w) (fun k (s : Int) => slices_Index_int_int_L1 fu s' v k s = some out') (fun s => out' = Out.next s) 0 fu hB1 ⟨hf, H⟩ (fun s h => by cases h) ?_ ?_
 ·rintro fk i a w hR1 hI
  replace hR1 : slices_Index_int_int_L1 fu s' v (fk + 1) i = some out' := hR1
  rw [slices_Index_int_int_L1] at hR1
  obtain ⟨hf, H⟩ := hI
  refine sqz (pz 1 hf fun a hf => ?_)
  refine wl_end (then_n (sq (ib hR1 hf (fun hc hR1 => ?_) fun hc hR1 => ?_)))
  ·refine ws (pz 2 hf fun a hf => ?_)
   refine wr (pz 3 hf fun a hf => ?_)
   obtain ⟨e, he, hR1⟩ := bs_ hR1
   refine wl0 rfl (op_iaddr hf H Try.underlying31 TF.sz3 0 rfl rfl rfl he (by decide) fun p o cs a hf hr H => ?_)
   obtain rfl := hr
   refine oq hf (rq_loadI hf H TF.ls3 0 0 rfl rfl rfl) fun a hf => ?_
   refine pz 1 hf fun a hf => ?_
   refine wl_end (then_n (ib hR1 hf (fun hc2 hR1 => ?_) fun hc2 hR1 => ?_))
   ·refine sqz (pz 2 hf fun a hf => ?_)
    have hf := hf.pn [4]
    refine wl_end (then_n (wp_ret (blk_r (then_r (then_r (blk_r (then_r (then_r (?_)))))))))
    obtain rfl := oi hR1
    replace hF := on_ret hF
    obtain rfl := oi hF
    refine rT hf ?_
    exact ⟨_, rfl, H.bel, mk_int⟩
   ·refine wp_skip (blk_n (then_n (reg (pz 2 hf fun a hf => ?_))))
    refine wl_end ?_
    have hf := hf.pn [0, 1, 7, 8]
    have H := H.lt_ [] [] [] [1]
    exact then_n ⟨w64 (i + 1), hR1, hf, H⟩
  ·refine wp_exit (then_x (then_x (blk_e (?_))))
   have hf := hf.pn [0, 1, 7, 8]
   have H := H.lt_ [] [] [] [0]
   exact ⟨i, (Option.some.inj hR1).symm, hf, H⟩
 rintro a w ⟨i2, rfl, hf, H⟩
 replace hF := on_next hF
 refine then_n (sqz (pz 1 hf fun a hf => ?_))
 refine wer ?_
 obtain rfl := oi hF
 refine rT hf ?_
 exact ⟨_, rfl, H.bel, mk_int⟩
theorem slices_Contains_int_int_ok {S : Nat → Prop} {v0_ : Value} {v1_ : Value} {s' : List Int} {v : Int} {r : Bool} (h0 : VR w0 S v0_ s') (h1 : VR w0 S v1_ v) (hF : slices_Contains_int_int fu s' v = some r) :
    Calls Try.prog 26 [v0_, v1_].toArray w0 fun e w' => ∃ v, e = .returned v ∧ (Below w0.heap.size w0 w' ∧ VR w' (St ⟨w0, []⟩ S [] [] [] true) v r) := by
 obtain ⟨A, c, rfl, hl⟩ := VR_list h0
 obtain rfl := VR_int h1
 have H := Mem.start ⟨w0, []⟩ S
 have H := H.pA hl
 refine en Try.func26 fun a hf => ?_
 rw [slices_Contains_int_int] at hF
 refine sqz (pz 1 hf fun a hf => ?_)
 refine wr (pz 2 hf fun a hf => ?_)
 obtain ⟨y, hy, hF⟩ := bs_ hF
 refine oc hf TF.cl61 (slices_Index_int_int_ok (S := TT) (mk_list (H.rt 0 rfl)) mk_int hy) fun v2 w a hp hf => ?_
 obtain ⟨hb, hp⟩ := hp
 obtain rfl := VR_int hp
 have H := H.keep hb
 refine pz 2 hf fun a hf => ?_
 refine wer ?_
 obtain rfl := oi hF
 refine rT hf ?_
 exact ⟨_, rfl, H.bel, mk_bool⟩
theorem impl_visited_ok {S : Nat → Prop} {v0_ : Value} {v1_ : Value} {n' : Network} {r' : Route} {r : List Int × Bool} (h0 : VR w0 S v0_ n') (h1 : VR w0 S v1_ r') (hF : impl_visited fu n' r' = some r) :
    Calls Try.prog 69 [v0_, v1_].toArray w0 fun e w' => ∃ v, e = .returned v ∧ (Below w0.heap.size w0 w' ∧ ∃ F0, ∃ u0 u1, v = .tuple #[u0, u1] ∧ VO w' F0 u0 r.1 ∧ VR w' (St ⟨w0, []⟩ S [] [] [] true) u1 r.2 ∧ New w0 w' F0) := by
 obtain ⟨A, c, A2, c2, rfl, hl, hl2⟩ := Network_open h0
 obtain ⟨A3, c3, rfl, hl3⟩ := Route_open h1
 have H := Mem.start ⟨w0, []⟩ S
 have H := H.pA hl
 have H := H.pA hl2
 have H := H.pA hl3
 refine en Try.func69 fun a hf => ?_
 rw [impl_visited] at hF
 refine bx hf H fun b' a w hf H => ?_
 refine wl0 rfl (op_box hf H rfl rfl (by decide) fun b2 a w hf H => ?_)
 refine pz 2 hf fun a hf => ?_
 refine wl_end (then_n (sq (sq ?_)))
 obtain ⟨c4, hGc4, hF⟩ := bs_ hF
 have fh := hf.prune [2, 3] rfl
 have Hm := H.lt_ [true, true] [] [] [0, 1, 2]
 refine midF 23 (.bool c4) fh Hm ?_ fun a w hf H => ?_
 ·refine reg (pz 1 hf fun a hf => ?_)
  refine lB 0 hf H TF.ls3 fun a hf => ?_
  refine pz 1 hf fun a hf => ?_
  refine lB 1 hf H TF.ls24 fun a hf => ?_
  refine pz 2 hf fun a hf => ?_
  obtain ⟨y, hy, hGc4⟩ := bs_ hGc4
  refine oc hf TF.cl40 (impl_within_ok (S := TT) mk_int mk_int mk_int hy) fun v w a hp hf => ?_
  obtain ⟨hb, hp⟩ := hp
  obtain rfl := VR_bool hp
  have H := H.keep hb
  refine pz 2 hf fun a hf => ?_
  refine iteB hGc4 (fun hc hGc4 => ?_) fun hc hGc4 => ?_
  ·have hf := hf.lit 18 rfl hc
   refine pz 5 hf fun a hf => ?_
   obtain rfl := oi hGc4
   have hf := hf.pn [23, 2, 3]
   have H := H.lt_ [true, true] [] [] [0, 1, 2]
   exact wl_end ⟨hf, H⟩
  ·have hf := hf.lit 18 rfl hc
   refine pz 1 hf fun a hf => ?_
   refine wlg hf rfl rfl rfl (op_q hf (rq_loadB hf H TF.ls31 0 rfl rfl rfl) rfl (by decide) fun a hf => ?_)
   refine pz 3 hf fun a hf => ?_
   obtain rfl := oi hGc4
   have hf := hf.pn [23, 2, 3]
   have H := H.lt_ [true, true] [] [] [0, 1, 2]
   exact wl_end ⟨hf, H⟩
 refine then_n (ib hF hf (fun hc2 hF => ?_) fun hc2 hF => ?_)
 ·refine sqz (pz 2 hf fun a hf => ?_)
  refine wl_end (then_n (wp_ret (then_r (?_))))
  have H := H.ownNil (Int)
  have H := H.lend 0 rfl
  obtain rfl := oi hF
  refine ret_2 hf rfl (rv_tmp hf rfl) (rv_tmp hf rfl) ?_
  have hN := H.ends1
  exact ⟨_, rfl, H.bel, [], _, _, rfl, (mko_list (H.ownAt 0 rfl)), mk_bool, by first | exact hN | simpa using hN⟩
 ·refine wp_skip (then_n (sq (dw [] 7 fun w hb => ?_)))
  have H := H.keep hb
  refine zp 0 hf trivial fun a hf => ?_
  refine strT (H.lt_ [true, false] [] [] []) (fun w H => trivial) fun hS => ?_
  refine zS 1 [] rfl rfl rfl rfl hf hS (fun w H => rq_loadB hf H TF.ls3 0 rfl rfl rfl) fun a hf => ?_
  refine zp 3 hf hS fun a hf => ?_
  refine zS 4 [] rfl rfl rfl rfl hf hS (fun w H => rq_loadB hf H TF.ls3 0 rfl rfl rfl) fun a hf => ?_
  refine nn 2 rfl (bl hf H 3 ([r'.Start] : List Int) [(.int .i64 r'.Start)] (el1 (y := r'.Start) (rfl)) fun A4 a w hf H => ?_)
  have hS := H.lt_ [true, false] [false] [] []
  refine aS hS ?_
  refine zp 5 hf hS fun a hf => ?_
  refine zp 6 hf hS fun a hf => ?_
  refine dk ?_
  refine then_n (sq (sqz (pz 1 hf fun a hf => ?_)))
  refine lB 0 hf H TF.ls31 fun a hf => ?_
  refine pz 2 hf fun a hf => ?_
  refine wl_end (then_n ?_)
  obtain ⟨out2, hB1, hF⟩ := bs_ hF
  have hf := hf.pn [2, 6, 7, 30, 31, 32]
  have H := H.lt_ [false, true] [true] [] [0, 1, 2]
  refine loopC (fun (s : List Int × Int × Int) (a : Act) (w : World) => match s with | (out', at', i) => ∃ (A5 : Option Addr) (c5 : Nat) (E : Go.TypeId), Fr a 63 [(2, (.pointer (some ⟨b', 0, none⟩))), (6, (.slice A5 out'.length c5)), (7, (.int .i64 at')), (30, (.slice A3 r'.Fibers.length c3)), (31, (.int .i64 (r'.Fibers.length : Int))), (32, (.int .i64 i))] ∧ Mem ⟨w0, []⟩ S [⟨b', 27, [(.slice A n'.Nodes.length c), (.slice A2 n'.Fibers.length c2)]⟩] [⟨.sh true, E, A5, c5, (out' : List Int)⟩] [] [(false, MP.val [(.slice A3 r'.Fibers.length c3)] (r'.Fibers : List Int)), (false, MP.val [(.slice A2 n'.Fibers.length c2)] (n'.Fibers : List Fiber)), (false, MP.val [(.slice A n'.Nodes.length c)] (n'.Nodes : List ByteArray))] w) (fun k (s : List Int × Int × Int) => impl_visited_L1 fu n' r' k s.1 s.2.1 s.2.2 = some out2) (fun s => out2 = Out.next s) ([r'.Start], r'.Start, 0) fu hB1 ⟨A4, 1, 3, hf, H⟩ (fun s h => by cases h) ?_ ?_
  ·rintro fk ⟨out', at', i⟩ a w hR1 hI
   replace hR1 : impl_visited_L1 fu n' r' (fk + 1) out' at' i = some out2 := hR1
   rw [impl_visited_L1] at hR1
   obtain ⟨A5, c5, E, hf, H⟩ := hI
   refine sqz (pz 1 hf fun a hf => ?_)
   refine wl_end (then_n (sq (ib hR1 hf (fun hc3 hR1 => ?_) fun hc3 hR1 => ?_)))
   ·refine wp_skip (then_n (sq (wp_block (sq (reg ?_)))))
    obtain ⟨e, he, hR1⟩ := bs_ hR1
    refine wl0 rfl (op_iaddr hf H Try.underlying31 TF.sz3 0 rfl rfl rfl he (by decide) fun p o cs a hf hr H => ?_)
    obtain rfl := hr
    refine oq hf (rq_loadI hf H TF.ls3 0 0 rfl rfl rfl) fun a hf => ?_
    refine pz 1 hf fun a hf => ?_
    refine we (sqz (pz 2 hf fun a hf => ?_))
    refine lB 0 hf H TF.ls25 fun a hf => ?_
    refine pz 2 hf fun a hf => ?_
    obtain ⟨y2, hy2, hR1⟩ := bs_ hR1
    refine oc hf TF.cl40 (impl_within_ok (S := TT) mk_int mk_int mk_int hy2) fun v2 w a hp2 hf => ?_
    obtain ⟨hb2, hp2⟩ := hp2
    obtain rfl := VR_bool hp2
    have H := H.keep hb2
    refine pz 1 hf fun a hf => ?_
    refine wl_end (then_n (ib hR1 hf (fun hc4 hR1 => ?_) fun hc4 hR1 => ?_))
    ·refine sqz (pz 2 hf fun a hf => ?_)
     have hf := hf.pn [4, 5]
     refine wl_end (then_n (wp_ret (then_r (blk_r (then_r (then_r (blk_r (then_r (then_r (?_))))))))))
     have H := H.ownNil (Int)
     have H := H.lend 0 rfl
     obtain rfl := oi hR1
     replace hF := on_ret hF
     obtain rfl := oi hF
     refine ret_2 hf rfl (rv_tmp hf rfl) (rv_tmp hf rfl) ?_
     have hN := H.ends1
     exact ⟨_, rfl, H.bel, [], _, _, rfl, (mko_list (H.ownAt 0 rfl)), mk_bool, by first | exact hN | simpa using hN⟩
    ·refine wp_skip (then_n (sqz (pz 1 hf fun a hf => ?_)))
     refine lB 0 hf H TF.ls25 fun a hf => ?_
     refine pz 1 hf fun a hf => ?_
     obtain ⟨e2, he2, hR1⟩ := bs_ hR1
     refine wl0 rfl (op_iaddr hf H Try.underlying25 TF.sz79 2 rfl rfl rfl he2 (by decide) fun p2 o2 cs2 a hf hr2 H => ?_)
     obtain rfl := Fiber_cells hr2
     refine oq hf (rq_loadIN hf H TF.la79 0 0 rfl rfl rfl rfl) fun a hf => ?_
     refine pz 1 hf fun a hf => ?_
     obtain ⟨y3, hy3, hR1⟩ := bs_ hR1
     refine oc hf TF.cl98 (impl_otherEnd_ok (S := TT) Fiber_mkv mk_int hy3) fun v3 w a hp3 hf => ?_
     obtain ⟨hb3, hp3⟩ := hp3
     obtain rfl := VR_int hp3
     have H := H.keep hb3
     refine pz 1 hf fun a hf => ?_
     have hf := hf.pn [2, 6, 7, 30, 31, 32]
     refine wl_end (then_n (sq (sq ?_)))
     obtain ⟨c6, hGc6, hR1⟩ := bs_ hR1
     have fh2 := hf.prune [2, 6, 7, 30, 31, 32] rfl
     have Hm2 := H.lt_ [true] [true] [] [2, 3, 4]
     refine midF 56 (.bool c6) fh2 Hm2 ?_ fun a w hf H => ?_
     ·refine reg (pz 3 hf fun a hf => ?_)
      refine iteB hGc6 (fun hc5 hGc6 => ?_) fun hc5 hGc6 => ?_
      ·have hf := hf.lit 52 rfl hc5
       refine pz 4 hf fun a hf => ?_
       obtain rfl := oi hGc6
       have hf := hf.pn [56, 2, 6, 7, 30, 31, 32]
       have H := H.lt_ [true] [true] [] [2, 3, 4]
       exact wl_end ⟨hf, H⟩
      ·have hf := hf.lit 52 rfl hc5
       refine pz 2 hf fun a hf => ?_
       obtain ⟨y4, hy4, hGc6⟩ := bs_ hGc6
       refine wlg hf rfl rfl rfl (oC hf TF.cl26 (slices_Contains_int_int_ok (S := TT) (mk_list (H.rowTrue 0 rfl)) mk_int hy4) fun v4 w a hp4 hf => ?_)
       obtain ⟨hb4, hp4⟩ := hp4
       obtain rfl := VR_bool hp4
       have H := H.keep hb4
       refine pz 1 hf fun a hf => ?_
       obtain rfl := oi hGc6
       have hf := hf.pn [56, 2, 6, 7, 30, 31, 32]
       have H := H.lt_ [true] [true] [] [2, 3, 4]
       exact wl_end ⟨hf, H⟩
     refine then_n (ib hR1 hf (fun hc6 hR1 => ?_) fun hc6 hR1 => ?_)
     ·refine sqz (pz 2 hf fun a hf => ?_)
      refine wl_end (then_n (wp_ret (then_r (blk_r (then_r (then_r (blk_r (then_r (then_r (?_))))))))))
      have H := H.ownNil (Int)
      have H := H.lend 0 rfl
      obtain rfl := oi hR1
      replace hF := on_ret hF
      obtain rfl := oi hF
      refine ret_2 hf rfl (rv_tmp hf rfl) (rv_tmp hf rfl) ?_
      have hN := H.ends1
      exact ⟨_, rfl, H.bel, [], _, _, rfl, (mko_list (H.ownAt 0 rfl)), mk_bool, by first | exact hN | simpa using hN⟩
     ·refine wp_skip (then_n (reg (pz 2 hf fun a hf => ?_)))
      refine wl0 rfl (bl hf H 3 ([y3] : List Int) [(.int .i64 y3)] (el1 (y := y3) (rfl)) fun A6 a w hf H => ?_)
      obtain ⟨l, hl_, hR1⟩ := bs_ hR1
      refine wl0 rfl (op_appR hf H Try.underlying31 TF.ai3 rfl (by decide) 1 0 rfl rfl rfl rfl (.inr rfl) hl_ (by decide) fun E2 A7 c7 a w hf H => ?_)
      refine pz 1 hf fun a hf => ?_
      refine wl_end (blk_n (then_n (reg (pz 2 hf fun a hf => ?_))))
      refine wl_end ?_
      have hf := hf.pn [2, 6, 7, 30, 31, 32]
      have H := H.lt_ [true] [false, true] [] [0, 1, 2]
      exact then_n ⟨(l, y3, w64 (i + 1)), hR1, A7, c7, E2, hf, H⟩
   ·refine wp_exit (then_x (then_x (blk_e (?_))))
    have hf := hf.pn [2, 6, 7, 30, 31, 32]
    have H := H.lt_ [true] [true] [] [0, 1, 2]
    exact ⟨(out', at', i), (Option.some.inj hR1).symm, A5, c5, E, hf, H⟩
  rintro a w ⟨⟨out3, at2, i2⟩, rfl, A8, c8, E3, hf, H⟩
  replace hF := on_next hF
  try dsimp only at hF
  refine then_n (sqz (pz 3 hf fun a hf => ?_))
  refine wer ?_
  have H := H.rowOwn 0 rfl rfl
  obtain ⟨F, H⟩ := H.freezeOwn 0 rfl
  have H := H.lend 0 rfl
  obtain rfl := oi hF
  refine ret_2 hf rfl (rv_tmp hf rfl) (rv_tmp hf rfl) ?_
  have hN := H.ends1
  exact ⟨_, rfl, H.bel, F, _, _, rfl, (mko_list (H.ownAt 0 rfl)), mk_bool, by first | exact hN | simpa using hN⟩
theorem spec_l1Cur_of_ok {S : Nat → Prop} {b0 : Nat} {cs0 : List Value} {v1_ : Value} {c : L1CurP} {list : List ByteArray} {r : ByteArray × L1CurP} (hp0 : w0.heap[b0]? = some (.cells cs0.toArray 57 (0, 0))) (hr0 : GoTy.rep w0 S cs0 c) (hS0 : ¬ S b0) (h1 : VR w0 S v1_ list) (hF : spec_l1Cur_of fu c list = some r) :
    Calls Try.prog 76 [(.pointer (some ⟨b0, 0, none⟩)), v1_].toArray w0 fun e w' => ∃ v, e = .returned v ∧ (Chg w0 w' [b0] ∧ ∃ cs', w'.heap[b0]? = some (.cells cs'.toArray 57 (0, 0)) ∧ GoTy.rep w' (St ⟨w0, [b0]⟩ S [⟨b0, 57, cs'⟩] [] [] false) cs' r.2 ∧ (cs'[0]? = cs0[0]? ∧ r.2.code = c.code) ∧ VR w' (St ⟨w0, [b0]⟩ S [⟨b0, 57, cs'⟩] [] [] true) v r.1) := by
 obtain ⟨A, c2, rfl, hl⟩ := L1CurP_cells hr0
 obtain ⟨A2, c3, rfl, hl2⟩ := VR_list h1
 have H := Mem.startB S hp0
 have H := H.pB hS0 hl
 have H := H.pB hS0 hl2
 refine en Try.func76 fun a hf => ?_
 rw [spec_l1Cur_of] at hF
 refine sqz (pz 1 hf fun a hf => ?_)
 refine wr (pz 4 hf fun a hf => ?_)
 obtain ⟨y, hy, hF⟩ := bs_ hF
 refine oc hf TF.cl54 (spec_l1Cur_pick_ok (S := NB b0) (H.boxAt 0 rfl) ((L1CurP_mk (x := c) (H.nb 0 rfl (H.get 1 rfl)))) (fun h => h rfl) mk_int hy) fun v w a hp3 hf => ?_
 obtain ⟨hch, cs3, hbx, hr3, ⟨hx, hx2⟩, hs⟩ := hp3
 obtain rfl := VR_int hs
 obtain ⟨A3, c4, rfl, hl3⟩ := L1CurP_cells hr3
 obtain ⟨rfl, rfl⟩ := fx_slice hx rfl rfl
 have H := H.wroteBox 0 rfl hch hbx
 have H := H.pX 1 rfl hx2
 obtain ⟨e, he, hF⟩ := bs_ hF
 refine wl0 rfl (op_iaddr hf H Try.underlying24 TF.sz9 1 rfl rfl rfl he (by decide) fun p o3 cs4 a hf hr4 H => ?_)
 obtain rfl := hr4
 refine oq hf (rq_loadI hf H TF.ls9 0 0 rfl rfl rfl) fun a hf => ?_
 refine pz 1 hf fun a hf => ?_
 refine wer ?_
 obtain rfl := oi hF
 refine rT hf ?_
 exact ⟨_, rfl, H.chg, _, H.boxAt 0 rfl, (L1CurP_mk (x := y.2) (eB 0 (H.get 1 rfl))), ⟨fxc hx2, hx2⟩, mk_str⟩
theorem spec_l1Cur_anyNetwork_ok {S : Nat → Prop} {b0 : Nat} {cs0 : List Value} {c : L1CurP} {r : Network × L1CurP} (hp0 : w0.heap[b0]? = some (.cells cs0.toArray 57 (0, 0))) (hr0 : GoTy.rep w0 S cs0 c) (hS0 : ¬ S b0) (hF : spec_l1Cur_anyNetwork fu c = some r) :
    Calls Try.prog 36 [(.pointer (some ⟨b0, 0, none⟩))].toArray w0 fun e w' => ∃ v, e = .returned v ∧ (Chg w0 w' [b0] ∧ ∃ cs', w'.heap[b0]? = some (.cells cs'.toArray 57 (0, 0)) ∧ GoTy.rep w' (St ⟨w0, [b0]⟩ S [⟨b0, 57, cs'⟩] [] [] false) cs' r.2 ∧ (cs'[0]? = cs0[0]? ∧ r.2.code = c.code) ∧ ∃ F0, VO w' F0 v r.1 ∧ New w0 w' F0) := by
 obtain ⟨A, c2, rfl, hl⟩ := L1CurP_cells hr0
 have H := Mem.startB S hp0
 have H := H.pB hS0 hl
 refine en Try.func36 fun a hf => ?_
 rw [spec_l1Cur_anyNetwork] at hF
 refine sq (reg (aL hf H TF.zv27 fun b2 a w hf H => ?_))
 refine wr (pz 1 hf fun a hf => ?_)
 obtain ⟨y, hy, hF⟩ := bs_ hF
 refine oc hf TF.cl75 (spec_l1Cur_network_ok (S := NB b0) (H.boxAt 1 rfl) ((L1CurP_mk (x := c) (H.nb 1 rfl (H.get 0 rfl)))) (fun h => h rfl) hy) fun v w a hp2 hf => ?_
 obtain ⟨hch, cs2, hbx, hr2, ⟨hx, hx2⟩, hs⟩ := hp2
 obtain ⟨F, hp3, hN⟩ := hs
 obtain ⟨A2, c3, F2, A3, c4, F3, rfl, rfl, hl2, hl3⟩ := Network_vo hp3
 obtain ⟨A4, c5, rfl, hl4⟩ := L1CurP_cells hr2
 obtain ⟨rfl, rfl⟩ := fx_slice hx rfl rfl
 have H := H.bO2 1 rfl hch hbx hN hl2 hl3
 have H := H.pX 0 rfl hx2
 have H := H.lend 0 rfl
 have H := H.lend 1 rfl
 obtain ⟨Fs, E, H, -⟩ := H.thaw rfl
 have H := H.rowSh 0 rfl
 have H := H.pB hS0 hl
 have H := H.argB (by simpa using hS0) (p := MP.val [(.slice A y.2.code.length c2)] (y.2.code : List By)) (by rw [hx2]; exact hl)
 have H := H.lend 0 rfl
 obtain ⟨Fs2, E2, H, -⟩ := H.thaw rfl
 have H := H.rowSh 0 rfl
 have H := H.pB hS0 hl
 have H := H.argB (by simpa using hS0) (p := MP.val [(.slice A y.2.code.length c2)] (y.2.code : List By)) (by rw [hx2]; exact hl)
 refine aL hf H TF.zv27 fun b3 a w hf H => ?_
 refine sB 0 hf H TF.sz27 fun w H => ?_
 refine we (sqz (pz 1 hf fun a hf => ?_))
 refine lB 0 hf H TF.ls25 fun a hf => ?_
 refine pz 2 hf fun a hf => ?_
 refine wl_end (then_n (ib hF hf (fun hc hF => ?_) fun hc hF => ?_))
 ·refine sq (reg (lN 0 hf H TF.la27 fun a hf => ?_))
  refine sB 1 hf H TF.sz27 fun w H => ?_
  refine wl_end (then_n (wp_ret (then_r (?_))))
  have H := H.rowOwn 1 rfl rfl
  obtain ⟨F4, H⟩ := H.freezeOwn 1 rfl
  have H := H.lend 0 rfl
  have H := H.rowOwn 0 rfl rfl
  obtain ⟨F5, H⟩ := H.freezeOwn 0 rfl
  have H := H.lend 0 rfl
  have H := H.frontD 1 rfl
  obtain rfl := oi hF
  refine ret_1 hf rfl (rv_cellN hf H 1 TF.la27 rfl rfl rfl) ?_
  have hN := H.endsB2 2 rfl
  exact ⟨_, rfl, H.chg, _, H.boxAt 2 rfl, (L1CurP_mk (x := y.2) (eB 2 (H.get 2 rfl))), ⟨fxc hx2, hx2⟩, (F4 ++ F5), ⟨_, Network_ownmk (x := y.1) (H.ownAt 0 rfl) (H.ownAt 1 rfl), rfl⟩, by first | exact hN | simpa using hN⟩
 ·refine wp_skip (then_n (sqz (pz 2 hf fun a hf => ?_)))
  refine lB 0 hf H TF.ls25 fun a hf => ?_
  refine pz 1 hf fun a hf => ?_
  obtain ⟨y2, hy2, hF⟩ := bs_ hF
  refine oc hf TF.cl54 (spec_l1Cur_pick_ok (S := NB b0) (H.boxAt 2 rfl) ((L1CurP_mk (x := y.2) (H.nb 2 rfl (H.get 0 rfl)))) (fun h => h rfl) mk_int hy2) fun v2 w a hp4 hf => ?_
  obtain ⟨hch2, cs3, hbx2, hr3, ⟨hx3, hx4⟩, hs2⟩ := hp4
  obtain rfl := VR_int hs2
  obtain ⟨A5, c6, rfl, hl5⟩ := L1CurP_cells hr3
  obtain ⟨rfl, rfl⟩ := fx_slice hx3 rfl rfl
  have hx5 := hx4.trans hx2
  have H := H.wroteBox 2 rfl hch2 hbx2
  have H := H.pX 0 rfl hx4
  refine pz 1 hf fun a hf => ?_
  refine wr (pz 1 hf fun a hf => ?_)
  refine lB 0 hf H TF.ls25 fun a hf => ?_
  refine pz 1 hf fun a hf => ?_
  obtain ⟨e, he, hF⟩ := bs_ hF
  refine wl0 rfl (op_iaddrR hf H Try.underlying25 TF.sz79 0 rfl rfl rfl he (by decide) fun p o2 cs4 a hf hA hr4 hk => ?_)
  obtain rfl := Fiber_cells hr4
  refine oq hf (rq_loadN hf TF.la79 rfl rfl (fun j c hj => hk _ c (by simpa using hj))) fun a hf => ?_
  refine aL hf H TF.zv79 fun b4 a w hf H => ?_
  refine sB 0 hf H TF.sz79 fun w H => ?_
  have hf := hf.pn [0, 2, 3, 4, 5]
  refine we (sqz (pz 1 hf fun a hf => ?_))
  obtain ⟨y3, hy3, hF⟩ := bs_ hF
  refine oc hf TF.cl54 (spec_l1Cur_pick_ok (S := NB b0) (H.boxAt 3 rfl) ((L1CurP_mk (x := y2.2) (H.nb 3 rfl (H.get 0 rfl)))) (fun h => h rfl) mk_int hy3) fun v3 w a hp5 hf => ?_
  obtain ⟨hch3, cs5, hbx3, hr5, ⟨hx6, hx7⟩, hs3⟩ := hp5
  obtain rfl := VR_int hs3
  obtain ⟨A6, c7, rfl, hl6⟩ := L1CurP_cells hr5
  obtain ⟨rfl, rfl⟩ := fx_slice hx6 rfl rfl
  have hx8 := hx7.trans hx5
  have H := H.wroteBox 3 rfl hch3 hbx3
  have H := H.pX 0 rfl hx7
  refine wl_end (then_n (wp_block (sqz (pz 2 hf fun a hf => ?_))))
  refine wl_end (then_n (ib hF hf (fun hc2 hF => ?_) fun hc2 hF => ?_))
  ·refine dw [6] 7 fun w hb => ?_
   have H := H.keep hb
   refine zp 0 hf trivial fun a hf => ?_
   refine strT (H.lt_ [false, true, false, false] [false, false] [] []) (fun w H => trivial) fun hS => ?_
   refine zS 1 [1, 5, 6] rfl rfl rfl rfl hf hS (fun w H => rq_loadB hf H TF.ls24 0 rfl rfl rfl) fun a hf => ?_
   refine zp 2 hf hS fun a hf => ?_
   refine nn 3 rfl (bl hf H 9 ([(⟨#[98]⟩ : ByteArray), ByteArray.empty, (⟨#[65]⟩ : ByteArray), (⟨#[97, 98, 99, 100, 101, 102, 103, 104]⟩ : ByteArray), (⟨#[97, 98, 99, 100, 101, 102, 103, 104, 105]⟩ : ByteArray), (⟨#[120, 49]⟩ : ByteArray)] : List ByteArray) [(.string (⟨#[98]⟩ : ByteArray)), (.string ByteArray.empty), (.string (⟨#[65]⟩ : ByteArray)), (.string (⟨#[97, 98, 99, 100, 101, 102, 103, 104]⟩ : ByteArray)), (.string (⟨#[97, 98, 99, 100, 101, 102, 103, 104, 105]⟩ : ByteArray)), (.string (⟨#[120, 49]⟩ : ByteArray))] (elL [([(.string (⟨#[98]⟩ : ByteArray))], ((⟨#[98]⟩ : ByteArray) : ByteArray)), ([(.string ByteArray.empty)], (ByteArray.empty : ByteArray)), ([(.string (⟨#[65]⟩ : ByteArray))], ((⟨#[65]⟩ : ByteArray) : ByteArray)), ([(.string (⟨#[97, 98, 99, 100, 101, 102, 103, 104]⟩ : ByteArray))], ((⟨#[97, 98, 99, 100, 101, 102, 103, 104]⟩ : ByteArray) : ByteArray)), ([(.string (⟨#[97, 98, 99, 100, 101, 102, 103, 104, 105]⟩ : ByteArray))], ((⟨#[97, 98, 99, 100, 101, 102, 103, 104, 105]⟩ : ByteArray) : ByteArray)), ([(.string (⟨#[120, 49]⟩ : ByteArray))], ((⟨#[120, 49]⟩ : ByteArray) : ByteArray))] (al1 (x := ((⟨#[98]⟩ : ByteArray) : ByteArray)) (rfl) (al1 (x := (ByteArray.empty : ByteArray)) (rfl) (al1 (x := ((⟨#[65]⟩ : ByteArray) : ByteArray)) (rfl) (al1 (x := ((⟨#[97, 98, 99, 100, 101, 102, 103, 104]⟩ : ByteArray) : ByteArray)) (rfl) (al1 (x := ((⟨#[97, 98, 99, 100, 101, 102, 103, 104, 105]⟩ : ByteArray) : ByteArray)) (rfl) (al1 (x := ((⟨#[120, 49]⟩ : ByteArray) : ByteArray)) (rfl) al0))))))) fun A7 a w hf H => ?_)
   have hS := H.lt_ [false, true, false, false] [false, false, false] [] []
   refine aS hS ?_
   have H := H.freeze 0 rfl
   obtain ⟨y4, hy4, hF⟩ := bs_ hF
   refine nn 4 rfl (oC hf TF.cl76 (spec_l1Cur_of_ok (S := NB b0) (H.boxAt 3 rfl) ((L1CurP_mk (x := y3.2) (H.nb 3 rfl (H.get 1 rfl)))) (fun h => h rfl) (mk_list (H.nb 3 rfl (H.get 0 rfl))) hy4) fun v4 w a hp6 hf => ?_)
   obtain ⟨hch4, cs6, hbx4, hr6, ⟨hx9, hx10⟩, hs4⟩ := hp6
   obtain rfl := VR_str hs4
   obtain ⟨A8, c8, rfl, hl7⟩ := L1CurP_cells hr6
   obtain ⟨rfl, rfl⟩ := fx_slice hx9 rfl rfl
   have hx11 := hx10.trans hx8
   have H := H.wroteBox 3 rfl hch4 hbx4
   have H := H.pX 1 rfl hx10
   have hS := H.lt_ [false, true, false, false] [false, false] [] []
   refine aS hS ?_
   obtain ⟨e2, he2, hF⟩ := bs_ hF
   refine nn 5 rfl (op_iaddrR hf H Try.underlying24 TF.sz9 1 rfl rfl rfl he2 (by decide) fun p2 o3 cs7 a hf hA2 hr7 hk2 => ?_)
   obtain rfl := hr7
   have hS := H.lt_ [false, true, false, false] [false, false] [] []
   refine aS hS ?_
   refine nn 6 rfl (op_storeR (e' := y4.1) (o := o3) (off := 0) hf H TF.sz9 1 rfl rfl rfl rfl rfl (nle rfl) rfl hA2 he2 (st_full rfl) fun w H => ?_)
   replace hf : Fr a 104 [(0, (.pointer (some ⟨b0, 0, none⟩))), (2, (.pointer (some ⟨b2, 0, none⟩))), (3, (.pointer (some ⟨b3, 0, none⟩))), (4, (.int .i64 y2.1)), (5, (.pointer (some ⟨b4, 0, none⟩))), (27, (.pointer (some ⟨b3, 0, none⟩))), (28, (.slice A2 y.1.Nodes.length c3)), (29, (.pointer (some ⟨b0, 0, none⟩))), (30, (.slice A7 6 6)), (31, (.string y4.1)), (32, (.pointer (some ⟨p2, o3 + 0, none⟩)))] := hf.prune [0, 2, 3, 4, 5, 27, 28, 29, 30, 31, 32] rfl
   replace hf : Fr a 104 [(0, (.pointer (some ⟨b0, 0, none⟩))), (2, (.pointer (some ⟨b2, 0, none⟩))), (3, (.pointer (some ⟨b3, 0, none⟩))), (4, (.int .i64 y2.1)), (5, (.pointer (some ⟨b4, 0, none⟩))), (27, (.pointer (some ⟨b3, 0, none⟩))), (28, (.slice A2 (y.1.Nodes.set (0 : Int).toNat y4.1).length c3)), (29, (.pointer (some ⟨b0, 0, none⟩))), (30, (.slice A7 6 6)), (31, (.string y4.1)), (32, (.pointer (some ⟨p2, o3 + 0, none⟩)))] := by simpa only [List.length_set, Nat.add_zero] using hf
   replace H : Mem ⟨w0, [b0]⟩ S [⟨b4, 79, [(.int .i64 e.A), (.int .i64 e.B), (.int .i64 e.Length), (.int .i64 e.Risk)]⟩, ⟨b3, 27, [(.slice A2 (y.1.Nodes.set (0 : Int).toNat y4.1).length c3), (.slice A3 y.1.Fibers.length c4)]⟩, ⟨b2, 27, [(.slice none 0 0), (.slice none 0 0)]⟩, ⟨b0, 57, [(.slice A y4.2.code.length c2), (.int .i64 y4.2.at_), (.int .u64 y4.2.seed.n)]⟩] [⟨.sh true, E2, A3, c4, (y.1.Fibers : List Fiber)⟩, ⟨.sh true, E, A2, c3, (y.1.Nodes.set (0 : Int).toNat y4.1 : List ByteArray)⟩] [] [(false, MP.val [(.slice A y4.2.code.length c2)] (y4.2.code : List By)), (true, MP.val [(.slice A7 6 6)] ([(⟨#[98]⟩ : ByteArray), ByteArray.empty, (⟨#[65]⟩ : ByteArray), (⟨#[97, 98, 99, 100, 101, 102, 103, 104]⟩ : ByteArray), (⟨#[97, 98, 99, 100, 101, 102, 103, 104, 105]⟩ : ByteArray), (⟨#[120, 49]⟩ : ByteArray)] : List ByteArray)), (false, MP.val [(.slice A y3.2.code.length c2)] (y3.2.code : List By)), (false, MP.val [(.slice A y2.2.code.length c2)] (y2.2.code : List By)), (false, MP.val [(.slice A y.2.code.length c2)] (y.2.code : List By)), (false, MP.val [(.slice A c.code.length c2)] (c.code : List By))] w := by first | (simp only [List.length_set]; exact H) | (simp only [List.length_set] at H ⊢; exact H)
   refine ⟨fun h => absurd h (by decide), ?_⟩
   refine dk ?_
   refine blk_n (then_n (sqz (pz 1 hf fun a hf => ?_)))
   refine lB 1 hf H TF.ls25 fun a hf => ?_
   refine pz 1 hf fun a hf => ?_
   refine lN 0 hf H TF.la79 fun a hf => ?_
   obtain ⟨e3, he3, hF⟩ := bs_ hF
   refine wl0 rfl (op_iaddrR hf H Try.underlying25 TF.sz79 0 rfl rfl rfl he3 (by decide) fun p3 o4 cs8 a hf hA3 hr8 hk3 => ?_)
   obtain rfl := Fiber_cells hr8
   refine wl0 rfl (op_storeR (e' := e) (o := o4) (off := 0) hf H TF.sz79 0 rfl rfl rfl rfl rfl (nle rfl) rfl hA3 he3 (st_full (Fiber_mk (x := e))) fun w H => ?_)
   replace hf : Fr a 104 [(2, (.pointer (some ⟨b2, 0, none⟩))), (3, (.pointer (some ⟨b3, 0, none⟩))), (4, (.int .i64 y2.1)), (5, (.pointer (some ⟨b4, 0, none⟩))), (98, (.pointer (some ⟨b3, 1, none⟩))), (99, (.slice A3 y.1.Fibers.length c4)), (100, (.int .i64 y2.1)), (101, (.agg #[(.int .i64 e.A), (.int .i64 e.B), (.int .i64 e.Length), (.int .i64 e.Risk)])), (102, (.pointer (some ⟨p3, o4 + 0, none⟩)))] := hf.prune [2, 3, 4, 5, 98, 99, 100, 101, 102] rfl
   replace hf : Fr a 104 [(2, (.pointer (some ⟨b2, 0, none⟩))), (3, (.pointer (some ⟨b3, 0, none⟩))), (4, (.int .i64 y2.1)), (5, (.pointer (some ⟨b4, 0, none⟩))), (98, (.pointer (some ⟨b3, 1, none⟩))), (99, (.slice A3 (y.1.Fibers.set (y2.1 : Int).toNat e).length c4)), (100, (.int .i64 y2.1)), (101, (.agg #[(.int .i64 e.A), (.int .i64 e.B), (.int .i64 e.Length), (.int .i64 e.Risk)])), (102, (.pointer (some ⟨p3, o4 + 0, none⟩)))] := by simpa only [List.length_set, Nat.add_zero] using hf
   replace H : Mem ⟨w0, [b0]⟩ S [⟨b4, 79, [(.int .i64 e.A), (.int .i64 e.B), (.int .i64 e.Length), (.int .i64 e.Risk)]⟩, ⟨b3, 27, [(.slice A2 (y.1.Nodes.set (0 : Int).toNat y4.1).length c3), (.slice A3 (y.1.Fibers.set (y2.1 : Int).toNat e).length c4)]⟩, ⟨b2, 27, [(.slice none 0 0), (.slice none 0 0)]⟩, ⟨b0, 57, [(.slice A y4.2.code.length c2), (.int .i64 y4.2.at_), (.int .u64 y4.2.seed.n)]⟩] [⟨.sh true, E2, A3, c4, (y.1.Fibers.set (y2.1 : Int).toNat e : List Fiber)⟩, ⟨.sh true, E, A2, c3, (y.1.Nodes.set (0 : Int).toNat y4.1 : List ByteArray)⟩] [] [(false, MP.val [(.slice A y4.2.code.length c2)] (y4.2.code : List By)), (true, MP.val [(.slice A7 6 6)] ([(⟨#[98]⟩ : ByteArray), ByteArray.empty, (⟨#[65]⟩ : ByteArray), (⟨#[97, 98, 99, 100, 101, 102, 103, 104]⟩ : ByteArray), (⟨#[97, 98, 99, 100, 101, 102, 103, 104, 105]⟩ : ByteArray), (⟨#[120, 49]⟩ : ByteArray)] : List ByteArray)), (false, MP.val [(.slice A y3.2.code.length c2)] (y3.2.code : List By)), (false, MP.val [(.slice A y2.2.code.length c2)] (y2.2.code : List By)), (false, MP.val [(.slice A y.2.code.length c2)] (y.2.code : List By)), (false, MP.val [(.slice A c.code.length c2)] (c.code : List By))] w := by first | (simp only [List.length_set]; exact H) | (simp only [List.length_set] at H ⊢; exact H)
   refine wr (lN 1 hf H TF.la27 fun a hf => ?_)
   refine sB 2 hf H TF.sz27 fun w H => ?_
   refine wer ?_
   have H := H.rowOwn 1 rfl rfl
   obtain ⟨F6, H⟩ := H.freezeOwn 1 rfl
   have H := H.lend 0 rfl
   have H := H.rowOwn 0 rfl rfl
   obtain ⟨F7, H⟩ := H.freezeOwn 0 rfl
   have H := H.lend 0 rfl
   have H := H.frontD 1 rfl
   obtain rfl := oi hF
   refine ret_1 hf rfl (rv_cellN hf H 2 TF.la27 rfl rfl rfl) ?_
   have hN := H.endsB2 3 rfl
   exact ⟨_, rfl, H.chg, _, H.boxAt 3 rfl, (L1CurP_mk (x := y4.2) (eB 3 (H.get 2 rfl))), ⟨fxc hx11, hx11⟩, (F6 ++ F7), ⟨_, Network_ownmk (x := ({ Nodes := y.1.Nodes.set (0 : Int).toNat y4.1, Fibers := y.1.Fibers.set (y2.1 : Int).toNat e } : Network)) (H.ownAt 0 rfl) (H.ownAt 1 rfl), rfl⟩, by first | exact hN | simpa using hN⟩
  ·refine sqz (pz 2 hf fun a hf => ?_)
   refine wl_end (then_n (ib hF hf (fun hc3 hF => ?_) fun hc3 hF => ?_))
   ·refine reg (pz 1 hf fun a hf => ?_)
    obtain ⟨y5, hy5, hF⟩ := bs_ hF
    refine oc hf TF.cl54 (spec_l1Cur_pick_ok (S := NB b0) (H.boxAt 3 rfl) ((L1CurP_mk (x := y3.2) (H.nb 3 rfl (H.get 0 rfl)))) (fun h => h rfl) mk_int hy5) fun v5 w a hp7 hf => ?_
    obtain ⟨hch5, cs9, hbx5, hr9, ⟨hx12, hx13⟩, hs5⟩ := hp7
    obtain rfl := VR_int hs5
    obtain ⟨A9, c9, rfl, hl8⟩ := L1CurP_cells hr9
    obtain ⟨rfl, rfl⟩ := fx_slice hx12 rfl rfl
    have hx14 := hx13.trans hx8
    have H := H.wroteBox 3 rfl hch5 hbx5
    have H := H.pX 0 rfl hx13
    refine pz 2 hf fun a hf => ?_
    refine sB 0 hf H TF.sz3 fun w H => ?_
    refine wl_end (blk_n (then_n (sqz (pz 1 hf fun a hf => ?_))))
    refine lB 1 hf H TF.ls25 fun a hf => ?_
    refine pz 1 hf fun a hf => ?_
    refine lN 0 hf H TF.la79 fun a hf => ?_
    obtain ⟨e4, he4, hF⟩ := bs_ hF
    refine wl0 rfl (op_iaddrR hf H Try.underlying25 TF.sz79 0 rfl rfl rfl he4 (by decide) fun p4 o5 cs10 a hf hA4 hr10 hk4 => ?_)
    obtain rfl := Fiber_cells hr10
    refine wl0 rfl (op_storeR (e' := ({ A := w64 (y5.1 - 1), B := e.B, Length := e.Length, Risk := e.Risk } : Fiber)) (o := o5) (off := 0) hf H TF.sz79 0 rfl rfl rfl rfl rfl (nle rfl) rfl hA4 he4 (st_full (Fiber_mk (x := ({ A := w64 (y5.1 - 1), B := e.B, Length := e.Length, Risk := e.Risk } : Fiber)))) fun w H => ?_)
    replace hf : Fr a 104 [(2, (.pointer (some ⟨b2, 0, none⟩))), (3, (.pointer (some ⟨b3, 0, none⟩))), (4, (.int .i64 y2.1)), (5, (.pointer (some ⟨b4, 0, none⟩))), (98, (.pointer (some ⟨b3, 1, none⟩))), (99, (.slice A3 y.1.Fibers.length c4)), (100, (.int .i64 y2.1)), (101, (.agg #[(.int .i64 (w64 (y5.1 - 1))), (.int .i64 e.B), (.int .i64 e.Length), (.int .i64 e.Risk)])), (102, (.pointer (some ⟨p4, o5 + 0, none⟩)))] := hf.prune [2, 3, 4, 5, 98, 99, 100, 101, 102] rfl
    replace hf : Fr a 104 [(2, (.pointer (some ⟨b2, 0, none⟩))), (3, (.pointer (some ⟨b3, 0, none⟩))), (4, (.int .i64 y2.1)), (5, (.pointer (some ⟨b4, 0, none⟩))), (98, (.pointer (some ⟨b3, 1, none⟩))), (99, (.slice A3 (y.1.Fibers.set (y2.1 : Int).toNat ({ A := w64 (y5.1 - 1), B := e.B, Length := e.Length, Risk := e.Risk } : Fiber)).length c4)), (100, (.int .i64 y2.1)), (101, (.agg #[(.int .i64 (w64 (y5.1 - 1))), (.int .i64 e.B), (.int .i64 e.Length), (.int .i64 e.Risk)])), (102, (.pointer (some ⟨p4, o5 + 0, none⟩)))] := by simpa only [List.length_set, Nat.add_zero] using hf
    replace H : Mem ⟨w0, [b0]⟩ S [⟨b4, 79, [(.int .i64 (w64 (y5.1 - 1))), (.int .i64 e.B), (.int .i64 e.Length), (.int .i64 e.Risk)]⟩, ⟨b3, 27, [(.slice A2 y.1.Nodes.length c3), (.slice A3 (y.1.Fibers.set (y2.1 : Int).toNat ({ A := w64 (y5.1 - 1), B := e.B, Length := e.Length, Risk := e.Risk } : Fiber)).length c4)]⟩, ⟨b2, 27, [(.slice none 0 0), (.slice none 0 0)]⟩, ⟨b0, 57, [(.slice A y5.2.code.length c2), (.int .i64 y5.2.at_), (.int .u64 y5.2.seed.n)]⟩] [⟨.sh true, E2, A3, c4, (y.1.Fibers.set (y2.1 : Int).toNat ({ A := w64 (y5.1 - 1), B := e.B, Length := e.Length, Risk := e.Risk } : Fiber) : List Fiber)⟩, ⟨.sh true, E, A2, c3, (y.1.Nodes : List ByteArray)⟩] [] [(false, MP.val [(.slice A y5.2.code.length c2)] (y5.2.code : List By)), (false, MP.val [(.slice A y3.2.code.length c2)] (y3.2.code : List By)), (false, MP.val [(.slice A y2.2.code.length c2)] (y2.2.code : List By)), (false, MP.val [(.slice A y.2.code.length c2)] (y.2.code : List By)), (false, MP.val [(.slice A c.code.length c2)] (c.code : List By))] w := by first | (simp only [List.length_set]; exact H) | (simp only [List.length_set] at H ⊢; exact H)
    refine wr (lN 1 hf H TF.la27 fun a hf => ?_)
    refine sB 2 hf H TF.sz27 fun w H => ?_
    refine wer ?_
    have H := H.rowOwn 1 rfl rfl
    obtain ⟨F8, H⟩ := H.freezeOwn 1 rfl
    have H := H.lend 0 rfl
    have H := H.rowOwn 0 rfl rfl
    obtain ⟨F9, H⟩ := H.freezeOwn 0 rfl
    have H := H.lend 0 rfl
    have H := H.frontD 1 rfl
    obtain rfl := oi hF
    refine ret_1 hf rfl (rv_cellN hf H 2 TF.la27 rfl rfl rfl) ?_
    have hN := H.endsB2 3 rfl
    exact ⟨_, rfl, H.chg, _, H.boxAt 3 rfl, (L1CurP_mk (x := y5.2) (eB 3 (H.get 2 rfl))), ⟨fxc hx14, hx14⟩, (F8 ++ F9), ⟨_, Network_ownmk (x := ({ Nodes := y.1.Nodes, Fibers := y.1.Fibers.set (y2.1 : Int).toNat ({ A := w64 (y5.1 - 1), B := e.B, Length := e.Length, Risk := e.Risk } : Fiber) } : Network)) (H.ownAt 0 rfl) (H.ownAt 1 rfl), rfl⟩, by first | exact hN | simpa using hN⟩
   ·refine sqz (pz 2 hf fun a hf => ?_)
    refine wl_end (then_n (ib hF hf (fun hc4 hF => ?_) fun hc4 hF => ?_))
    ·refine reg (pz 1 hf fun a hf => ?_)
     obtain ⟨y6, hy6, hF⟩ := bs_ hF
     refine oc hf TF.cl54 (spec_l1Cur_pick_ok (S := NB b0) (H.boxAt 3 rfl) ((L1CurP_mk (x := y3.2) (H.nb 3 rfl (H.get 0 rfl)))) (fun h => h rfl) mk_int hy6) fun v6 w a hp8 hf => ?_
     obtain ⟨hch6, cs11, hbx6, hr11, ⟨hx15, hx16⟩, hs6⟩ := hp8
     obtain rfl := VR_int hs6
     obtain ⟨A10, c10, rfl, hl9⟩ := L1CurP_cells hr11
     obtain ⟨rfl, rfl⟩ := fx_slice hx15 rfl rfl
     have hx17 := hx16.trans hx8
     have H := H.wroteBox 3 rfl hch6 hbx6
     have H := H.pX 0 rfl hx16
     refine pz 2 hf fun a hf => ?_
     refine sB 0 hf H TF.sz3 fun w H => ?_
     have hf := hf.pn [2, 3, 4, 5]
     refine wl_end (blk_n (then_n (sqz (pz 1 hf fun a hf => ?_))))
     refine lB 1 hf H TF.ls25 fun a hf => ?_
     refine pz 1 hf fun a hf => ?_
     refine lN 0 hf H TF.la79 fun a hf => ?_
     obtain ⟨e5, he5, hF⟩ := bs_ hF
     refine wl0 rfl (op_iaddrR hf H Try.underlying25 TF.sz79 0 rfl rfl rfl he5 (by decide) fun p5 o6 cs12 a hf hA5 hr12 hk5 => ?_)
     obtain rfl := Fiber_cells hr12
     refine wl0 rfl (op_storeR (e' := ({ A := e.A, B := w64 (y6.1 - 1), Length := e.Length, Risk := e.Risk } : Fiber)) (o := o6) (off := 0) hf H TF.sz79 0 rfl rfl rfl rfl rfl (nle rfl) rfl hA5 he5 (st_full (Fiber_mk (x := ({ A := e.A, B := w64 (y6.1 - 1), Length := e.Length, Risk := e.Risk } : Fiber)))) fun w H => ?_)
     replace hf : Fr a 104 [(2, (.pointer (some ⟨b2, 0, none⟩))), (3, (.pointer (some ⟨b3, 0, none⟩))), (4, (.int .i64 y2.1)), (5, (.pointer (some ⟨b4, 0, none⟩))), (98, (.pointer (some ⟨b3, 1, none⟩))), (99, (.slice A3 y.1.Fibers.length c4)), (100, (.int .i64 y2.1)), (101, (.agg #[(.int .i64 e.A), (.int .i64 (w64 (y6.1 - 1))), (.int .i64 e.Length), (.int .i64 e.Risk)])), (102, (.pointer (some ⟨p5, o6 + 0, none⟩)))] := hf.prune [2, 3, 4, 5, 98, 99, 100, 101, 102] rfl
     replace hf : Fr a 104 [(2, (.pointer (some ⟨b2, 0, none⟩))), (3, (.pointer (some ⟨b3, 0, none⟩))), (4, (.int .i64 y2.1)), (5, (.pointer (some ⟨b4, 0, none⟩))), (98, (.pointer (some ⟨b3, 1, none⟩))), (99, (.slice A3 (y.1.Fibers.set (y2.1 : Int).toNat ({ A := e.A, B := w64 (y6.1 - 1), Length := e.Length, Risk := e.Risk } : Fiber)).length c4)), (100, (.int .i64 y2.1)), (101, (.agg #[(.int .i64 e.A), (.int .i64 (w64 (y6.1 - 1))), (.int .i64 e.Length), (.int .i64 e.Risk)])), (102, (.pointer (some ⟨p5, o6 + 0, none⟩)))] := by simpa only [List.length_set, Nat.add_zero] using hf
     replace H : Mem ⟨w0, [b0]⟩ S [⟨b4, 79, [(.int .i64 e.A), (.int .i64 (w64 (y6.1 - 1))), (.int .i64 e.Length), (.int .i64 e.Risk)]⟩, ⟨b3, 27, [(.slice A2 y.1.Nodes.length c3), (.slice A3 (y.1.Fibers.set (y2.1 : Int).toNat ({ A := e.A, B := w64 (y6.1 - 1), Length := e.Length, Risk := e.Risk } : Fiber)).length c4)]⟩, ⟨b2, 27, [(.slice none 0 0), (.slice none 0 0)]⟩, ⟨b0, 57, [(.slice A y6.2.code.length c2), (.int .i64 y6.2.at_), (.int .u64 y6.2.seed.n)]⟩] [⟨.sh true, E2, A3, c4, (y.1.Fibers.set (y2.1 : Int).toNat ({ A := e.A, B := w64 (y6.1 - 1), Length := e.Length, Risk := e.Risk } : Fiber) : List Fiber)⟩, ⟨.sh true, E, A2, c3, (y.1.Nodes : List ByteArray)⟩] [] [(false, MP.val [(.slice A y6.2.code.length c2)] (y6.2.code : List By)), (false, MP.val [(.slice A y3.2.code.length c2)] (y3.2.code : List By)), (false, MP.val [(.slice A y2.2.code.length c2)] (y2.2.code : List By)), (false, MP.val [(.slice A y.2.code.length c2)] (y.2.code : List By)), (false, MP.val [(.slice A c.code.length c2)] (c.code : List By))] w := by first | (simp only [List.length_set]; exact H) | (simp only [List.length_set] at H ⊢; exact H)
     refine wr (lN 1 hf H TF.la27 fun a hf => ?_)
     refine sB 2 hf H TF.sz27 fun w H => ?_
     refine wer ?_
     have H := H.rowOwn 1 rfl rfl
     obtain ⟨F10, H⟩ := H.freezeOwn 1 rfl
     have H := H.lend 0 rfl
     have H := H.rowOwn 0 rfl rfl
     obtain ⟨F11, H⟩ := H.freezeOwn 0 rfl
     have H := H.lend 0 rfl
     have H := H.frontD 1 rfl
     obtain rfl := oi hF
     refine ret_1 hf rfl (rv_cellN hf H 2 TF.la27 rfl rfl rfl) ?_
     have hN := H.endsB2 3 rfl
     exact ⟨_, rfl, H.chg, _, H.boxAt 3 rfl, (L1CurP_mk (x := y6.2) (eB 3 (H.get 2 rfl))), ⟨fxc hx17, hx17⟩, (F10 ++ F11), ⟨_, Network_ownmk (x := ({ Nodes := y.1.Nodes, Fibers := y.1.Fibers.set (y2.1 : Int).toNat ({ A := e.A, B := w64 (y6.1 - 1), Length := e.Length, Risk := e.Risk } : Fiber) } : Network)) (H.ownAt 0 rfl) (H.ownAt 1 rfl), rfl⟩, by first | exact hN | simpa using hN⟩
    ·refine sqz (pz 2 hf fun a hf => ?_)
     refine wl_end (then_n (ib hF hf (fun hc5 hF => ?_) fun hc5 hF => ?_))
     ·refine reg (pz 1 hf fun a hf => ?_)
      refine wl0 rfl (bl hf H 3 ([0, 1, 5000, 5001] : List Int) [(.int .i64 0), (.int .i64 1), (.int .i64 5000), (.int .i64 5001)] (elI [0, 1, 5000, 5001]) fun A11 a w hf H => ?_)
      have H := H.freeze 0 rfl
      obtain ⟨y7, hy7, hF⟩ := bs_ hF
      refine oc hf TF.cl57 (spec_l1Cur_among_ok (S := NB b0) (H.boxAt 3 rfl) ((L1CurP_mk (x := y3.2) (H.nb 3 rfl (H.get 1 rfl)))) (fun h => h rfl) (mk_list (H.nb 3 rfl (H.get 0 rfl))) hy7) fun v7 w a hp9 hf => ?_
      obtain ⟨hch7, cs13, hbx7, hr13, ⟨hx18, hx19⟩, hs7⟩ := hp9
      obtain rfl := VR_int hs7
      obtain ⟨A12, c11, rfl, hl10⟩ := L1CurP_cells hr13
      obtain ⟨rfl, rfl⟩ := fx_slice hx18 rfl rfl
      have hx20 := hx19.trans hx8
      have H := H.wroteBox 3 rfl hch7 hbx7
      have H := H.pX 1 rfl hx19
      refine pz 1 hf fun a hf => ?_
      refine sB 0 hf H TF.sz3 fun w H => ?_
      have hf := hf.pn [2, 3, 4, 5]
      refine wl_end (blk_n (then_n (sqz (pz 1 hf fun a hf => ?_))))
      refine lB 1 hf H TF.ls25 fun a hf => ?_
      refine pz 1 hf fun a hf => ?_
      refine lN 0 hf H TF.la79 fun a hf => ?_
      obtain ⟨e6, he6, hF⟩ := bs_ hF
      refine wl0 rfl (op_iaddrR hf H Try.underlying25 TF.sz79 0 rfl rfl rfl he6 (by decide) fun p6 o7 cs14 a hf hA6 hr14 hk6 => ?_)
      obtain rfl := Fiber_cells hr14
      refine wl0 rfl (op_storeR (e' := ({ A := e.A, B := e.B, Length := y7.1, Risk := e.Risk } : Fiber)) (o := o7) (off := 0) hf H TF.sz79 0 rfl rfl rfl rfl rfl (nle rfl) rfl hA6 he6 (st_full (Fiber_mk (x := ({ A := e.A, B := e.B, Length := y7.1, Risk := e.Risk } : Fiber)))) fun w H => ?_)
      replace hf : Fr a 104 [(2, (.pointer (some ⟨b2, 0, none⟩))), (3, (.pointer (some ⟨b3, 0, none⟩))), (4, (.int .i64 y2.1)), (5, (.pointer (some ⟨b4, 0, none⟩))), (98, (.pointer (some ⟨b3, 1, none⟩))), (99, (.slice A3 y.1.Fibers.length c4)), (100, (.int .i64 y2.1)), (101, (.agg #[(.int .i64 e.A), (.int .i64 e.B), (.int .i64 y7.1), (.int .i64 e.Risk)])), (102, (.pointer (some ⟨p6, o7 + 0, none⟩)))] := hf.prune [2, 3, 4, 5, 98, 99, 100, 101, 102] rfl
      replace hf : Fr a 104 [(2, (.pointer (some ⟨b2, 0, none⟩))), (3, (.pointer (some ⟨b3, 0, none⟩))), (4, (.int .i64 y2.1)), (5, (.pointer (some ⟨b4, 0, none⟩))), (98, (.pointer (some ⟨b3, 1, none⟩))), (99, (.slice A3 (y.1.Fibers.set (y2.1 : Int).toNat ({ A := e.A, B := e.B, Length := y7.1, Risk := e.Risk } : Fiber)).length c4)), (100, (.int .i64 y2.1)), (101, (.agg #[(.int .i64 e.A), (.int .i64 e.B), (.int .i64 y7.1), (.int .i64 e.Risk)])), (102, (.pointer (some ⟨p6, o7 + 0, none⟩)))] := by simpa only [List.length_set, Nat.add_zero] using hf
      replace H : Mem ⟨w0, [b0]⟩ S [⟨b4, 79, [(.int .i64 e.A), (.int .i64 e.B), (.int .i64 y7.1), (.int .i64 e.Risk)]⟩, ⟨b3, 27, [(.slice A2 y.1.Nodes.length c3), (.slice A3 (y.1.Fibers.set (y2.1 : Int).toNat ({ A := e.A, B := e.B, Length := y7.1, Risk := e.Risk } : Fiber)).length c4)]⟩, ⟨b2, 27, [(.slice none 0 0), (.slice none 0 0)]⟩, ⟨b0, 57, [(.slice A y7.2.code.length c2), (.int .i64 y7.2.at_), (.int .u64 y7.2.seed.n)]⟩] [⟨.sh true, E2, A3, c4, (y.1.Fibers.set (y2.1 : Int).toNat ({ A := e.A, B := e.B, Length := y7.1, Risk := e.Risk } : Fiber) : List Fiber)⟩, ⟨.sh true, E, A2, c3, (y.1.Nodes : List ByteArray)⟩] [] [(false, MP.val [(.slice A y7.2.code.length c2)] (y7.2.code : List By)), (true, MP.val [(.slice A11 4 4)] ([0, 1, 5000, 5001] : List Int)), (false, MP.val [(.slice A y3.2.code.length c2)] (y3.2.code : List By)), (false, MP.val [(.slice A y2.2.code.length c2)] (y2.2.code : List By)), (false, MP.val [(.slice A y.2.code.length c2)] (y.2.code : List By)), (false, MP.val [(.slice A c.code.length c2)] (c.code : List By))] w := by first | (simp only [List.length_set]; exact H) | (simp only [List.length_set] at H ⊢; exact H)
      refine wr (lN 1 hf H TF.la27 fun a hf => ?_)
      refine sB 2 hf H TF.sz27 fun w H => ?_
      refine wer ?_
      have H := H.rowOwn 1 rfl rfl
      obtain ⟨F12, H⟩ := H.freezeOwn 1 rfl
      have H := H.lend 0 rfl
      have H := H.rowOwn 0 rfl rfl
      obtain ⟨F13, H⟩ := H.freezeOwn 0 rfl
      have H := H.lend 0 rfl
      have H := H.frontD 1 rfl
      obtain rfl := oi hF
      refine ret_1 hf rfl (rv_cellN hf H 2 TF.la27 rfl rfl rfl) ?_
      have hN := H.endsB2 3 rfl
      exact ⟨_, rfl, H.chg, _, H.boxAt 3 rfl, (L1CurP_mk (x := y7.2) (eB 3 (H.get 2 rfl))), ⟨fxc hx20, hx20⟩, (F12 ++ F13), ⟨_, Network_ownmk (x := ({ Nodes := y.1.Nodes, Fibers := y.1.Fibers.set (y2.1 : Int).toNat ({ A := e.A, B := e.B, Length := y7.1, Risk := e.Risk } : Fiber) } : Network)) (H.ownAt 0 rfl) (H.ownAt 1 rfl), rfl⟩, by first | exact hN | simpa using hN⟩
     ·refine sqz (pz 2 hf fun a hf => ?_)
      refine wl_end (then_n (ib hF hf (fun hc6 hF => ?_) fun hc6 hF => ?_))
      ·refine reg (pz 1 hf fun a hf => ?_)
       refine wl0 rfl (bl hf H 3 ([(-1), 9, 10] : List Int) [(.int .i64 (-1)), (.int .i64 9), (.int .i64 10)] (elI [(-1), 9, 10]) fun A13 a w hf H => ?_)
       have H := H.freeze 0 rfl
       obtain ⟨y8, hy8, hF⟩ := bs_ hF
       refine oc hf TF.cl57 (spec_l1Cur_among_ok (S := NB b0) (H.boxAt 3 rfl) ((L1CurP_mk (x := y3.2) (H.nb 3 rfl (H.get 1 rfl)))) (fun h => h rfl) (mk_list (H.nb 3 rfl (H.get 0 rfl))) hy8) fun v8 w a hp10 hf => ?_
       obtain ⟨hch8, cs15, hbx8, hr15, ⟨hx21, hx22⟩, hs8⟩ := hp10
       obtain rfl := VR_int hs8
       obtain ⟨A14, c12, rfl, hl11⟩ := L1CurP_cells hr15
       obtain ⟨rfl, rfl⟩ := fx_slice hx21 rfl rfl
       have hx23 := hx22.trans hx8
       have H := H.wroteBox 3 rfl hch8 hbx8
       have H := H.pX 1 rfl hx22
       refine pz 1 hf fun a hf => ?_
       refine sB 0 hf H TF.sz3 fun w H => ?_
       have hf := hf.pn [2, 3, 4, 5]
       refine wl_end (blk_n (then_n (sqz (pz 1 hf fun a hf => ?_))))
       refine lB 1 hf H TF.ls25 fun a hf => ?_
       refine pz 1 hf fun a hf => ?_
       refine lN 0 hf H TF.la79 fun a hf => ?_
       obtain ⟨e7, he7, hF⟩ := bs_ hF
       refine wl0 rfl (op_iaddrR hf H Try.underlying25 TF.sz79 0 rfl rfl rfl he7 (by decide) fun p7 o8 cs16 a hf hA7 hr16 hk7 => ?_)
       obtain rfl := Fiber_cells hr16
       refine wl0 rfl (op_storeR (e' := ({ A := e.A, B := e.B, Length := e.Length, Risk := y8.1 } : Fiber)) (o := o8) (off := 0) hf H TF.sz79 0 rfl rfl rfl rfl rfl (nle rfl) rfl hA7 he7 (st_full (Fiber_mk (x := ({ A := e.A, B := e.B, Length := e.Length, Risk := y8.1 } : Fiber)))) fun w H => ?_)
       replace hf : Fr a 104 [(2, (.pointer (some ⟨b2, 0, none⟩))), (3, (.pointer (some ⟨b3, 0, none⟩))), (4, (.int .i64 y2.1)), (5, (.pointer (some ⟨b4, 0, none⟩))), (98, (.pointer (some ⟨b3, 1, none⟩))), (99, (.slice A3 y.1.Fibers.length c4)), (100, (.int .i64 y2.1)), (101, (.agg #[(.int .i64 e.A), (.int .i64 e.B), (.int .i64 e.Length), (.int .i64 y8.1)])), (102, (.pointer (some ⟨p7, o8 + 0, none⟩)))] := hf.prune [2, 3, 4, 5, 98, 99, 100, 101, 102] rfl
       replace hf : Fr a 104 [(2, (.pointer (some ⟨b2, 0, none⟩))), (3, (.pointer (some ⟨b3, 0, none⟩))), (4, (.int .i64 y2.1)), (5, (.pointer (some ⟨b4, 0, none⟩))), (98, (.pointer (some ⟨b3, 1, none⟩))), (99, (.slice A3 (y.1.Fibers.set (y2.1 : Int).toNat ({ A := e.A, B := e.B, Length := e.Length, Risk := y8.1 } : Fiber)).length c4)), (100, (.int .i64 y2.1)), (101, (.agg #[(.int .i64 e.A), (.int .i64 e.B), (.int .i64 e.Length), (.int .i64 y8.1)])), (102, (.pointer (some ⟨p7, o8 + 0, none⟩)))] := by simpa only [List.length_set, Nat.add_zero] using hf
       replace H : Mem ⟨w0, [b0]⟩ S [⟨b4, 79, [(.int .i64 e.A), (.int .i64 e.B), (.int .i64 e.Length), (.int .i64 y8.1)]⟩, ⟨b3, 27, [(.slice A2 y.1.Nodes.length c3), (.slice A3 (y.1.Fibers.set (y2.1 : Int).toNat ({ A := e.A, B := e.B, Length := e.Length, Risk := y8.1 } : Fiber)).length c4)]⟩, ⟨b2, 27, [(.slice none 0 0), (.slice none 0 0)]⟩, ⟨b0, 57, [(.slice A y8.2.code.length c2), (.int .i64 y8.2.at_), (.int .u64 y8.2.seed.n)]⟩] [⟨.sh true, E2, A3, c4, (y.1.Fibers.set (y2.1 : Int).toNat ({ A := e.A, B := e.B, Length := e.Length, Risk := y8.1 } : Fiber) : List Fiber)⟩, ⟨.sh true, E, A2, c3, (y.1.Nodes : List ByteArray)⟩] [] [(false, MP.val [(.slice A y8.2.code.length c2)] (y8.2.code : List By)), (true, MP.val [(.slice A13 3 3)] ([(-1), 9, 10] : List Int)), (false, MP.val [(.slice A y3.2.code.length c2)] (y3.2.code : List By)), (false, MP.val [(.slice A y2.2.code.length c2)] (y2.2.code : List By)), (false, MP.val [(.slice A y.2.code.length c2)] (y.2.code : List By)), (false, MP.val [(.slice A c.code.length c2)] (c.code : List By))] w := by first | (simp only [List.length_set]; exact H) | (simp only [List.length_set] at H ⊢; exact H)
       refine wr (lN 1 hf H TF.la27 fun a hf => ?_)
       refine sB 2 hf H TF.sz27 fun w H => ?_
       refine wer ?_
       have H := H.rowOwn 1 rfl rfl
       obtain ⟨F14, H⟩ := H.freezeOwn 1 rfl
       have H := H.lend 0 rfl
       have H := H.rowOwn 0 rfl rfl
       obtain ⟨F15, H⟩ := H.freezeOwn 0 rfl
       have H := H.lend 0 rfl
       have H := H.frontD 1 rfl
       obtain rfl := oi hF
       refine ret_1 hf rfl (rv_cellN hf H 2 TF.la27 rfl rfl rfl) ?_
       have hN := H.endsB2 3 rfl
       exact ⟨_, rfl, H.chg, _, H.boxAt 3 rfl, (L1CurP_mk (x := y8.2) (eB 3 (H.get 2 rfl))), ⟨fxc hx23, hx23⟩, (F14 ++ F15), ⟨_, Network_ownmk (x := ({ Nodes := y.1.Nodes, Fibers := y.1.Fibers.set (y2.1 : Int).toNat ({ A := e.A, B := e.B, Length := e.Length, Risk := y8.1 } : Fiber) } : Network)) (H.ownAt 0 rfl) (H.ownAt 1 rfl), rfl⟩, by first | exact hN | simpa using hN⟩
      ·refine sqz (pz 2 hf fun a hf => ?_)
       refine wl_end (then_n (ib hF hf (fun hc7 hF => ?_) fun hc7 hF => ?_))
       ·refine dw [7, 9] 10 fun w hb => ?_
        have H := H.keep hb
        refine zp 0 hf trivial fun a hf => ?_
        refine strT (H.lt_ [false, true, false, false] [false, false] [] []) (fun w H => trivial) fun hS => ?_
        refine zS 1 [1, 7, 8, 9] rfl rfl rfl rfl hf hS (fun w H => rq_loadB hf H TF.ls25 0 rfl rfl rfl) fun a hf => ?_
        refine zp 2 hf hS fun a hf => ?_
        refine zS 3 [3, 4, 5, 6, 7, 8, 9] rfl rfl rfl rfl hf hS (fun w H => rq_loadB hf H TF.ls25 0 rfl rfl rfl) fun a hf => ?_
        obtain ⟨e8, he8, hF⟩ := bs_ hF
        obtain ⟨p8, o9, hA8, hx24⟩ := pre_iaddrR H Try.underlying25 TF.sz79 0 rfl he8
        refine zP 4 rfl rfl rfl rfl hf hS (fun w => rq_iaddrE hf rfl rfl rfl hx24 w) fun a hf => ?_
        refine strT (H.lt_ [false, true, false, false] [true, false] [] []) (fun w H => H.lt_ [true] [false] [] []) fun hS => ?_
        refine zS 5 [5, 6, 7, 8, 9] rfl rfl rfl rfl hf hS (fun w H => rq_loadRowN (off := 0) hf H TF.la79 0 rfl rfl hA8 he8 rfl (fun w T cs h => by obtain rfl := Fiber_cells h; rfl)) fun a hf => ?_
        refine nn 6 rfl (bl hf H 79 ([e8] : List Fiber) [(.int .i64 e8.A), (.int .i64 e8.B), (.int .i64 e8.Length), (.int .i64 e8.Risk)] (el1 (y := e8) ((Fiber_mk (x := e8)))) fun A15 a w hf H => ?_)
        have hS := H.lt_ [false, true, false, false] [false, true, false] [] []
        refine aS hS ?_
        obtain ⟨l, hl_, hF⟩ := bs_ hF
        refine nn 7 rfl (op_appR hf H Try.underlying25 TF.ai79 rfl (by decide) 1 0 rfl rfl rfl rfl (.inr rfl) hl_ (by decide) fun E3 A16 c13 a w hf H => ?_)
        refine ⟨fun h => absurd h (by decide), ?_⟩
        refine tp 8 rfl rfl hf (by kernel_rfl) (fun h => absurd h (by decide)) rfl fun a hf => ?_
        refine nn 9 rfl (op_storeB hf H 1 TF.sz25 rfl rfl rfl rfl rfl rfl (nle rfl) fun w H => ?_)
        refine ⟨fun h => absurd h (by decide), ?_⟩
        refine dk ?_
        have hf := hf.pn [2, 3, 4, 5]
        refine blk_n (then_n (sqz (pz 1 hf fun a hf => ?_)))
        refine lB 1 hf H TF.ls25 fun a hf => ?_
        refine pz 1 hf fun a hf => ?_
        refine lN 0 hf H TF.la79 fun a hf => ?_
        obtain ⟨e9, he9, hF⟩ := bs_ hF
        refine wl0 rfl (op_iaddrR hf H Try.underlying25 TF.sz79 1 rfl rfl rfl he9 (by decide) fun p9 o10 cs17 a hf hA9 hr17 hk8 => ?_)
        obtain rfl := Fiber_cells hr17
        refine wl0 rfl (op_storeR (e' := e) (o := o10) (off := 0) hf H TF.sz79 1 rfl rfl rfl rfl rfl (nle rfl) rfl hA9 he9 (st_full (Fiber_mk (x := e))) fun w H => ?_)
        replace hf : Fr a 104 [(2, (.pointer (some ⟨b2, 0, none⟩))), (3, (.pointer (some ⟨b3, 0, none⟩))), (4, (.int .i64 y2.1)), (5, (.pointer (some ⟨b4, 0, none⟩))), (98, (.pointer (some ⟨b3, 1, none⟩))), (99, (.slice A16 l.length c13)), (100, (.int .i64 y2.1)), (101, (.agg #[(.int .i64 e.A), (.int .i64 e.B), (.int .i64 e.Length), (.int .i64 e.Risk)])), (102, (.pointer (some ⟨p9, o10 + 0, none⟩)))] := hf.prune [2, 3, 4, 5, 98, 99, 100, 101, 102] rfl
        replace hf : Fr a 104 [(2, (.pointer (some ⟨b2, 0, none⟩))), (3, (.pointer (some ⟨b3, 0, none⟩))), (4, (.int .i64 y2.1)), (5, (.pointer (some ⟨b4, 0, none⟩))), (98, (.pointer (some ⟨b3, 1, none⟩))), (99, (.slice A16 (l.set (y2.1 : Int).toNat e).length c13)), (100, (.int .i64 y2.1)), (101, (.agg #[(.int .i64 e.A), (.int .i64 e.B), (.int .i64 e.Length), (.int .i64 e.Risk)])), (102, (.pointer (some ⟨p9, o10 + 0, none⟩)))] := by simpa only [List.length_set, Nat.add_zero] using hf
        replace H : Mem ⟨w0, [b0]⟩ S [⟨b4, 79, [(.int .i64 e.A), (.int .i64 e.B), (.int .i64 e.Length), (.int .i64 e.Risk)]⟩, ⟨b3, 27, [(.slice A2 y.1.Nodes.length c3), (.slice A16 (l.set (y2.1 : Int).toNat e).length c13)]⟩, ⟨b2, 27, [(.slice none 0 0), (.slice none 0 0)]⟩, ⟨b0, 57, [(.slice A y3.2.code.length c2), (.int .i64 y3.2.at_), (.int .u64 y3.2.seed.n)]⟩] [⟨.sh true, 79, A15, 1, ([e8] : List Fiber)⟩, ⟨.sh true, E3, A16, c13, (l.set (y2.1 : Int).toNat e : List Fiber)⟩, ⟨.sh true, E, A2, c3, (y.1.Nodes : List ByteArray)⟩] [] [(false, MP.val [(.slice A y3.2.code.length c2)] (y3.2.code : List By)), (false, MP.val [(.slice A y2.2.code.length c2)] (y2.2.code : List By)), (false, MP.val [(.slice A y.2.code.length c2)] (y.2.code : List By)), (false, MP.val [(.slice A c.code.length c2)] (c.code : List By))] w := by first | (simp only [List.length_set]; exact H) | (simp only [List.length_set] at H ⊢; exact H)
        refine wr (lN 1 hf H TF.la27 fun a hf => ?_)
        refine sB 2 hf H TF.sz27 fun w H => ?_
        refine wer ?_
        have H := H.rowOwn 2 rfl rfl
        obtain ⟨F16, H⟩ := H.freezeOwn 2 rfl
        have H := H.lend 0 rfl
        have H := H.rowOwn 1 rfl rfl
        obtain ⟨F17, H⟩ := H.freezeOwn 1 rfl
        have H := H.lend 0 rfl
        have H := H.frontD 1 rfl
        obtain rfl := oi hF
        refine ret_1 hf rfl (rv_cellN hf H 2 TF.la27 rfl rfl rfl) ?_
        have hN := H.endsB2 3 rfl
        exact ⟨_, rfl, H.chg, _, H.boxAt 3 rfl, (L1CurP_mk (x := y3.2) (eB 3 (H.get 2 rfl))), ⟨fxc hx8, hx8⟩, (F16 ++ F17), ⟨_, Network_ownmk (x := ({ Nodes := y.1.Nodes, Fibers := l.set (y2.1 : Int).toNat e } : Network)) (H.ownAt 0 rfl) (H.ownAt 1 rfl), rfl⟩, by first | exact hN | simpa using hN⟩
       ·refine sqz (pz 2 hf fun a hf => ?_)
        have hf := hf.pn [0, 2, 3, 4, 5, 24, 68]
        refine wl_end (then_n (ib hF hf (fun hc8 hF => ?_) fun hc8 hF => ?_))
        ·refine sq ?_
         obtain ⟨out', hB1, hF⟩ := bs_ hF
         have hf := hf.pn [0, 2, 3]
         have H := H.lt_ [false, true, true, true] [true, true] [] [0]
         refine loopC (fun (s : List Fiber × List By × Int × U64) (a : Act) (w : World) => match s with | (m, m2, m3, m4) => ∃ (A17 : Option Addr) (c14 : Nat) (E4 : Go.TypeId), m2 = c.code ∧ Fr a 104 [(0, (.pointer (some ⟨b0, 0, none⟩))), (2, (.pointer (some ⟨b2, 0, none⟩))), (3, (.pointer (some ⟨b3, 0, none⟩)))] ∧ Mem ⟨w0, [b0]⟩ S [⟨b3, 27, [(.slice A2 y.1.Nodes.length c3), (.slice A17 m.length c14)]⟩, ⟨b2, 27, [(.slice none 0 0), (.slice none 0 0)]⟩, ⟨b0, 57, [(.slice A m2.length c2), (.int .i64 m3), (.int .u64 m4.n)]⟩] [⟨.sh true, E4, A17, c14, (m : List Fiber)⟩, ⟨.sh true, E, A2, c3, (y.1.Nodes : List ByteArray)⟩] [] [(false, MP.val [(.slice A m2.length c2)] (m2 : List By))] w) (fun k (s : List Fiber × List By × Int × U64) => spec_l1Cur_anyNetwork_L1 fu k s.1 s.2.1 s.2.2.1 s.2.2.2 = some out') (fun s => out' = s) (y.1.Fibers, y3.2.code, y3.2.at_, y3.2.seed) fu hB1 ⟨A3, c4, E2, hx8, hf, H⟩ (fun s h => by cases h) ?_ ?_
         ·rintro fk ⟨m, m2, m3, m4⟩ a w hR1 hI
          replace hR1 : spec_l1Cur_anyNetwork_L1 fu (fk + 1) m m2 m3 m4 = some out' := hR1
          rw [spec_l1Cur_anyNetwork_L1] at hR1
          obtain ⟨A17, c14, E4, hsm, hf, H⟩ := hI
          refine sq (sq (dw [] 7 fun w hb => ?_))
          have H := H.keep hb
          refine zp 0 hf trivial fun a hf => ?_
          refine strT (H.lt_ [true, false, false] [false, false] [] []) (fun w H => trivial) fun hS => ?_
          refine zS 1 [] rfl rfl rfl rfl hf hS (fun w H => rq_loadB hf H TF.ls25 0 rfl rfl rfl) fun a hf => ?_
          refine zp 2 hf hS fun a hf => ?_
          refine zp 3 hf hS fun a hf => ?_
          obtain ⟨y9, hy9, hR1⟩ := bs_ hR1
          refine nn 4 rfl (oC hf TF.cl54 (spec_l1Cur_pick_ok (S := NB b0) (H.boxAt 2 rfl) ((L1CurP_mk (x := ({ code := m2, at_ := m3, seed := m4 } : L1CurP)) (H.nb 2 rfl (H.get 0 rfl)))) (fun h => h rfl) mk_int hy9) fun v9 w a hp11 hf => ?_)
          obtain ⟨hch9, cs18, hbx9, hr18, ⟨hx25, hx26⟩, hs9⟩ := hp11
          obtain rfl := VR_int hs9
          obtain ⟨A18, c15, rfl, hl12⟩ := L1CurP_cells hr18
          obtain ⟨rfl, rfl⟩ := fx_slice hx25 rfl rfl
          have hx27 := hx26.trans hsm
          have H := H.wroteBox 2 rfl hch9 hbx9
          have H := H.pX 0 rfl hx26
          have hS := H.lt_ [true, false, false] [false, false] [] []
          refine aS hS ?_
          refine zp 5 hf hS fun a hf => ?_
          refine zp 6 hf hS fun a hf => ?_
          refine dk ?_
          refine then_n (ib hR1 hf (fun hc9 hR1 => ?_) fun hc9 hR1 => ?_)
          ·refine wp_skip (then_n (wp_block (dw [11, 13] 14 fun w hb => ?_)))
           have H := H.keep hb
           refine zp 0 hf trivial fun a hf => ?_
           refine strT (H.lt_ [true, false, false] [false, false] [] []) (fun w H => trivial) fun hS => ?_
           refine zS 1 [1, 11, 12, 13] rfl rfl rfl rfl hf hS (fun w H => rq_loadB hf H TF.ls25 0 rfl rfl rfl) fun a hf => ?_
           refine zp 2 hf hS fun a hf => ?_
           refine zS 3 [3, 8, 9, 10, 11, 12, 13] rfl rfl rfl rfl hf hS (fun w H => rq_loadB hf H TF.ls25 0 rfl rfl rfl) fun a hf => ?_
           refine zp 4 hf hS fun a hf => ?_
           refine zS 5 [5, 6, 7, 8, 9, 10, 11, 12, 13] rfl rfl rfl rfl hf hS (fun w H => rq_loadB hf H TF.ls25 0 rfl rfl rfl) fun a hf => ?_
           refine zp 6 hf hS fun a hf => ?_
           refine zp 7 hf hS fun a hf => ?_
           obtain ⟨e10, he10, hR1⟩ := bs_ hR1
           obtain ⟨p10, o11, hA10, hx28⟩ := pre_iaddrR H Try.underlying25 TF.sz79 0 rfl he10
           refine zP 8 rfl rfl rfl rfl hf hS (fun w => rq_iaddrE hf rfl rfl rfl hx28 w) fun a hf => ?_
           refine strT (H.lt_ [true, false, false] [true, false] [] []) (fun w H => H.lt_ [true] [false] [] []) fun hS => ?_
           refine zS 9 [9, 10, 11, 12, 13] rfl rfl rfl rfl hf hS (fun w H => rq_loadRowN (off := 0) hf H TF.la79 0 rfl rfl hA10 he10 rfl (fun w T cs h => by obtain rfl := Fiber_cells h; rfl)) fun a hf => ?_
           refine nn 10 rfl (bl hf H 79 ([e10] : List Fiber) [(.int .i64 e10.A), (.int .i64 e10.B), (.int .i64 e10.Length), (.int .i64 e10.Risk)] (el1 (y := e10) ((Fiber_mk (x := e10)))) fun A19 a w hf H => ?_)
           have hS := H.lt_ [true, false, false] [false, true, false] [] []
           refine aS hS ?_
           obtain ⟨l2, hl2_, hR1⟩ := bs_ hR1
           refine nn 11 rfl (op_appR hf H Try.underlying25 TF.ai79 rfl (by decide) 1 0 rfl rfl rfl rfl (.inr rfl) hl2_ (by decide) fun E5 A20 c16 a w hf H => ?_)
           refine ⟨fun h => absurd h (by decide), ?_⟩
           refine tp 12 rfl rfl hf (by kernel_rfl) (fun h => absurd h (by decide)) rfl fun a hf => ?_
           refine nn 13 rfl (op_storeB hf H 0 TF.sz25 rfl rfl rfl rfl rfl rfl (nle rfl) fun w H => ?_)
           refine ⟨fun h => absurd h (by decide), ?_⟩
           refine dk ?_
           have hf := hf.pn [0, 2, 3]
           refine blk_n ?_
           have hf := hf.pn [0, 2, 3]
           have H := H.lt_ [true, true, true] [false, true, true] [] [0]
           exact then_n ⟨(l2, y9.2.code, y9.2.at_, y9.2.seed), hR1, A20, c16, E5, hx27, hf, H⟩
          ·refine wp_exit (then_x (then_x (blk_e (?_))))
           have hf := hf.pn [0, 2, 3]
           have H := H.lt_ [true, true, true] [true, true] [] [0]
           exact ⟨(m, y9.2.code, y9.2.at_, y9.2.seed), (Option.some.inj hR1).symm, A17, c14, E4, hx27, hf, H⟩
         rintro a w ⟨⟨m5, m6, m7, m8⟩, rfl, A21, c17, E6, hsm, hf, H⟩
         try dsimp only at hsm
         try dsimp only at hF
         refine then_n (sq (reg (lN 0 hf H TF.la27 fun a hf => ?_)))
         refine sB 1 hf H TF.sz27 fun w H => ?_
         refine wl_end (then_n (wp_ret (blk_r (then_r (?_)))))
         have H := H.rowOwn 1 rfl rfl
         obtain ⟨F18, H⟩ := H.freezeOwn 1 rfl
         have H := H.lend 0 rfl
         have H := H.rowOwn 0 rfl rfl
         obtain ⟨F19, H⟩ := H.freezeOwn 0 rfl
         have H := H.lend 0 rfl
         have H := H.frontD 1 rfl
         obtain rfl := oi hF
         refine ret_1 hf rfl (rv_cellN hf H 1 TF.la27 rfl rfl rfl) ?_
         have hN := H.endsB2 2 rfl
         exact ⟨_, rfl, H.chg, _, H.boxAt 2 rfl, (L1CurP_mk (x := ({ code := m6, at_ := m7, seed := m8 } : L1CurP)) (eB 2 (H.get 2 rfl))), ⟨fxc hsm, hsm⟩, (F18 ++ F19), ⟨_, Network_ownmk (x := ({ Nodes := y.1.Nodes, Fibers := m5 } : Network)) (H.ownAt 0 rfl) (H.ownAt 1 rfl), rfl⟩, by first | exact hN | simpa using hN⟩
        ·refine sqz (pz 2 hf fun a hf => ?_)
         refine wl_end (then_n (ib hF hf (fun hc10 hF => ?_) fun hc10 hF => ?_))
         ·refine reg (pz 1 hf fun a hf => ?_)
          refine lB 1 hf H TF.ls24 fun a hf => ?_
          refine wl0 rfl (bl hf H 9 ([(⟨#[112]⟩ : ByteArray), (⟨#[113]⟩ : ByteArray), (⟨#[114]⟩ : ByteArray), (⟨#[115]⟩ : ByteArray)] : List ByteArray) [(.string (⟨#[112]⟩ : ByteArray)), (.string (⟨#[113]⟩ : ByteArray)), (.string (⟨#[114]⟩ : ByteArray)), (.string (⟨#[115]⟩ : ByteArray))] (elL [([(.string (⟨#[112]⟩ : ByteArray))], ((⟨#[112]⟩ : ByteArray) : ByteArray)), ([(.string (⟨#[113]⟩ : ByteArray))], ((⟨#[113]⟩ : ByteArray) : ByteArray)), ([(.string (⟨#[114]⟩ : ByteArray))], ((⟨#[114]⟩ : ByteArray) : ByteArray)), ([(.string (⟨#[115]⟩ : ByteArray))], ((⟨#[115]⟩ : ByteArray) : ByteArray))] (al1 (x := ((⟨#[112]⟩ : ByteArray) : ByteArray)) (rfl) (al1 (x := ((⟨#[113]⟩ : ByteArray) : ByteArray)) (rfl) (al1 (x := ((⟨#[114]⟩ : ByteArray) : ByteArray)) (rfl) (al1 (x := ((⟨#[115]⟩ : ByteArray) : ByteArray)) (rfl) al0))))) fun A22 a w hf H => ?_)
          obtain ⟨l3, hl3_, hF⟩ := bs_ hF
          refine wl0 rfl (op_appR hf H Try.underlying24 TF.ai9 rfl (by decide) 2 0 rfl rfl rfl rfl (.inr rfl) hl3_ (by decide) fun E7 A23 c18 a w hf H => ?_)
          refine pz 1 hf fun a hf => ?_
          refine sB 1 hf H TF.sz24 fun w H => ?_
          refine wl_end (blk_n (then_n (sqz (pz 1 hf fun a hf => ?_))))
          refine lB 1 hf H TF.ls25 fun a hf => ?_
          refine pz 1 hf fun a hf => ?_
          refine lN 0 hf H TF.la79 fun a hf => ?_
          obtain ⟨e11, he11, hF⟩ := bs_ hF
          refine wl0 rfl (op_iaddrR hf H Try.underlying25 TF.sz79 1 rfl rfl rfl he11 (by decide) fun p11 o12 cs19 a hf hA11 hr19 hk9 => ?_)
          obtain rfl := Fiber_cells hr19
          refine wl0 rfl (op_storeR (e' := e) (o := o12) (off := 0) hf H TF.sz79 1 rfl rfl rfl rfl rfl (nle rfl) rfl hA11 he11 (st_full (Fiber_mk (x := e))) fun w H => ?_)
          replace hf : Fr a 104 [(2, (.pointer (some ⟨b2, 0, none⟩))), (3, (.pointer (some ⟨b3, 0, none⟩))), (4, (.int .i64 y2.1)), (5, (.pointer (some ⟨b4, 0, none⟩))), (98, (.pointer (some ⟨b3, 1, none⟩))), (99, (.slice A3 y.1.Fibers.length c4)), (100, (.int .i64 y2.1)), (101, (.agg #[(.int .i64 e.A), (.int .i64 e.B), (.int .i64 e.Length), (.int .i64 e.Risk)])), (102, (.pointer (some ⟨p11, o12 + 0, none⟩)))] := hf.prune [2, 3, 4, 5, 98, 99, 100, 101, 102] rfl
          replace hf : Fr a 104 [(2, (.pointer (some ⟨b2, 0, none⟩))), (3, (.pointer (some ⟨b3, 0, none⟩))), (4, (.int .i64 y2.1)), (5, (.pointer (some ⟨b4, 0, none⟩))), (98, (.pointer (some ⟨b3, 1, none⟩))), (99, (.slice A3 (y.1.Fibers.set (y2.1 : Int).toNat e).length c4)), (100, (.int .i64 y2.1)), (101, (.agg #[(.int .i64 e.A), (.int .i64 e.B), (.int .i64 e.Length), (.int .i64 e.Risk)])), (102, (.pointer (some ⟨p11, o12 + 0, none⟩)))] := by simpa only [List.length_set, Nat.add_zero] using hf
          replace H : Mem ⟨w0, [b0]⟩ S [⟨b4, 79, [(.int .i64 e.A), (.int .i64 e.B), (.int .i64 e.Length), (.int .i64 e.Risk)]⟩, ⟨b3, 27, [(.slice A23 l3.length c18), (.slice A3 (y.1.Fibers.set (y2.1 : Int).toNat e).length c4)]⟩, ⟨b2, 27, [(.slice none 0 0), (.slice none 0 0)]⟩, ⟨b0, 57, [(.slice A y3.2.code.length c2), (.int .i64 y3.2.at_), (.int .u64 y3.2.seed.n)]⟩] [⟨.sh true, 9, A22, 4, ([(⟨#[112]⟩ : ByteArray), (⟨#[113]⟩ : ByteArray), (⟨#[114]⟩ : ByteArray), (⟨#[115]⟩ : ByteArray)] : List ByteArray)⟩, ⟨.sh true, E2, A3, c4, (y.1.Fibers.set (y2.1 : Int).toNat e : List Fiber)⟩, ⟨.sh true, E7, A23, c18, (l3 : List ByteArray)⟩] [] [(false, MP.val [(.slice A y3.2.code.length c2)] (y3.2.code : List By)), (false, MP.val [(.slice A y2.2.code.length c2)] (y2.2.code : List By)), (false, MP.val [(.slice A y.2.code.length c2)] (y.2.code : List By)), (false, MP.val [(.slice A c.code.length c2)] (c.code : List By))] w := by first | (simp only [List.length_set]; exact H) | (simp only [List.length_set] at H ⊢; exact H)
          refine wr (lN 1 hf H TF.la27 fun a hf => ?_)
          refine sB 2 hf H TF.sz27 fun w H => ?_
          refine wer ?_
          have H := H.rowOwn 2 rfl rfl
          obtain ⟨F20, H⟩ := H.freezeOwn 2 rfl
          have H := H.lend 0 rfl
          have H := H.rowOwn 1 rfl rfl
          obtain ⟨F21, H⟩ := H.freezeOwn 1 rfl
          have H := H.lend 0 rfl
          have H := H.frontD 1 rfl
          obtain rfl := oi hF
          refine ret_1 hf rfl (rv_cellN hf H 2 TF.la27 rfl rfl rfl) ?_
          have hN := H.endsB2 3 rfl
          exact ⟨_, rfl, H.chg, _, H.boxAt 3 rfl, (L1CurP_mk (x := y3.2) (eB 3 (H.get 2 rfl))), ⟨fxc hx8, hx8⟩, (F20 ++ F21), ⟨_, Network_ownmk (x := ({ Nodes := l3, Fibers := y.1.Fibers.set (y2.1 : Int).toNat e } : Network)) (H.ownAt 0 rfl) (H.ownAt 1 rfl), rfl⟩, by first | exact hN | simpa using hN⟩
         ·refine wp_skip (blk_n (then_n (sqz (pz 1 hf fun a hf => ?_))))
          refine lB 1 hf H TF.ls25 fun a hf => ?_
          refine pz 1 hf fun a hf => ?_
          refine lN 0 hf H TF.la79 fun a hf => ?_
          obtain ⟨e12, he12, hF⟩ := bs_ hF
          refine wl0 rfl (op_iaddrR hf H Try.underlying25 TF.sz79 0 rfl rfl rfl he12 (by decide) fun p12 o13 cs20 a hf hA12 hr20 hk10 => ?_)
          obtain rfl := Fiber_cells hr20
          refine wl0 rfl (op_storeR (e' := e) (o := o13) (off := 0) hf H TF.sz79 0 rfl rfl rfl rfl rfl (nle rfl) rfl hA12 he12 (st_full (Fiber_mk (x := e))) fun w H => ?_)
          replace hf : Fr a 104 [(2, (.pointer (some ⟨b2, 0, none⟩))), (3, (.pointer (some ⟨b3, 0, none⟩))), (4, (.int .i64 y2.1)), (5, (.pointer (some ⟨b4, 0, none⟩))), (98, (.pointer (some ⟨b3, 1, none⟩))), (99, (.slice A3 y.1.Fibers.length c4)), (100, (.int .i64 y2.1)), (101, (.agg #[(.int .i64 e.A), (.int .i64 e.B), (.int .i64 e.Length), (.int .i64 e.Risk)])), (102, (.pointer (some ⟨p12, o13 + 0, none⟩)))] := hf.prune [2, 3, 4, 5, 98, 99, 100, 101, 102] rfl
          replace hf : Fr a 104 [(2, (.pointer (some ⟨b2, 0, none⟩))), (3, (.pointer (some ⟨b3, 0, none⟩))), (4, (.int .i64 y2.1)), (5, (.pointer (some ⟨b4, 0, none⟩))), (98, (.pointer (some ⟨b3, 1, none⟩))), (99, (.slice A3 (y.1.Fibers.set (y2.1 : Int).toNat e).length c4)), (100, (.int .i64 y2.1)), (101, (.agg #[(.int .i64 e.A), (.int .i64 e.B), (.int .i64 e.Length), (.int .i64 e.Risk)])), (102, (.pointer (some ⟨p12, o13 + 0, none⟩)))] := by simpa only [List.length_set, Nat.add_zero] using hf
          replace H : Mem ⟨w0, [b0]⟩ S [⟨b4, 79, [(.int .i64 e.A), (.int .i64 e.B), (.int .i64 e.Length), (.int .i64 e.Risk)]⟩, ⟨b3, 27, [(.slice A2 y.1.Nodes.length c3), (.slice A3 (y.1.Fibers.set (y2.1 : Int).toNat e).length c4)]⟩, ⟨b2, 27, [(.slice none 0 0), (.slice none 0 0)]⟩, ⟨b0, 57, [(.slice A y3.2.code.length c2), (.int .i64 y3.2.at_), (.int .u64 y3.2.seed.n)]⟩] [⟨.sh true, E2, A3, c4, (y.1.Fibers.set (y2.1 : Int).toNat e : List Fiber)⟩, ⟨.sh true, E, A2, c3, (y.1.Nodes : List ByteArray)⟩] [] [(false, MP.val [(.slice A y3.2.code.length c2)] (y3.2.code : List By)), (false, MP.val [(.slice A y2.2.code.length c2)] (y2.2.code : List By)), (false, MP.val [(.slice A y.2.code.length c2)] (y.2.code : List By)), (false, MP.val [(.slice A c.code.length c2)] (c.code : List By))] w := by first | (simp only [List.length_set]; exact H) | (simp only [List.length_set] at H ⊢; exact H)
          refine wr (lN 1 hf H TF.la27 fun a hf => ?_)
          refine sB 2 hf H TF.sz27 fun w H => ?_
          refine wer ?_
          have H := H.rowOwn 1 rfl rfl
          obtain ⟨F22, H⟩ := H.freezeOwn 1 rfl
          have H := H.lend 0 rfl
          have H := H.rowOwn 0 rfl rfl
          obtain ⟨F23, H⟩ := H.freezeOwn 0 rfl
          have H := H.lend 0 rfl
          have H := H.frontD 1 rfl
          obtain rfl := oi hF
          refine ret_1 hf rfl (rv_cellN hf H 2 TF.la27 rfl rfl rfl) ?_
          have hN := H.endsB2 3 rfl
          exact ⟨_, rfl, H.chg, _, H.boxAt 3 rfl, (L1CurP_mk (x := y3.2) (eB 3 (H.get 2 rfl))), ⟨fxc hx8, hx8⟩, (F22 ++ F23), ⟨_, Network_ownmk (x := ({ Nodes := y.1.Nodes, Fibers := y.1.Fibers.set (y2.1 : Int).toNat e } : Network)) (H.ownAt 0 rfl) (H.ownAt 1 rfl), rfl⟩, by first | exact hN | simpa using hN⟩
theorem spec_l1Cur_reach19_ok {S : Nat → Prop} {b0 : Nat} {cs0 : List Value} {c : L1CurP} {r : Int × L1CurP} (hp0 : w0.heap[b0]? = some (.cells cs0.toArray 57 (0, 0))) (hr0 : GoTy.rep w0 S cs0 c) (hS0 : ¬ S b0) (hF : spec_l1Cur_reach19 fu c = some r) :
    Calls Try.prog 38 [(.pointer (some ⟨b0, 0, none⟩))].toArray w0 fun e w' => ∃ v, e = .returned v ∧ (Chg w0 w' [b0] ∧ ∃ cs', w'.heap[b0]? = some (.cells cs'.toArray 57 (0, 0)) ∧ GoTy.rep w' (St ⟨w0, [b0]⟩ S [⟨b0, 57, cs'⟩] [] [] false) cs' r.2 ∧ (cs'[0]? = cs0[0]? ∧ r.2.code = c.code) ∧ VR w' (St ⟨w0, [b0]⟩ S [⟨b0, 57, cs'⟩] [] [] true) v r.1) := by
 obtain ⟨A, c2, rfl, hl⟩ := L1CurP_cells hr0
 have H := Mem.startB S hp0
 have H := H.pB hS0 hl
 refine en Try.func38 fun a hf => ?_
 rw [spec_l1Cur_reach19] at hF
 refine sqz (pz 1 hf fun a hf => ?_)
 refine wr (pz 1 hf fun a hf => ?_)
 refine wl0 rfl (bl hf H 3 ([500, 700, 800, 1000, 1500, 400, 200, 20000, 0, 20001] : List Int) [(.int .i64 500), (.int .i64 700), (.int .i64 800), (.int .i64 1000), (.int .i64 1500), (.int .i64 400), (.int .i64 200), (.int .i64 20000), (.int .i64 0), (.int .i64 20001)] (elI [500, 700, 800, 1000, 1500, 400, 200, 20000, 0, 20001]) fun A2 a w hf H => ?_)
 refine pz 1 hf fun a hf => ?_
 obtain ⟨y, hy, hF⟩ := bs_ hF
 refine oc hf TF.cl54 (spec_l1Cur_pick_ok (S := NB b0) (H.boxAt 0 rfl) ((L1CurP_mk (x := c) (H.nb 0 rfl (H.get 0 rfl)))) (fun h => h rfl) mk_int hy) fun v w a hp2 hf => ?_
 obtain ⟨hch, cs2, hbx, hr2, ⟨hx, hx2⟩, hs⟩ := hp2
 obtain rfl := VR_int hs
 obtain ⟨A3, c3, rfl, hl2⟩ := L1CurP_cells hr2
 obtain ⟨rfl, rfl⟩ := fx_slice hx rfl rfl
 have H := H.wroteBox 0 rfl hch hbx
 have H := H.pX 0 rfl hx2
 obtain ⟨q, hq, hF⟩ := bs_ hF
 refine oq hf (rq_quo hf rfl rfl hq) fun a hf => ?_
 refine pz 1 hf fun a hf => ?_
 obtain ⟨l, hl_, hF⟩ := bs_ hF
 refine wl0 rfl (op_sliceR hf H Try.underlying31 TF.sz3 0 rfl rfl rfl (.inl rfl) (.inr rfl) rfl hl_ (by decide) fun a hf H => ?_)
 have H := H.freeze 0 rfl
 obtain ⟨y2, hy2, hF⟩ := bs_ hF
 refine oc hf TF.cl57 (spec_l1Cur_among_ok (S := NB b0) (H.boxAt 0 rfl) ((L1CurP_mk (x := y.2) (H.nb 0 rfl (H.get 1 rfl)))) (fun h => h rfl) (mk_list (H.nb 0 rfl (H.get 0 rfl))) hy2) fun v2 w a hp3 hf => ?_
 obtain ⟨hch2, cs3, hbx2, hr3, ⟨hx3, hx4⟩, hs2⟩ := hp3
 obtain rfl := VR_int hs2
 obtain ⟨A4, c4, rfl, hl3⟩ := L1CurP_cells hr3
 obtain ⟨rfl, rfl⟩ := fx_slice hx3 rfl rfl
 have hx5 := hx4.trans hx2
 have H := H.wroteBox 0 rfl hch2 hbx2
 have H := H.pX 1 rfl hx4
 refine pz 1 hf fun a hf => ?_
 refine wer ?_
 obtain rfl := oi hF
 refine rT hf ?_
 exact ⟨_, rfl, H.chg, _, H.boxAt 0 rfl, (L1CurP_mk (x := y2.2) (eB 0 (H.get 0 rfl))), ⟨fxc hx5, hx5⟩, mk_int⟩
theorem spec_DrawRegeneratorsFor_ok {S : Nat → Prop} {v0_ : Value} {code : List By} {r : Network × Route × Int} (h0 : VR w0 S v0_ code) (hF : spec_DrawRegeneratorsFor fu code = some r) :
    Calls Try.prog 12 [v0_].toArray w0 fun e w' => ∃ v, e = .returned v ∧ (Below w0.heap.size w0 w' ∧ ∃ F0 F1, ∃ u0 u1 u2, v = .tuple #[u0, u1, u2] ∧ VO w' F0 u0 r.1 ∧ VO w' F1 u1 r.2.1 ∧ VR w' (St ⟨w0, []⟩ S [] [] [] true) u2 r.2.2 ∧ New w0 w' (F0 ++ F1)) := by
 obtain ⟨A, c, rfl, hl⟩ := VR_list h0
 have H := Mem.start ⟨w0, []⟩ S
 have H := H.pA hl
 refine en Try.func12 fun a hf => ?_
 rw [spec_DrawRegeneratorsFor] at hF
 refine sq (reg (aL hf H TF.zv27 fun b' a w hf H => ?_))
 refine aL hf H TF.zv40 fun b2 a w hf H => ?_
 refine pz 1 hf fun a hf => ?_
 refine wr (pz 1 hf fun a hf => ?_)
 refine oq hf (rq_build hf (cs := [(.slice A code.length c), (.int .i64 0), (.int .u64 0)]) rfl (fun w => by kernel_rfl)) fun a hf => ?_
 refine wl0 rfl (op_box hf H rfl rfl (by decide) fun b3 a w hf H => ?_)
 refine pz 1 hf fun a hf => ?_
 refine wr (pz 1 hf fun a hf => ?_)
 obtain ⟨y, hy, hF⟩ := bs_ hF
 refine oc hf TF.cl36 (spec_l1Cur_anyNetwork_ok (S := NB b3) (H.boxAt 0 rfl) ((L1CurP_mk (x := ({ code := code, at_ := 0, seed := (⟨0⟩ : U64) } : L1CurP)) (H.nb 0 rfl (H.get 0 rfl)))) (fun h => h rfl) hy) fun v w a hp hf => ?_
 obtain ⟨hch, cs, hbx, hr, ⟨hx, hx2⟩, hs⟩ := hp
 obtain ⟨F, hp2, hN⟩ := hs
 obtain ⟨A2, c2, F2, A3, c3, F3, rfl, rfl, hl2, hl3⟩ := Network_vo hp2
 obtain ⟨A4, c4, rfl, hl4⟩ := L1CurP_cells hr
 obtain ⟨rfl, rfl⟩ := fx_slice hx rfl rfl
 have H := H.bO2 0 rfl hch hbx hN hl2 hl3
 have H := H.pX 0 rfl hx2
 have H := H.lend 0 rfl
 have H := H.lend 1 rfl
 refine aL hf H TF.zv27 fun b4 a w hf H => ?_
 refine sB 0 hf H TF.sz27 fun w H => ?_
 refine wl_end (then_n (sq (dw [6, 7] 9 fun w hb => ?_)))
 have H := H.keep hb
 refine strT (H.lt_ [true, false, false, false] [] [false, false] []) (fun w H => trivial) fun hS => ?_
 refine zS 0 [0, 6, 7, 8] rfl rfl rfl rfl hf hS (fun w H => rq_loadBN hf H TF.la27 0 rfl rfl rfl rfl) fun a hf => ?_
 refine zp 1 hf hS fun a hf => ?_
 refine zS 2 [2, 3, 5, 6, 7, 8] rfl rfl rfl rfl hf hS (fun w H => rq_loadBN hf H TF.la27 0 rfl rfl rfl rfl) fun a hf => ?_
 refine zp 4 hf hS fun a hf => ?_
 obtain ⟨y2, hy2, hF⟩ := bs_ hF
 refine nn 3 rfl (oC hf TF.cl37 (spec_l1Cur_anyRoute_ok (S := NB b3) (H.boxAt 1 rfl) ((L1CurP_mk (x := y.2) (H.nb 1 rfl (H.get 2 rfl)))) (fun h => h rfl) (Network_mkv (x := y.1) (H.nb 1 rfl (H.get 1 rfl)) (H.nb 1 rfl (H.get 0 rfl))) hy2) fun v2 w a hp3 hf => ?_)
 obtain ⟨hch2, cs2, hbx2, hr2, ⟨hx3, hx4⟩, hs2⟩ := hp3
 obtain ⟨F4, hp4, hN2⟩ := hs2
 obtain ⟨A5, c5, F5, rfl, rfl, hl5⟩ := Route_vo hp4
 obtain ⟨A6, c6, rfl, hl6⟩ := L1CurP_cells hr2
 obtain ⟨rfl, rfl⟩ := fx_slice hx3 rfl rfl
 have hx5 := hx4.trans hx2
 have H := H.bO1 1 rfl hch2 hbx2 hN2 hl5
 have H := H.pX 2 rfl hx4
 have H := H.lend 0 rfl
 have hS := H.lt_ [true, false, false, false] [] [false, false, false] []
 refine aS hS ?_
 obtain ⟨y3, hy3, hF⟩ := bs_ hF
 refine nn 5 rfl (oC hf TF.cl38 (spec_l1Cur_reach19_ok (S := NB b3) (H.boxAt 1 rfl) ((L1CurP_mk (x := y2.2) (H.nb 1 rfl (H.get 1 rfl)))) (fun h => h rfl) hy3) fun v3 w a hp5 hf => ?_)
 obtain ⟨hch3, cs3, hbx3, hr3, ⟨hx6, hx7⟩, hs3⟩ := hp5
 obtain rfl := VR_int hs3
 obtain ⟨A7, c7, rfl, hl7⟩ := L1CurP_cells hr3
 obtain ⟨rfl, rfl⟩ := fx_slice hx6 rfl rfl
 have hx8 := hx7.trans hx5
 have H := H.wroteBox 1 rfl hch3 hbx3
 have H := H.pX 1 rfl hx7
 have hS := H.lt_ [true, false, false, false] [] [false, false, false] []
 refine aS hS ?_
 refine nn 6 rfl (op_storeB hf H 3 TF.sz27 rfl rfl rfl rfl rfl rfl (nle rfl) fun w H => ?_)
 refine ⟨fun h => absurd h (by decide), ?_⟩
 refine nn 7 rfl (op_storeB hf H 2 TF.sz40 rfl rfl rfl rfl rfl rfl (nle rfl) fun w H => ?_)
 refine ⟨fun h => absurd h (by decide), ?_⟩
 refine tp 8 rfl rfl hf (by kernel_rfl) (fun h => absurd h (by decide)) rfl fun a hf => ?_
 refine dk ?_
 have hf := hf.pn [2, 3, 4]
 refine then_n (wp_ret (?_))
 have H := H.frontD 2 rfl
 have H := H.frontD 2 rfl
 obtain rfl := oi hF
 refine ret_3 hf rfl (rv_cellN hf H 3 TF.la27 rfl rfl rfl) (rv_cellN hf H 2 TF.la40 rfl rfl rfl) (rv_tmp hf rfl) ?_
 have hN := H.ends3
 exact ⟨_, rfl, H.bel, (F2 ++ F3), F5, _, _, _, rfl, ⟨_, Network_ownmk (x := y.1) (H.ownAt 0 rfl) (H.ownAt 1 rfl), rfl⟩, ⟨_, Route_ownmk (x := y2.1) (H.ownAt 2 rfl), rfl⟩, mk_int, by first | exact hN | simpa using hN⟩
theorem impl_RouteNodes_ok {S : Nat → Prop} {v0_ : Value} {v1_ : Value} {n' : Network} {r' : Route} {r : List Int × Bool} (h0 : VR w0 S v0_ n') (h1 : VR w0 S v1_ r') (hF : impl_RouteNodes fu n' r' = some r) :
    Calls Try.prog 45 [v0_, v1_].toArray w0 fun e w' => ∃ v, e = .returned v ∧ (Below w0.heap.size w0 w' ∧ ∃ F0, ∃ u0 u1, v = .tuple #[u0, u1] ∧ VO w' F0 u0 r.1 ∧ VR w' (St ⟨w0, []⟩ S [] [] [] true) u1 r.2 ∧ New w0 w' F0) := by
 obtain ⟨A, c, A2, c2, rfl, hl, hl2⟩ := Network_open h0
 obtain ⟨A3, c3, rfl, hl3⟩ := Route_open h1
 have H := Mem.start ⟨w0, []⟩ S
 have H := H.pA hl
 have H := H.pA hl2
 have H := H.pA hl3
 refine en Try.func45 fun a hf => ?_
 rw [impl_RouteNodes] at hF
 refine bx hf H fun b' a w hf H => ?_
 refine wl0 rfl (op_box hf H rfl rfl (by decide) fun b2 a w hf H => ?_)
 refine pz 2 hf fun a hf => ?_
 refine wl_end (then_n (sq (sq (reg (lN 1 hf H TF.la27 fun a hf => ?_)))))
 obtain ⟨y, hy, hF⟩ := bs_ hF
 refine oc hf TF.cl47 (impl_IsValidNetwork_ok (S := TT) (Network_mkv (x := n') (H.rt 2 rfl) (H.rt 1 rfl)) hy) fun v w a hp hf => ?_
 obtain ⟨hb, hp⟩ := hp
 obtain rfl := VR_bool hp
 have H := H.keep hb
 refine pz 1 hf fun a hf => ?_
 refine wl_end (then_n (ib hF hf (fun hc hF => ?_) fun hc hF => ?_))
 ·refine sqz (pz 2 hf fun a hf => ?_)
  refine wl_end (then_n (wp_ret (then_r (?_))))
  have H := H.ownNil (Int)
  have H := H.lend 0 rfl
  obtain rfl := oi hF
  refine ret_2 hf rfl (rv_tmp hf rfl) (rv_tmp hf rfl) ?_
  have hN := H.ends1
  exact ⟨_, rfl, H.bel, [], _, _, rfl, (mko_list (H.ownAt 0 rfl)), mk_bool, by first | exact hN | simpa using hN⟩
 ·refine wp_skip (then_n (sq (reg (lN 1 hf H TF.la27 fun a hf => ?_))))
  refine lN 0 hf H TF.la40 fun a hf => ?_
  obtain ⟨y2, hy2, hF⟩ := bs_ hF
  refine oc hf TF.cl69 (impl_visited_ok (S := TT) (Network_mkv (x := n') (H.rt 2 rfl) (H.rt 1 rfl)) (Route_mkv (x := r') (H.rt 0 rfl)) hy2) fun v2 w a hp2 hf => ?_
  obtain ⟨hb2, F, v3, v4, rfl, hp3, hp4, hN⟩ := hp2
  obtain ⟨A4, c4, rfl, hl4⟩ := VO_list hp3
  obtain rfl := VR_bool hp4
  have H := H.aO1 hb2 hN hl4
  have H := H.lend 0 rfl
  refine pz 4 hf fun a hf => ?_
  refine wer ?_
  obtain rfl := oi hF
  refine ret_2 hf rfl (rv_tmp hf rfl) (rv_tmp hf rfl) ?_
  have hN := H.ends1
  exact ⟨_, rfl, H.bel, F, _, _, rfl, (mko_list (H.ownAt 0 rfl)), mk_bool, by first | exact hN | simpa using hN⟩
theorem impl_IsValidRoute_ok {S : Nat → Prop} {v0_ : Value} {v1_ : Value} {n' : Network} {r' : Route} {r : Bool} (h0 : VR w0 S v0_ n') (h1 : VR w0 S v1_ r') (hF : impl_IsValidRoute fu n' r' = some r) :
    Calls Try.prog 39 [v0_, v1_].toArray w0 fun e w' => ∃ v, e = .returned v ∧ (Below w0.heap.size w0 w' ∧ VR w' (St ⟨w0, []⟩ S [] [] [] true) v r) := by
 obtain ⟨A, c, A2, c2, rfl, hl, hl2⟩ := Network_open h0
 obtain ⟨A3, c3, rfl, hl3⟩ := Route_open h1
 have H := Mem.start ⟨w0, []⟩ S
 have H := H.pA hl
 have H := H.pA hl2
 have H := H.pA hl3
 refine en Try.func39 fun a hf => ?_
 rw [impl_IsValidRoute] at hF
 refine bx hf H fun b' a w hf H => ?_
 refine wl0 rfl (op_box hf H rfl rfl (by decide) fun b2 a w hf H => ?_)
 refine pz 1 hf fun a hf => ?_
 refine wr (lN 1 hf H TF.la27 fun a hf => ?_)
 refine lN 0 hf H TF.la40 fun a hf => ?_
 obtain ⟨y, hy, hF⟩ := bs_ hF
 refine oc hf TF.cl45 (impl_RouteNodes_ok (S := TT) (Network_mkv (x := n') (H.rt 2 rfl) (H.rt 1 rfl)) (Route_mkv (x := r') (H.rt 0 rfl)) hy) fun v w a hp hf => ?_
 obtain ⟨hb, F, v2, v3, rfl, hp2, hp3, hN⟩ := hp
 obtain ⟨A4, c4, rfl, hl4⟩ := VO_list hp2
 obtain rfl := VR_bool hp3
 have H := H.aO1 hb hN hl4
 have H := H.lend 0 rfl
 refine pz 5 hf fun a hf => ?_
 refine wr (pz 2 hf fun a hf => ?_)
 have hf := hf.pn [4]
 refine wer ?_
 obtain rfl := oi hF
 refine rT hf ?_
 exact ⟨_, rfl, H.bel, mk_bool⟩
theorem impl_regenerators_ok {S : Nat → Prop} {v0_ : Value} {v1_ : Value} {v2_ : Value} {n' : Network} {r' : Route} {reach : Int} {r : List Int × Bool} (h0 : VR w0 S v0_ n') (h1 : VR w0 S v1_ r') (h2 : VR w0 S v2_ reach) (hF : impl_regenerators fu n' r' reach = some r) :
    Calls Try.prog 41 [v0_, v1_, v2_].toArray w0 fun e w' => ∃ v, e = .returned v ∧ (Below w0.heap.size w0 w' ∧ ∃ F0, ∃ u0 u1, v = .tuple #[u0, u1] ∧ VO w' F0 u0 r.1 ∧ VR w' (St ⟨w0, []⟩ S [] [] [] true) u1 r.2 ∧ New w0 w' F0) := by
 obtain ⟨A, c, A2, c2, rfl, hl, hl2⟩ := Network_open h0
 obtain ⟨A3, c3, rfl, hl3⟩ := Route_open h1
 obtain rfl := VR_int h2
 have H := Mem.start ⟨w0, []⟩ S
 have H := H.pA hl
 have H := H.pA hl2
 have H := H.pA hl3
 refine en Try.func41 fun a hf => ?_
 rw [impl_regenerators] at hF
 refine bx hf H fun b' a w hf H => ?_
 refine wl0 rfl (op_box hf H rfl rfl (by decide) fun b2 a w hf H => ?_)
 refine pz 2 hf fun a hf => ?_
 refine wr (lN 1 hf H TF.la27 fun a hf => ?_)
 refine lN 0 hf H TF.la40 fun a hf => ?_
 obtain ⟨y, hy, hF⟩ := bs_ hF
 refine oc hf TF.cl69 (impl_visited_ok (S := TT) (Network_mkv (x := n') (H.rt 2 rfl) (H.rt 1 rfl)) (Route_mkv (x := r') (H.rt 0 rfl)) hy) fun v w a hp hf => ?_
 obtain ⟨hb, F, v2, v3, rfl, hp2, hp3, hN⟩ := hp
 obtain ⟨A4, c4, rfl, hl4⟩ := VO_list hp2
 obtain rfl := VR_bool hp3
 have H := H.aO1 hb hN hl4
 have H := H.lend 0 rfl
 refine pz 5 hf fun a hf => ?_
 refine wr (wl0 rfl (bl hf H 3 ([] : List Int) [] el0 fun A5 a w hf H => ?_))
 refine pz 2 hf fun a hf => ?_
 refine we (sqz (pz 1 hf fun a hf => ?_))
 refine lB 0 hf H TF.ls31 fun a hf => ?_
 refine pz 2 hf fun a hf => ?_
 have hf := hf.pn [2, 3, 8, 10, 11, 23, 24, 25]
 refine wl_end (then_n ?_)
 obtain ⟨out2, hB1, hF⟩ := bs_ hF
 have hf := hf.pn [2, 3, 8, 10, 11, 23, 24, 25]
 have H := H.lt_ [false, true] [true] [true] [0, 1, 2, 3]
 refine loopC (fun (s : List Int × Int × Int) (a : Act) (w : World) => match s with | (out', far, i) => ∃ (A6 : Option Addr) (c5 : Nat) (E : Go.TypeId), Fr a 56 [(2, (.int .i64 reach)), (3, (.pointer (some ⟨b', 0, none⟩))), (8, (.slice A4 y.1.length c4)), (10, (.slice A6 out'.length c5)), (11, (.int .i64 far)), (23, (.slice A3 r'.Fibers.length c3)), (24, (.int .i64 (r'.Fibers.length : Int))), (25, (.int .i64 i))] ∧ Mem ⟨w0, []⟩ S [⟨b', 27, [(.slice A n'.Nodes.length c), (.slice A2 n'.Fibers.length c2)]⟩] [⟨.sh true, E, A6, c5, (out' : List Int)⟩] [⟨F, MP.own F [(.slice A4 y.1.length c4)] (y.1 : List Int)⟩] [(true, MP.val [(.slice A4 y.1.length c4)] (y.1 : List Int)), (false, MP.val [(.slice A3 r'.Fibers.length c3)] (r'.Fibers : List Int)), (false, MP.val [(.slice A2 n'.Fibers.length c2)] (n'.Fibers : List Fiber)), (false, MP.val [(.slice A n'.Nodes.length c)] (n'.Nodes : List ByteArray))] w) (fun k (s : List Int × Int × Int) => impl_regenerators_L1 fu n' r' reach y k s.1 s.2.1 s.2.2 = some out2) (fun s => out2 = Out.next s) (([] : List Int), 0, 0) fu hB1 ⟨A5, 0, 3, hf, H⟩ (fun s h => by cases h) ?_ ?_
 ·rintro fk ⟨out', far, i⟩ a w hR1 hI
  replace hR1 : impl_regenerators_L1 fu n' r' reach y (fk + 1) out' far i = some out2 := hR1
  rw [impl_regenerators_L1] at hR1
  obtain ⟨A6, c5, E, hf, H⟩ := hI
  refine sqz (pz 1 hf fun a hf => ?_)
  refine wl_end (then_n (sq (ib hR1 hf (fun hc hR1 => ?_) fun hc hR1 => ?_)))
  ·refine ws (pz 1 hf fun a hf => ?_)
   obtain ⟨e, he, hR1⟩ := bs_ hR1
   refine wl0 rfl (op_iaddr hf H Try.underlying31 TF.sz3 1 rfl rfl rfl he (by decide) fun p o cs a hf hr H => ?_)
   obtain rfl := hr
   refine oq hf (rq_loadI hf H TF.ls3 0 0 rfl rfl rfl) fun a hf => ?_
   refine pz 2 hf fun a hf => ?_
   refine wr (pz 1 hf fun a hf => ?_)
   refine lB 0 hf H TF.ls25 fun a hf => ?_
   refine pz 1 hf fun a hf => ?_
   obtain ⟨e2, he2, hR1⟩ := bs_ hR1
   refine wl0 rfl (op_iaddr hf H Try.underlying25 TF.sz79 3 rfl rfl rfl he2 (by decide) fun p2 o2 cs2 a hf hr2 H => ?_)
   obtain rfl := Fiber_cells hr2
   refine pz 1 hf fun a hf => ?_
   refine oq hf (rq_loadI hf H TF.ls3 0 2 rfl rfl rfl) fun a hf => ?_
   refine pz 1 hf fun a hf => ?_
   refine we (sqz (pz 3 hf fun a hf => ?_))
   have hf := hf.pn [2, 3, 8, 10, 11, 12, 14, 23, 24, 25, 38]
   refine wl_end (then_n (ib hR1 hf (fun hc2 hR1 => ?_) fun hc2 hR1 => ?_))
   ·refine sqz (pz 2 hf fun a hf => ?_)
    refine wl_end (then_n (wp_ret (then_r (blk_r (then_r (then_r (blk_r (then_r (then_r (?_))))))))))
    have H := H.ownNil (Int)
    have H := H.lend 0 rfl
    obtain rfl := oi hR1
    replace hF := on_ret hF
    obtain rfl := oi hF
    refine ret_2 hf rfl (rv_tmp hf rfl) (rv_tmp hf rfl) ?_
    have hN := H.ends1
    exact ⟨_, rfl, H.bel, [], _, _, rfl, (mko_list (H.ownAt 0 rfl)), mk_bool, by first | exact hN | simpa using hN⟩
   ·refine wp_skip (then_n (sq (sqz (pz 5 hf fun a hf => ?_))))
    refine wl_end (then_n (ib hR1 hf (fun hc3 hR1 => ?_) fun hc3 hR1 => ?_))
    ·refine reg (pz 3 hf fun a hf => ?_)
     obtain ⟨e3, he3, hR1⟩ := bs_ hR1
     refine wl0 rfl (op_iaddr hf H Try.underlying31 TF.sz3 2 rfl rfl rfl he3 (by decide) fun p3 o3 cs3 a hf hr3 H => ?_)
     obtain rfl := hr3
     refine oq hf (rq_loadI hf H TF.ls3 0 0 rfl rfl rfl) fun a hf => ?_
     refine wl0 rfl (bl hf H 3 ([e3] : List Int) [(.int .i64 e3)] (el1 (y := e3) (rfl)) fun A7 a w hf H => ?_)
     obtain ⟨l, hl_, hR1⟩ := bs_ hR1
     refine wl0 rfl (op_appR hf H Try.underlying31 TF.ai3 rfl (by decide) 1 0 rfl rfl rfl rfl (.inr rfl) hl_ (by decide) fun E2 A8 c6 a w hf H => ?_)
     refine pz 2 hf fun a hf => ?_
     have hf := hf.pn [2, 3, 8, 10, 11, 14, 23, 24, 25]
     refine wl_end (then_n (reg (pz 4 hf fun a hf => ?_)))
     refine wl_end (blk_n (then_n (reg (pz 2 hf fun a hf => ?_))))
     refine wl_end ?_
     have hf := hf.pn [2, 3, 8, 10, 11, 23, 24, 25]
     have H := H.lt_ [true] [false, true] [true] [3, 4, 5, 6]
     exact then_n ⟨(l, w64 (0 + e2.Length), w64 (i + 1)), hR1, A8, c6, E2, hf, H⟩
    ·refine wp_skip (then_n (reg (pz 4 hf fun a hf => ?_)))
     refine wl_end (blk_n (then_n (reg (pz 2 hf fun a hf => ?_))))
     refine wl_end ?_
     have hf := hf.pn [2, 3, 8, 10, 11, 23, 24, 25]
     have H := H.lt_ [true] [true] [true] [2, 3, 4, 5]
     exact then_n ⟨(out', w64 (far + e2.Length), w64 (i + 1)), hR1, A6, c5, E, hf, H⟩
  ·refine wp_exit (then_x (then_x (blk_e (?_))))
   have hf := hf.pn [2, 3, 8, 10, 11, 23, 24, 25]
   have H := H.lt_ [true] [true] [true] [0, 1, 2, 3]
   exact ⟨(out', far, i), (Option.some.inj hR1).symm, A6, c5, E, hf, H⟩
 rintro a w ⟨⟨out3, far2, i2⟩, rfl, A9, c7, E3, hf, H⟩
 replace hF := on_next hF
 try dsimp only at hF
 refine then_n (sqz (pz 3 hf fun a hf => ?_))
 refine wer ?_
 have H := H.rowOwn 0 rfl rfl
 obtain ⟨F3, H⟩ := H.freezeOwn 0 rfl
 have H := H.lend 0 rfl
 obtain rfl := oi hF
 refine ret_2 hf rfl (rv_tmp hf rfl) (rv_tmp hf rfl) ?_
 have hN := H.ends1
 exact ⟨_, rfl, H.bel, F3, _, _, rfl, (mko_list (H.ownAt 0 rfl)), mk_bool, by first | exact hN | simpa using hN⟩
theorem impl_RegeneratorsFor_ok {S : Nat → Prop} {v0_ : Value} {v1_ : Value} {v2_ : Value} {n' : Network} {r' : Route} {reach : Int} {r : List Int × Bool} (h0 : VR w0 S v0_ n') (h1 : VR w0 S v1_ r') (h2 : VR w0 S v2_ reach) (hF : impl_RegeneratorsFor fu n' r' reach = some r) :
    Calls Try.prog 13 [v0_, v1_, v2_].toArray w0 fun e w' => ∃ v, e = .returned v ∧ (Below w0.heap.size w0 w' ∧ ∃ F0, ∃ u0 u1, v = .tuple #[u0, u1] ∧ VO w' F0 u0 r.1 ∧ VR w' (St ⟨w0, []⟩ S [] [] [] true) u1 r.2 ∧ New w0 w' F0) := by
 obtain ⟨A, c, A2, c2, rfl, hl, hl2⟩ := Network_open h0
 obtain ⟨A3, c3, rfl, hl3⟩ := Route_open h1
 obtain rfl := VR_int h2
 have H := Mem.start ⟨w0, []⟩ S
 have H := H.pA hl
 have H := H.pA hl2
 have H := H.pA hl3
 refine en Try.func13 fun a hf => ?_
 rw [impl_RegeneratorsFor] at hF
 refine bx hf H fun b' a w hf H => ?_
 refine wl0 rfl (op_box hf H rfl rfl (by decide) fun b2 a w hf H => ?_)
 refine pz 2 hf fun a hf => ?_
 refine wl_end (then_n (sq (sq ?_)))
 obtain ⟨c4, hGc4, hF⟩ := bs_ hF
 have fh := hf.prune [2, 3, 4] rfl
 have Hm := H.lt_ [true, true] [] [] [0, 1, 2]
 refine midF 16 (.bool c4) fh Hm ?_ fun a w hf H => ?_
 ·refine reg (lN 1 hf H TF.la27 fun a hf => ?_)
  refine lN 0 hf H TF.la40 fun a hf => ?_
  obtain ⟨y, hy, hGc4⟩ := bs_ hGc4
  refine oc hf TF.cl39 (impl_IsValidRoute_ok (S := TT) (Network_mkv (x := n') (H.rt 2 rfl) (H.rt 1 rfl)) (Route_mkv (x := r') (H.rt 0 rfl)) hy) fun v w a hp hf => ?_
  obtain ⟨hb, hp⟩ := hp
  obtain rfl := VR_bool hp
  have H := H.keep hb
  refine pz 2 hf fun a hf => ?_
  refine iteB hGc4 (fun hc hGc4 => ?_) fun hc hGc4 => ?_
  ·have hf := hf.lit 12 rfl hc
   refine pz 4 hf fun a hf => ?_
   obtain rfl := oi hGc4
   have hf := hf.pn [16, 2, 3, 4]
   have H := H.lt_ [true, true] [] [] [0, 1, 2]
   exact wl_end ⟨hf, H⟩
  ·have hf := hf.lit 12 rfl hc
   refine pz 1 hf fun a hf => ?_
   obtain ⟨y2, hy2, hGc4⟩ := bs_ hGc4
   refine wlg hf rfl rfl rfl (oC hf TF.cl40 (impl_within_ok (S := TT) mk_int mk_int mk_int hy2) fun v2 w a hp2 hf => ?_)
   obtain ⟨hb2, hp2⟩ := hp2
   obtain rfl := VR_bool hp2
   have H := H.keep hb2
   refine pz 2 hf fun a hf => ?_
   obtain rfl := oi hGc4
   have hf := hf.pn [16, 2, 3, 4]
   have H := H.lt_ [true, true] [] [] [0, 1, 2]
   exact wl_end ⟨hf, H⟩
 refine then_n (ib hF hf (fun hc2 hF => ?_) fun hc2 hF => ?_)
 ·refine sqz (pz 2 hf fun a hf => ?_)
  refine wl_end (then_n (wp_ret (then_r (?_))))
  have H := H.ownNil (Int)
  have H := H.lend 0 rfl
  obtain rfl := oi hF
  refine ret_2 hf rfl (rv_tmp hf rfl) (rv_tmp hf rfl) ?_
  have hN := H.ends1
  exact ⟨_, rfl, H.bel, [], _, _, rfl, (mko_list (H.ownAt 0 rfl)), mk_bool, by first | exact hN | simpa using hN⟩
 ·refine wp_skip (then_n (sq (reg (lN 1 hf H TF.la27 fun a hf => ?_))))
  refine lN 0 hf H TF.la40 fun a hf => ?_
  refine pz 1 hf fun a hf => ?_
  obtain ⟨y3, hy3, hF⟩ := bs_ hF
  refine oc hf TF.cl41 (impl_regenerators_ok (S := TT) (Network_mkv (x := n') (H.rt 2 rfl) (H.rt 1 rfl)) (Route_mkv (x := r') (H.rt 0 rfl)) mk_int hy3) fun v3 w a hp3 hf => ?_
  obtain ⟨hb3, F, v4, v5, rfl, hp4, hp5, hN⟩ := hp3
  obtain ⟨A4, c5, rfl, hl4⟩ := VO_list hp4
  obtain rfl := VR_bool hp5
  have H := H.aO1 hb3 hN hl4
  have H := H.lend 0 rfl
  refine pz 4 hf fun a hf => ?_
  refine wer ?_
  obtain rfl := oi hF
  refine ret_2 hf rfl (rv_tmp hf rfl) (rv_tmp hf rfl) ?_
  have hN := H.ends1
  exact ⟨_, rfl, H.bel, F, _, _, rfl, (mko_list (H.ownAt 0 rfl)), mk_bool, by first | exact hN | simpa using hN⟩
theorem spec_l1In_ok {S : Nat → Prop} {v0_ : Value} {v1_ : Value} {v2_ : Value} {x1 : Int} {a' : Int} {b' : Int} {r : Bool} (h0 : VR w0 S v0_ x1) (h1 : VR w0 S v1_ a') (h2 : VR w0 S v2_ b') (hF : spec_l1In fu x1 a' b' = some r) :
    Calls Try.prog 43 [v0_, v1_, v2_].toArray w0 fun e w' => ∃ v, e = .returned v ∧ (Below w0.heap.size w0 w' ∧ VR w' (St ⟨w0, []⟩ S [] [] [] true) v r) := by
 obtain rfl := VR_int h0
 obtain rfl := VR_int h1
 obtain rfl := VR_int h2
 have H := Mem.start ⟨w0, []⟩ S
 refine en Try.func43 fun a hf => ?_
 rw [spec_l1In] at hF
 refine sqz (pz 1 hf fun a hf => ?_)
 refine wl_end (then_n (sq ?_))
 obtain ⟨c, hGc, hF⟩ := bs_ hF
 have fh := hf.prune [] rfl
 have Hm := H.lt_ [] [] [] []
 refine midF 6 (.bool c) fh Hm ?_ fun a w hf H => ?_
 ·refine reg (pz 4 hf fun a hf => ?_)
  refine iteB hGc (fun hc hGc => ?_) fun hc hGc => ?_
  ·have hf := hf.lit 10 rfl hc
   refine pz 5 hf fun a hf => ?_
   obtain rfl := oi hGc
   have hf := hf.pn [6]
   have H := H.lt_ [] [] [] []
   exact wl_end ⟨hf, H⟩
  ·have hf := hf.lit 10 rfl hc
   refine pz 5 hf fun a hf => ?_
   obtain rfl := oi hGc
   have hf := hf.pn [6]
   have H := H.lt_ [] [] [] []
   exact wl_end ⟨hf, H⟩
 refine then_n (wp_ret (?_))
 obtain rfl := oi hF
 refine rT hf ?_
 exact ⟨_, rfl, H.bel, mk_bool⟩
theorem spec_l2Sign_ok {S : Nat → Prop} {v0_ : Value} {b' : By} {r : Bool} (h0 : VR w0 S v0_ b') (hF : spec_l2Sign fu b' = some r) :
    Calls Try.prog 118 [v0_].toArray w0 fun e w' => ∃ v, e = .returned v ∧ (Below w0.heap.size w0 w' ∧ VR w' (St ⟨w0, []⟩ S [] [] [] true) v r) := by
 obtain rfl := VR_by h0
 have H := Mem.start ⟨w0, []⟩ S
 refine en Try.func118 fun a hf => ?_
 rw [spec_l2Sign] at hF
 refine sqz (pz 1 hf fun a hf => ?_)
 refine wl_end (then_n (sq ?_))
 obtain ⟨c, hGc, hF⟩ := bs_ hF
 have fh := hf.prune [] rfl
 have Hm := H.lt_ [] [] [] []
 refine midF 2 (.bool c) fh Hm ?_ fun a w hf H => ?_
 ·refine reg (pz 1 hf fun a hf => ?_)
  refine oq hf (rq_geK hf rfl rfl) fun a hf => ?_
  refine pz 1 hf fun a hf => ?_
  refine iteB hGc (fun hc hGc => ?_) fun hc hGc => ?_
  ·have hf := hf.lit 5 rfl hc
   refine pz 1 hf fun a hf => ?_
   refine wlg hf rfl rfl rfl (op_q hf (rq_leK hf rfl rfl) rfl (by decide) fun a hf => ?_)
   refine pz 2 hf fun a hf => ?_
   refine iteB hGc (fun hc2 hGc => ?_) fun hc2 hGc => ?_
   ·have hf := hf.lit 9 rfl hc2
    refine pz 3 hf fun a hf => ?_
    refine wlsu hf rfl rfl rfl rfl (by decide) fun a hf => ?_
    refine wlsu hf rfl rfl rfl rfl (by decide) fun a hf => ?_
    refine pz 3 hf fun a hf => ?_
    obtain rfl := oi hGc
    have hf := hf.pn [2]
    have H := H.lt_ [] [] [] []
    exact wl_end ⟨hf, H⟩
   ·have hf := hf.lit 9 rfl hc2
    refine pz 1 hf fun a hf => ?_
    refine wlg hf rfl rfl rfl (op_q hf (rq_geK hf rfl rfl) rfl (by decide) fun a hf => ?_)
    refine pz 1 hf fun a hf => ?_
    refine iteB hGc (fun hc3 hGc => ?_) fun hc3 hGc => ?_
    ·have hf := hf.lit 12 rfl hc3
     refine pz 1 hf fun a hf => ?_
     refine wlg hf rfl rfl rfl (op_q hf (rq_leK hf rfl rfl) rfl (by decide) fun a hf => ?_)
     refine pz 3 hf fun a hf => ?_
     obtain rfl := oi hGc
     have hf := hf.pn [2]
     have H := H.lt_ [] [] [] []
     exact wl_end ⟨hf, H⟩
    ·have hf := hf.lit 12 rfl hc3
     refine pz 5 hf fun a hf => ?_
     obtain rfl := oi hGc
     have hf := hf.pn [2]
     have H := H.lt_ [] [] [] []
     exact wl_end ⟨hf, H⟩
  ·have hf := hf.lit 5 rfl hc
   refine pz 5 hf fun a hf => ?_
   refine wlg hf rfl rfl rfl (op_q hf (rq_geK hf rfl rfl) rfl (by decide) fun a hf => ?_)
   refine pz 1 hf fun a hf => ?_
   refine iteB hGc (fun hc4 hGc => ?_) fun hc4 hGc => ?_
   ·have hf := hf.lit 12 rfl hc4
    refine pz 1 hf fun a hf => ?_
    refine wlg hf rfl rfl rfl (op_q hf (rq_leK hf rfl rfl) rfl (by decide) fun a hf => ?_)
    refine pz 3 hf fun a hf => ?_
    obtain rfl := oi hGc
    have hf := hf.pn [2]
    have H := H.lt_ [] [] [] []
    exact wl_end ⟨hf, H⟩
   ·have hf := hf.lit 12 rfl hc4
    refine pz 5 hf fun a hf => ?_
    obtain rfl := oi hGc
    have hf := hf.pn [2]
    have H := H.lt_ [] [] [] []
    exact wl_end ⟨hf, H⟩
 refine then_n (wp_ret (?_))
 obtain rfl := oi hF
 refine rT hf ?_
 exact ⟨_, rfl, H.bel, mk_bool⟩
theorem spec_l2Name_ok {S : Nat → Prop} {v0_ : Value} {s' : ByteArray} {r : Bool} (h0 : VR w0 S v0_ s') (hF : spec_l2Name fu s' = some r) :
    Calls Try.prog 85 [v0_].toArray w0 fun e w' => ∃ v, e = .returned v ∧ (Below w0.heap.size w0 w' ∧ VR w' (St ⟨w0, []⟩ S [] [] [] true) v r) := by
 obtain rfl := VR_str h0
 have H := Mem.start ⟨w0, []⟩ S
 refine en Try.func85 fun a hf => ?_
 rw [spec_l2Name] at hF
 refine sqz (pz 1 hf fun a hf => ?_)
 refine wl_end (then_n (sq (sq ?_)))
 obtain ⟨c, hGc, hF⟩ := bs_ hF
 have fh := hf.prune [0] rfl
 have Hm := H.lt_ [] [] [] []
 refine midF 17 (.bool c) fh Hm ?_ fun a w hf H => ?_
 ·refine reg (pz 2 hf fun a hf => ?_)
  obtain ⟨y, hy, hGc⟩ := bs_ hGc
  refine oc hf TF.cl43 (spec_l1In_ok (S := TT) mk_int mk_int mk_int hy) fun v w a hp hf => ?_
  obtain ⟨hb, hp⟩ := hp
  obtain rfl := VR_bool hp
  have H := H.keep hb
  refine pz 2 hf fun a hf => ?_
  refine iteB hGc (fun hc hGc => ?_) fun hc hGc => ?_
  ·have hf := hf.lit 8 rfl hc
   refine pz 9 hf fun a hf => ?_
   obtain rfl := oi hGc
   have hf := hf.pn [17, 0]
   have H := H.lt_ [] [] [] []
   exact wl_end ⟨hf, H⟩
  ·have hf := hf.lit 8 rfl hc
   refine pz 1 hf fun a hf => ?_
   obtain ⟨e, he, hGc⟩ := bs_ hGc
   refine wlg hf rfl rfl rfl (op_q hf (rq_indexS hf Try.underlying9 rfl rfl he) rfl (by decide) fun a hf => ?_)
   refine wlg hf rfl rfl rfl (op_q hf (rq_ltK hf rfl rfl) rfl (by decide) fun a hf => ?_)
   refine pz 2 hf fun a hf => ?_
   refine iteB hGc (fun hc2 hGc => ?_) fun hc2 hGc => ?_
   ·have hf := hf.lit 13 rfl hc2
    refine pz 4 hf fun a hf => ?_
    obtain rfl := oi hGc
    have hf := hf.pn [17, 0]
    have H := H.lt_ [] [] [] []
    exact wl_end ⟨hf, H⟩
   ·have hf := hf.lit 13 rfl hc2
    refine pz 1 hf fun a hf => ?_
    obtain ⟨e2, he2, hGc⟩ := bs_ hGc
    refine wlg hf rfl rfl rfl (op_q hf (rq_indexS hf Try.underlying9 rfl rfl he2) rfl (by decide) fun a hf => ?_)
    refine wlg hf rfl rfl rfl (op_q hf (rq_gtK hf rfl rfl) rfl (by decide) fun a hf => ?_)
    refine pz 1 hf fun a hf => ?_
    obtain rfl := oi hGc
    have hf := hf.pn [17, 0]
    have H := H.lt_ [] [] [] []
    exact wl_end ⟨hf, H⟩
 refine then_n (ib hF hf (fun hc3 hF => ?_) fun hc3 hF => ?_)
 ·refine sqz (pz 1 hf fun a hf => ?_)
  refine wl_end (then_n (wp_ret (then_r (?_))))
  obtain rfl := oi hF
  refine rT hf ?_
  exact ⟨_, rfl, H.bel, mk_bool⟩
 ·refine wp_skip (then_n (sq (sqz (pz 1 hf fun a hf => ?_))))
  refine wl_end (then_n ?_)
  obtain ⟨out', hB1, hF⟩ := bs_ hF
  have hf := hf.pn [0, 3]
  have H := H.lt_ [] [] [] []
  refine loopC (fun (s : Int) (a : Act) (w : World) => match s with | i => Fr a 29 [(0, (.string s')), (3, (.int .i64 i))] ∧ Mem ⟨w0, []⟩ S [] [] [] [] w) (fun k (s : Int) => spec_l2Name_L1 fu s' k s = some out') (fun s => out' = Out.next s) 0 fu hB1 ⟨hf, H⟩ (fun s h => by cases h) ?_ ?_
  ·rintro fk i a w hR1 hI
   replace hR1 : spec_l2Name_L1 fu s' (fk + 1) i = some out' := hR1
   rw [spec_l2Name_L1] at hR1
   obtain ⟨hf, H⟩ := hI
   refine sq (sqz (pz 4 hf fun a hf => ?_))
   refine wl_end (then_n (ib hR1 hf (fun hc4 hR1 => ?_) fun hc4 hR1 => ?_))
   ·refine ws (pz 2 hf fun a hf => ?_)
    obtain ⟨e3, he3, hR1⟩ := bs_ hR1
    refine oq hf (rq_indexS hf Try.underlying9 rfl rfl he3) fun a hf => ?_
    obtain ⟨y2, hy2, hR1⟩ := bs_ hR1
    refine oc hf TF.cl118 (spec_l2Sign_ok (S := TT) mk_by hy2) fun v2 w a hp2 hf => ?_
    obtain ⟨hb2, hp2⟩ := hp2
    obtain rfl := VR_bool hp2
    have H := H.keep hb2
    refine pz 1 hf fun a hf => ?_
    refine wl_end (then_n (ib hR1 hf (fun hc5 hR1 => ?_) fun hc5 hR1 => ?_))
    ·refine sqz (pz 1 hf fun a hf => ?_)
     refine wl_end (then_n (wp_ret (blk_r (then_r (then_r (blk_r (then_r (then_r (?_)))))))))
     obtain rfl := oi hR1
     replace hF := on_ret hF
     obtain rfl := oi hF
     refine rT hf ?_
     exact ⟨_, rfl, H.bel, mk_bool⟩
    ·refine wp_skip (blk_n (then_n (reg (pz 3 hf fun a hf => ?_))))
     refine wl_end ?_
     have hf := hf.pn [0, 3]
     have H := H.lt_ [] [] [] []
     exact then_n ⟨w64 (i + 1), hR1, hf, H⟩
   ·refine wp_exit (then_x (then_x (blk_e (?_))))
    have hf := hf.pn [0, 3]
    have H := H.lt_ [] [] [] []
    exact ⟨i, (Option.some.inj hR1).symm, hf, H⟩
  rintro a w ⟨i2, rfl, hf, H⟩
  replace hF := on_next hF
  refine then_n (sqz (pz 1 hf fun a hf => ?_))
  refine wer ?_
  obtain rfl := oi hF
  refine rT hf ?_
  exact ⟨_, rfl, H.bel, mk_bool⟩
theorem spec_l2Find_ok {S : Nat → Prop} {v0_ : Value} {v1_ : Value} {list : List ByteArray} {name : ByteArray} {r : Int} (h0 : VR w0 S v0_ list) (h1 : VR w0 S v1_ name) (hF : spec_l2Find fu list name = some r) :
    Calls Try.prog 86 [v0_, v1_].toArray w0 fun e w' => ∃ v, e = .returned v ∧ (Below w0.heap.size w0 w' ∧ VR w' (St ⟨w0, []⟩ S [] [] [] true) v r) := by
 obtain ⟨A, c, rfl, hl⟩ := VR_list h0
 obtain rfl := VR_str h1
 have H := Mem.start ⟨w0, []⟩ S
 have H := H.pA hl
 refine en Try.func86 fun a hf => ?_
 rw [spec_l2Find] at hF
 refine sqz (pz 1 hf fun a hf => ?_)
 refine we (sqz (pz 1 hf fun a hf => ?_))
 refine wl_end (then_n ?_)
 obtain ⟨out', hB1, hF⟩ := bs_ hF
 have hf := hf.pn [0, 1, 5]
 have H := H.lt_ [] [] [] [0]
 refine loopC (fun (s : Int) (a : Act) (w : World) => match s with | i => Fr a 19 [(0, (.slice A list.length c)), (1, (.string name)), (5, (.int .i64 i))] ∧ Mem ⟨w0, []⟩ S [] [] [] [(false, MP.val [(.slice A list.length c)] (list : List ByteArray))] w) (fun k (s : Int) => spec_l2Find_L1 fu list name k s = some out') (fun s => out' = Out.next s) 0 fu hB1 ⟨hf, H⟩ (fun s h => by cases h) ?_ ?_
 ·rintro fk i a w hR1 hI
  replace hR1 : spec_l2Find_L1 fu list name (fk + 1) i = some out' := hR1
  rw [spec_l2Find_L1] at hR1
  obtain ⟨hf, H⟩ := hI
  refine sq (sqz (pz 4 hf fun a hf => ?_))
  refine wl_end (then_n (ib hR1 hf (fun hc hR1 => ?_) fun hc hR1 => ?_))
  ·refine ws (pz 2 hf fun a hf => ?_)
   obtain ⟨e, he, hR1⟩ := bs_ hR1
   refine wl0 rfl (op_iaddr hf H Try.underlying24 TF.sz9 0 rfl rfl rfl he (by decide) fun p o cs a hf hr H => ?_)
   obtain rfl := hr
   refine oq hf (rq_loadI hf H TF.ls9 0 0 rfl rfl rfl) fun a hf => ?_
   refine pz 2 hf fun a hf => ?_
   refine wl_end (then_n (ib hR1 hf (fun hc2 hR1 => ?_) fun hc2 hR1 => ?_))
   ·refine sqz (pz 2 hf fun a hf => ?_)
    have hf := hf.pn [4]
    refine wl_end (then_n (wp_ret (blk_r (then_r (then_r (blk_r (then_r (then_r (?_)))))))))
    obtain rfl := oi hR1
    replace hF := on_ret hF
    obtain rfl := oi hF
    refine rT hf ?_
    exact ⟨_, rfl, H.bel, mk_int⟩
   ·refine wp_skip (blk_n (then_n (reg (pz 3 hf fun a hf => ?_))))
    refine wl_end ?_
    have hf := hf.pn [0, 1, 5]
    have H := H.lt_ [] [] [] [1]
    exact then_n ⟨w64 (i + 1), hR1, hf, H⟩
  ·refine wp_exit (then_x (then_x (blk_e (?_))))
   have hf := hf.pn [0, 1, 5]
   have H := H.lt_ [] [] [] [0]
   exact ⟨i, (Option.some.inj hR1).symm, hf, H⟩
 rintro a w ⟨i2, rfl, hf, H⟩
 replace hF := on_next hF
 refine then_n (sqz (pz 1 hf fun a hf => ?_))
 refine wer ?_
 obtain rfl := oi hF
 refine rT hf ?_
 exact ⟨_, rfl, H.bel, mk_int⟩
theorem spec_l2Fiber_ok {S : Nat → Prop} {v0_ : Value} {v1_ : Value} {f : Fiber} {nodes : Int} {r : Bool} (h0 : VR w0 S v0_ f) (h1 : VR w0 S v1_ nodes) (hF : spec_l2Fiber fu f nodes = some r) :
    Calls Try.prog 87 [v0_, v1_].toArray w0 fun e w' => ∃ v, e = .returned v ∧ (Below w0.heap.size w0 w' ∧ VR w' (St ⟨w0, []⟩ S [] [] [] true) v r) := by
 obtain rfl := Fiber_open h0
 obtain rfl := VR_int h1
 have H := Mem.start ⟨w0, []⟩ S
 refine en Try.func87 fun a hf => ?_
 rw [spec_l2Fiber] at hF
 refine bx hf H fun b' a w hf H => ?_
 refine pz 1 hf fun a hf => ?_
 refine wl_end (then_n (sq ?_))
 obtain ⟨c, hGc, hF⟩ := bs_ hF
 have fh := hf.prune [] rfl
 have Hm := H.lt_ [false] [] [] []
 refine midF 4 (.bool c) fh Hm ?_ fun a w hf H => ?_
 ·refine reg (pz 1 hf fun a hf => ?_)
  refine lB 0 hf H TF.ls3 fun a hf => ?_
  refine pz 2 hf fun a hf => ?_
  obtain ⟨y, hy, hGc⟩ := bs_ hGc
  refine oc hf TF.cl43 (spec_l1In_ok (S := TT) mk_int mk_int mk_int hy) fun v w a hp hf => ?_
  obtain ⟨hb, hp⟩ := hp
  obtain rfl := VR_bool hp
  have H := H.keep hb
  refine pz 1 hf fun a hf => ?_
  refine iteB hGc (fun hc hGc => ?_) fun hc hGc => ?_
  ·have hf := hf.lit 10 rfl hc
   refine pz 1 hf fun a hf => ?_
   refine wlg hf rfl rfl rfl (op_q hf (rq_loadB hf H TF.ls3 0 rfl rfl rfl) rfl (by decide) fun a hf => ?_)
   refine pz 1 hf fun a hf => ?_
   refine wlg hf rfl rfl rfl (op_q hf (rq_loadB hf H TF.ls3 0 rfl rfl rfl) rfl (by decide) fun a hf => ?_)
   refine pz 3 hf fun a hf => ?_
   obtain ⟨y2, hy2, hGc⟩ := bs_ hGc
   refine wlg hf rfl rfl rfl (oC hf TF.cl43 (spec_l1In_ok (S := TT) mk_int mk_int mk_int hy2) fun v2 w a hp2 hf => ?_)
   obtain ⟨hb2, hp2⟩ := hp2
   obtain rfl := VR_bool hp2
   have H := H.keep hb2
   refine pz 2 hf fun a hf => ?_
   refine iteB hGc (fun hc2 hGc => ?_) fun hc2 hGc => ?_
   ·have hf := hf.lit 20 rfl hc2
    refine pz 1 hf fun a hf => ?_
    refine wlg hf rfl rfl rfl (op_q hf (rq_loadB hf H TF.ls3 0 rfl rfl rfl) rfl (by decide) fun a hf => ?_)
    obtain ⟨y3, hy3, hGc⟩ := bs_ hGc
    refine wlg hf rfl rfl rfl (oC hf TF.cl43 (spec_l1In_ok (S := TT) mk_int mk_int mk_int hy3) fun v3 w a hp3 hf => ?_)
    obtain ⟨hb3, hp3⟩ := hp3
    obtain rfl := VR_bool hp3
    have H := H.keep hb3
    refine pz 2 hf fun a hf => ?_
    refine iteB hGc (fun hc3 hGc => ?_) fun hc3 hGc => ?_
    ·have hf := hf.lit 25 rfl hc3
     refine pz 1 hf fun a hf => ?_
     refine wlg hf rfl rfl rfl (op_q hf (rq_loadB hf H TF.ls3 0 rfl rfl rfl) rfl (by decide) fun a hf => ?_)
     obtain ⟨y4, hy4, hGc⟩ := bs_ hGc
     refine wlg hf rfl rfl rfl (oC hf TF.cl43 (spec_l1In_ok (S := TT) mk_int mk_int mk_int hy4) fun v4 w a hp4 hf => ?_)
     obtain ⟨hb4, hp4⟩ := hp4
     obtain rfl := VR_bool hp4
     have H := H.keep hb4
     refine pz 2 hf fun a hf => ?_
     obtain rfl := oi hGc
     have hf := hf.pn [4]
     have H := H.lt_ [false] [] [] []
     exact wl_end ⟨hf, H⟩
    ·have hf := hf.lit 25 rfl hc3
     refine pz 5 hf fun a hf => ?_
     obtain rfl := oi hGc
     have hf := hf.pn [4]
     have H := H.lt_ [false] [] [] []
     exact wl_end ⟨hf, H⟩
   ·have hf := hf.lit 20 rfl hc2
    refine pz 10 hf fun a hf => ?_
    obtain rfl := oi hGc
    have hf := hf.pn [4]
    have H := H.lt_ [false] [] [] []
    exact wl_end ⟨hf, H⟩
  ·have hf := hf.lit 10 rfl hc
   refine pz 20 hf fun a hf => ?_
   obtain rfl := oi hGc
   have hf := hf.pn [4]
   have H := H.lt_ [false] [] [] []
   exact wl_end ⟨hf, H⟩
 refine then_n (wp_ret (?_))
 obtain rfl := oi hF
 refine rT hf ?_
 exact ⟨_, rfl, H.bel, mk_bool⟩
theorem spec_l2Good_ok {S : Nat → Prop} {v0_ : Value} {n' : Network} {r : Bool} (h0 : VR w0 S v0_ n') (hF : spec_l2Good fu n' = some r) :
    Calls Try.prog 51 [v0_].toArray w0 fun e w' => ∃ v, e = .returned v ∧ (Below w0.heap.size w0 w' ∧ VR w' (St ⟨w0, []⟩ S [] [] [] true) v r) := by
 obtain ⟨A, c, A2, c2, rfl, hl, hl2⟩ := Network_open h0
 have H := Mem.start ⟨w0, []⟩ S
 have H := H.pA hl
 have H := H.pA hl2
 refine en Try.func51 fun a hf => ?_
 rw [spec_l2Good] at hF
 refine bx hf H fun b' a w hf H => ?_
 refine pz 1 hf fun a hf => ?_
 refine wl_end (then_n (sq (sq ?_)))
 obtain ⟨c3, hGc3, hF⟩ := bs_ hF
 have fh := hf.prune [1] rfl
 have Hm := H.lt_ [true] [] [] [0, 1]
 refine midF 15 (.bool c3) fh Hm ?_ fun a w hf H => ?_
 ·refine reg (pz 1 hf fun a hf => ?_)
  refine lB 0 hf H TF.ls24 fun a hf => ?_
  refine pz 1 hf fun a hf => ?_
  obtain ⟨y, hy, hGc3⟩ := bs_ hGc3
  refine oc hf TF.cl43 (spec_l1In_ok (S := TT) mk_int mk_int mk_int hy) fun v w a hp hf => ?_
  obtain ⟨hb, hp⟩ := hp
  obtain rfl := VR_bool hp
  have H := H.keep hb
  refine pz 2 hf fun a hf => ?_
  refine iteB hGc3 (fun hc hGc3 => ?_) fun hc hGc3 => ?_
  ·have hf := hf.lit 10 rfl hc
   refine pz 5 hf fun a hf => ?_
   obtain rfl := oi hGc3
   have hf := hf.pn [15, 1]
   have H := H.lt_ [true] [] [] [0, 1]
   exact wl_end ⟨hf, H⟩
  ·have hf := hf.lit 10 rfl hc
   refine pz 1 hf fun a hf => ?_
   refine wlg hf rfl rfl rfl (op_q hf (rq_loadB hf H TF.ls25 0 rfl rfl rfl) rfl (by decide) fun a hf => ?_)
   refine pz 3 hf fun a hf => ?_
   obtain rfl := oi hGc3
   have hf := hf.pn [15, 1]
   have H := H.lt_ [true] [] [] [0, 1]
   exact wl_end ⟨hf, H⟩
 refine then_n (ib hF hf (fun hc2 hF => ?_) fun hc2 hF => ?_)
 ·refine sqz (pz 1 hf fun a hf => ?_)
  refine wl_end (then_n (wp_ret (then_r (?_))))
  obtain rfl := oi hF
  refine rT hf ?_
  exact ⟨_, rfl, H.bel, mk_bool⟩
 ·refine wp_skip (then_n (sq (sqz (pz 1 hf fun a hf => ?_))))
  refine wl_end (then_n ?_)
  obtain ⟨out', hB1, hF⟩ := bs_ hF
  have hf := hf.pn [1, 3]
  have H := H.lt_ [true] [] [] [0, 1]
  refine loopC (fun (s : Int) (a : Act) (w : World) => match s with | i => Fr a 78 [(1, (.pointer (some ⟨b', 0, none⟩))), (3, (.int .i64 i))] ∧ Mem ⟨w0, []⟩ S [⟨b', 27, [(.slice A n'.Nodes.length c), (.slice A2 n'.Fibers.length c2)]⟩] [] [] [(false, MP.val [(.slice A2 n'.Fibers.length c2)] (n'.Fibers : List Fiber)), (false, MP.val [(.slice A n'.Nodes.length c)] (n'.Nodes : List ByteArray))] w) (fun k (s : Int) => spec_l2Good_L1 fu n' k s = some out') (fun s => out' = Out.next s) 0 fu hB1 ⟨hf, H⟩ (fun s h => by cases h) ?_ ?_
  ·rintro fk i a w hR1 hI
   replace hR1 : spec_l2Good_L1 fu n' (fk + 1) i = some out' := hR1
   rw [spec_l2Good_L1] at hR1
   obtain ⟨hf, H⟩ := hI
   refine sq (sqz (pz 2 hf fun a hf => ?_))
   refine lB 0 hf H TF.ls24 fun a hf => ?_
   refine pz 2 hf fun a hf => ?_
   refine wl_end (then_n (ib hR1 hf (fun hc3 hR1 => ?_) fun hc3 hR1 => ?_))
   ·refine wp_skip (then_n (sq (wp_block (sq ?_))))
    obtain ⟨c4, hGc4, hR1⟩ := bs_ hR1
    have fh2 := hf.prune [1, 3] rfl
    have Hm2 := H.lt_ [true] [] [] [0, 1]
    refine midF 41 (.bool c4) fh2 Hm2 ?_ fun a w hf H => ?_
    ·refine dw [] 19 fun w hb => ?_
     have H := H.keep hb
     refine zp 0 hf trivial fun a hf => ?_
     refine strT (H.lt_ [true] [] [] []) (fun w H => trivial) fun hS => ?_
     refine zS 1 [] rfl rfl rfl rfl hf hS (fun w H => rq_loadB hf H TF.ls24 0 rfl rfl rfl) fun a hf => ?_
     refine zp 2 hf hS fun a hf => ?_
     obtain ⟨e, he, hGc4⟩ := bs_ hGc4
     obtain ⟨p, o, cs, hx, hr, H⟩ := pre_iaddr H Try.underlying24 TF.sz9 1 rfl he
     refine zP 3 rfl rfl rfl rfl hf hS (fun w => rq_iaddrE hf rfl rfl rfl hx w) fun a hf => ?_
     obtain rfl := hr
     refine strT (H.lt_ [true] [] [] [0]) (fun w H => H.lt_ [true] [] [] []) fun hS => ?_
     refine zS 4 [] rfl rfl rfl rfl hf hS (fun w H => rq_loadI hf H TF.ls9 0 0 rfl rfl rfl) fun a hf => ?_
     obtain ⟨y2, hy2, hGc4⟩ := bs_ hGc4
     refine nn 5 rfl (oC hf TF.cl85 (spec_l2Name_ok (S := TT) mk_str hy2) fun v2 w a hp2 hf => ?_)
     obtain ⟨hb2, hp2⟩ := hp2
     obtain rfl := VR_bool hp2
     have H := H.keep hb2
     have hS := H.lt_ [true] [] [] [0]
     refine aS hS ?_
     refine zp 6 hf hS fun a hf => ?_
     refine zp 7 hf hS fun a hf => ?_
     refine iteB hGc4 (fun hc4 hGc4 => ?_) fun hc4 hGc4 => ?_
     ·have hf := hf.lit 30 rfl hc4
      refine zU 8 hf hS fun a hf => ?_
      refine zU 9 hf hS fun a hf => ?_
      refine zU 10 hf hS fun a hf => ?_
      refine zU 11 hf hS fun a hf => ?_
      refine zU 12 hf hS fun a hf => ?_
      refine zU 13 hf hS fun a hf => ?_
      refine zU 14 hf hS fun a hf => ?_
      refine zU 15 hf hS fun a hf => ?_
      refine zU 16 hf hS fun a hf => ?_
      refine zU 17 hf hS fun a hf => ?_
      refine zp 18 hf hS fun a hf => ?_
      refine dk ?_
      obtain rfl := oi hGc4
      have hf := hf.pn [41, 1, 3]
      have H := H.lt_ [true] [] [] [1, 2]
      exact ⟨hf, H⟩
     ·have hf := hf.lit 30 rfl hc4
      refine zg 8 hf hS fun a hf => ?_
      refine tSg 9 [] rfl rfl rfl rfl rfl rfl hf (by kernel_rfl) (by kernel_rfl) hS (fun w H => rq_loadB hf H TF.ls24 0 rfl rfl rfl) fun a hf => ?_
      refine zg 10 hf hS fun a hf => ?_
      refine tSg 11 [] rfl rfl rfl rfl rfl rfl hf (by kernel_rfl) (by kernel_rfl) hS (fun w H => rq_loadB hf H TF.ls24 0 rfl rfl rfl) fun a hf => ?_
      refine zg 12 hf hS fun a hf => ?_
      obtain ⟨e2, he2, hGc4⟩ := bs_ hGc4
      obtain ⟨p2, o2, cs2, hx2, hr2, H⟩ := pre_iaddr H Try.underlying24 TF.sz9 2 rfl he2
      refine tPg 13 rfl rfl rfl rfl rfl rfl hf (by kernel_rfl) (fun _ => hS) (fun w => rq_iaddrE hf rfl rfl rfl hx2 w) fun a hf => ?_
      obtain rfl := hr2
      refine strT (H.lt_ [true] [] [] [0, 1]) (fun w H => H.lt_ [true] [] [] [1]) fun hS => ?_
      refine tSg 14 [] rfl rfl rfl rfl rfl rfl hf (by kernel_rfl) (by kernel_rfl) hS (fun w H => rq_loadI hf H TF.ls9 0 0 rfl rfl rfl) fun a hf => ?_
      refine zg 16 hf hS fun a hf => ?_
      obtain ⟨y3, hy3, hGc4⟩ := bs_ hGc4
      refine n1g 15 (by kernel_rfl) rfl rfl rfl rfl hf (oC hf TF.cl86 (spec_l2Find_ok (S := TT) (mk_list (H.rt 3 rfl)) mk_str hy3) fun v3 w a hp3 hf => ?_)
      obtain ⟨hb3, hp3⟩ := hp3
      obtain rfl := VR_int hp3
      have H := H.keep hb3
      have hS := H.lt_ [true] [] [] [0, 1]
      refine aS hS ?_
      refine zg 17 hf hS fun a hf => ?_
      refine zp 18 hf hS fun a hf => ?_
      refine dk ?_
      obtain rfl := oi hGc4
      have hf := hf.pn [41, 1, 3]
      have H := H.lt_ [true] [] [] [2, 3]
      exact ⟨hf, H⟩
    refine then_n (ib hR1 hf (fun hc5 hR1 => ?_) fun hc5 hR1 => ?_)
    ·refine sqz (pz 1 hf fun a hf => ?_)
     refine wl_end (then_n (wp_ret (blk_r (then_r (then_r (blk_r (then_r (then_r (?_)))))))))
     obtain rfl := oi hR1
     replace hF := on_ret hF
     obtain rfl := oi hF
     refine rT hf ?_
     exact ⟨_, rfl, H.bel, mk_bool⟩
    ·refine wp_skip (blk_n (then_n (reg (pz 3 hf fun a hf => ?_))))
     refine wl_end ?_
     have hf := hf.pn [1, 3]
     have H := H.lt_ [true] [] [] [0, 1]
     exact then_n ⟨w64 (i + 1), hR1, hf, H⟩
   ·refine wp_exit (then_x (then_x (blk_e (?_))))
    have hf := hf.pn [1, 3]
    have H := H.lt_ [true] [] [] [0, 1]
    exact ⟨i, (Option.some.inj hR1).symm, hf, H⟩
  rintro a w ⟨i2, rfl, hf, H⟩
  replace hF := on_next hF
  refine then_n (sq (sqz (pz 1 hf fun a hf => ?_)))
  refine wl_end (then_n ?_)
  obtain ⟨out2, hB1, hF⟩ := bs_ hF
  have hf := hf.pn [1, 4]
  have H := H.lt_ [true] [] [] [0, 1]
  refine loopC (fun (s : Int) (a : Act) (w : World) => match s with | i3 => Fr a 78 [(1, (.pointer (some ⟨b', 0, none⟩))), (4, (.int .i64 i3))] ∧ Mem ⟨w0, []⟩ S [⟨b', 27, [(.slice A n'.Nodes.length c), (.slice A2 n'.Fibers.length c2)]⟩] [] [] [(false, MP.val [(.slice A2 n'.Fibers.length c2)] (n'.Fibers : List Fiber)), (false, MP.val [(.slice A n'.Nodes.length c)] (n'.Nodes : List ByteArray))] w) (fun k (s : Int) => spec_l2Good_L2 fu n' k s = some out2) (fun s => out2 = Out.next s) 0 fu hB1 ⟨hf, H⟩ (fun s h => by cases h) ?_ ?_
  ·rintro fk i3 a w hR1 hI
   replace hR1 : spec_l2Good_L2 fu n' (fk + 1) i3 = some out2 := hR1
   rw [spec_l2Good_L2] at hR1
   obtain ⟨hf, H⟩ := hI
   refine sq (sqz (pz 2 hf fun a hf => ?_))
   refine lB 0 hf H TF.ls25 fun a hf => ?_
   refine pz 2 hf fun a hf => ?_
   refine wl_end (then_n (ib hR1 hf (fun hc6 hR1 => ?_) fun hc6 hR1 => ?_))
   ·refine wp_skip (then_n (sq (wp_block (sq ?_))))
    obtain ⟨c5, hGc5, hR1⟩ := bs_ hR1
    have fh3 := hf.prune [1, 4] rfl
    have Hm3 := H.lt_ [true] [] [] [0, 1]
    refine midF 77 (.bool c5) fh3 Hm3 ?_ fun a w hf H => ?_
    ·refine dw [] 29 fun w hb => ?_
     have H := H.keep hb
     refine zp 0 hf trivial fun a hf => ?_
     refine strT (H.lt_ [true] [] [] []) (fun w H => trivial) fun hS => ?_
     refine zS 1 [] rfl rfl rfl rfl hf hS (fun w H => rq_loadB hf H TF.ls25 0 rfl rfl rfl) fun a hf => ?_
     refine zp 2 hf hS fun a hf => ?_
     obtain ⟨e3, he3, hGc5⟩ := bs_ hGc5
     obtain ⟨p3, o3, cs3, hx3, hr3, H⟩ := pre_iaddr H Try.underlying25 TF.sz79 0 rfl he3
     refine zP 3 rfl rfl rfl rfl hf hS (fun w => rq_iaddrE hf rfl rfl rfl hx3 w) fun a hf => ?_
     obtain rfl := Fiber_cells hr3
     refine strT (H.lt_ [true] [] [] [0]) (fun w H => H.lt_ [true] [] [] []) fun hS => ?_
     refine zS 4 [] rfl rfl rfl rfl hf hS (fun w H => rq_loadIN hf H TF.la79 0 0 rfl rfl rfl rfl) fun a hf => ?_
     refine zp 5 hf hS fun a hf => ?_
     refine zS 6 [] rfl rfl rfl rfl hf hS (fun w H => rq_loadB hf H TF.ls24 0 rfl rfl rfl) fun a hf => ?_
     refine zp 7 hf hS fun a hf => ?_
     obtain ⟨y4, hy4, hGc5⟩ := bs_ hGc5
     refine nn 8 rfl (oC hf TF.cl87 (spec_l2Fiber_ok (S := TT) Fiber_mkv mk_int hy4) fun v4 w a hp4 hf => ?_)
     obtain ⟨hb4, hp4⟩ := hp4
     obtain rfl := VR_bool hp4
     have H := H.keep hb4
     have hS := H.lt_ [true] [] [] [0]
     refine aS hS ?_
     refine zp 9 hf hS fun a hf => ?_
     refine zp 10 hf hS fun a hf => ?_
     refine iteB hGc5 (fun hc7 hGc5 => ?_) fun hc7 hGc5 => ?_
     ·have hf := hf.lit 59 rfl hc7
      refine zU 11 hf hS fun a hf => ?_
      refine zU 12 hf hS fun a hf => ?_
      refine zU 13 hf hS fun a hf => ?_
      refine zV 14 hf hS fun a hf => ?_
      refine zV 15 hf hS fun a hf => ?_
      refine zV 16 hf hS fun a hf => ?_
      refine zV 17 hf hS fun a hf => ?_
      refine zV 18 hf hS fun a hf => ?_
      refine zV 19 hf hS fun a hf => ?_
      refine zV 20 hf hS fun a hf => ?_
      refine zV 21 hf hS fun a hf => ?_
      refine zV 22 hf hS fun a hf => ?_
      refine zV 23 hf hS fun a hf => ?_
      refine zV 24 hf hS fun a hf => ?_
      refine zV 25 hf hS fun a hf => ?_
      refine zV 26 hf hS fun a hf => ?_
      refine zU 27 hf hS fun a hf => ?_
      refine zp 28 hf hS fun a hf => ?_
      refine dk ?_
      obtain rfl := oi hGc5
      have hf := hf.pn [77, 1, 4]
      have H := H.lt_ [true] [] [] [1, 2]
      exact ⟨hf, H⟩
     ·have hf := hf.lit 59 rfl hc7
      refine zg 11 hf hS fun a hf => ?_
      refine zg 12 hf hS fun a hf => ?_
      refine zg 13 hf hS fun a hf => ?_
      refine iteB hGc5 (fun hc8 hGc5 => ?_) fun hc8 hGc5 => ?_
      ·have hf := hf.lit 62 rfl hc8
       refine zg 14 hf hS fun a hf => ?_
       refine tSg 15 [] rfl rfl rfl rfl rfl rfl hf (by kernel_rfl) (by kernel_rfl) hS (fun w H => rq_loadB hf H TF.ls25 0 rfl rfl rfl) fun a hf => ?_
       refine zg 16 hf hS fun a hf => ?_
       refine zg 17 hf hS fun a hf => ?_
       obtain ⟨e4, he4, hGc5⟩ := bs_ hGc5
       obtain ⟨p4, o4, cs4, hx4, hr4, H⟩ := pre_iaddr H Try.underlying25 TF.sz79 1 rfl he4
       refine tPg 18 rfl rfl rfl rfl rfl rfl hf (by kernel_rfl) (fun _ => hS) (fun w => rq_iaddrE hf rfl rfl rfl hx4 w) fun a hf => ?_
       obtain rfl := Fiber_cells hr4
       refine strT (H.lt_ [true] [] [] [0, 1]) (fun w H => H.lt_ [true] [] [] [1]) fun hS => ?_
       refine tSg 19 [] rfl rfl rfl rfl rfl rfl hf (by kernel_rfl) (by kernel_rfl) hS (fun w H => rq_loadIN hf H TF.la79 0 0 rfl rfl rfl rfl) fun a hf => ?_
       refine zg 20 hf hS fun a hf => ?_
       refine tSg 21 [] rfl rfl rfl rfl rfl rfl hf (by kernel_rfl) (by kernel_rfl) hS (fun w H => rq_loadB hf H TF.ls25 0 rfl rfl rfl) fun a hf => ?_
       refine zg 22 hf hS fun a hf => ?_
       obtain ⟨e5, he5, hGc5⟩ := bs_ hGc5
       obtain ⟨p5, o5, cs5, hx5, hr5, H⟩ := pre_iaddr H Try.underlying25 TF.sz79 2 rfl he5
       refine tPg 23 rfl rfl rfl rfl rfl rfl hf (by kernel_rfl) (fun _ => hS) (fun w => rq_iaddrE hf rfl rfl rfl hx5 w) fun a hf => ?_
       obtain rfl := Fiber_cells hr5
       refine strT (H.lt_ [true] [] [] [0, 1, 2]) (fun w H => H.lt_ [true] [] [] [1, 2]) fun hS => ?_
       refine tSg 24 [] rfl rfl rfl rfl rfl rfl hf (by kernel_rfl) (by kernel_rfl) hS (fun w H => rq_loadIN hf H TF.la79 0 0 rfl rfl rfl rfl) fun a hf => ?_
       obtain ⟨y5, hy5, hGc5⟩ := bs_ hGc5
       refine n1g 25 (by kernel_rfl) rfl rfl rfl rfl hf (oC hf TF.cl88 (spec_l2Before_ok (S := TT) Fiber_mkv Fiber_mkv hy5) fun v5 w a hp5 hf => ?_)
       obtain ⟨hb5, hp5⟩ := hp5
       obtain rfl := VR_int hp5
       have H := H.keep hb5
       have hS := H.lt_ [true] [] [] [0, 1, 2]
       refine aS hS ?_
       refine zg 26 hf hS fun a hf => ?_
       refine zg 27 hf hS fun a hf => ?_
       refine zp 28 hf hS fun a hf => ?_
       refine dk ?_
       obtain rfl := oi hGc5
       have hf := hf.pn [77, 1, 4]
       have H := H.lt_ [true] [] [] [3, 4]
       exact ⟨hf, H⟩
      ·have hf := hf.lit 62 rfl hc8
       refine zU 14 hf hS fun a hf => ?_
       refine zU 15 hf hS fun a hf => ?_
       refine zU 16 hf hS fun a hf => ?_
       refine zU 17 hf hS fun a hf => ?_
       refine zU 18 hf hS fun a hf => ?_
       refine zU 19 hf hS fun a hf => ?_
       refine zU 20 hf hS fun a hf => ?_
       refine zU 21 hf hS fun a hf => ?_
       refine zU 22 hf hS fun a hf => ?_
       refine zU 23 hf hS fun a hf => ?_
       refine zU 24 hf hS fun a hf => ?_
       refine zU 25 hf hS fun a hf => ?_
       refine zU 26 hf hS fun a hf => ?_
       refine zg 27 hf hS fun a hf => ?_
       refine zp 28 hf hS fun a hf => ?_
       refine dk ?_
       obtain rfl := oi hGc5
       have hf := hf.pn [77, 1, 4]
       have H := H.lt_ [true] [] [] [1, 2]
       exact ⟨hf, H⟩
    refine then_n (ib hR1 hf (fun hc9 hR1 => ?_) fun hc9 hR1 => ?_)
    ·refine sqz (pz 1 hf fun a hf => ?_)
     refine wl_end (then_n (wp_ret (blk_r (then_r (then_r (blk_r (then_r (then_r (?_)))))))))
     obtain rfl := oi hR1
     replace hF := on_ret hF
     obtain rfl := oi hF
     refine rT hf ?_
     exact ⟨_, rfl, H.bel, mk_bool⟩
    ·refine wp_skip (blk_n (then_n (reg (pz 3 hf fun a hf => ?_))))
     refine wl_end ?_
     have hf := hf.pn [1, 4]
     have H := H.lt_ [true] [] [] [0, 1]
     exact then_n ⟨w64 (i3 + 1), hR1, hf, H⟩
   ·refine wp_exit (then_x (then_x (blk_e (?_))))
    have hf := hf.pn [1, 4]
    have H := H.lt_ [true] [] [] [0, 1]
    exact ⟨i3, (Option.some.inj hR1).symm, hf, H⟩
  rintro a w ⟨i4, rfl, hf, H⟩
  replace hF := on_next hF
  refine then_n (sqz (pz 1 hf fun a hf => ?_))
  refine wer ?_
  obtain rfl := oi hF
  refine rT hf ?_
  exact ⟨_, rfl, H.bel, mk_bool⟩
end AT
