/- The Go functions do what is told of them, by program (gen.py). -/
import Derived.Test.YtkjhklpdcoicdaaGreatWFnBills4
set_option linter.unusedVariables false
set_option linter.unusedSimpArgs false
set_option maxRecDepth 100000
set_option maxHeartbeats 1000000
namespace AT
open Go Go.RowKit Go.Proofs
variable {fu : Nat} {w0 : World}
theorem laws_FnBills_ok {S : Nat → Prop} {v0_ : Value} {code : List By} {r : Bool} (h0 : VR w0 S v0_ code) (hF : laws_FnBills fu code = some r) :
    Calls Tryz.prog 3 [v0_].toArray w0 fun e w' => ∃ v, e = .returned v ∧ (Below w0.heap.size w0 w' ∧ VR w' (St ⟨w0, []⟩ S [] [] [] true) v r) := by
 obtain ⟨A, c, rfl, hl⟩ := VR_list h0
 have H := Mem.start ⟨w0, []⟩ S
 have H := H.pA hl
 refine en Tryz.func3 fun a hf => ?_
 rw [laws_FnBills] at hF
 refine sqz (pz 1 hf fun a hf => ?_)
 refine wl_end (then_n (sq (sqz (pz 1 hf fun a hf => ?_))))
 obtain ⟨y, hy, hF⟩ := bs_ hF
 refine oc hf TF.cl9 (laws_vBig_ok (S := TT) (mk_list (H.rt 0 rfl)) hy) fun v w a hp hf => ?_
 obtain ⟨hb, hp⟩ := hp
 obtain rfl := VR_bool hp
 have H := H.keep hb
 refine wl_end (then_n (ib hF hf (fun hc hF => ?_) fun hc hF => ?_))
 ·refine sqz (pz 1 hf fun a hf => ?_)
  refine wl_end (then_n (wp_ret (then_r (?_))))
  obtain rfl := oi hF
  refine rT hf ?_
  exact ⟨_, rfl, H.bel, mk_bool⟩
 ·refine wp_skip (then_n (sqz (pz 1 hf fun a hf => ?_)))
  obtain ⟨y2, hy2, hF⟩ := bs_ hF
  refine oc hf TF.cl10 (spec_DrawMergeBills_ok (S := TT) (mk_list (H.rt 0 rfl)) hy2) fun v2 w a hp2 hf => ?_
  obtain ⟨hb2, F, F2, v3, v4, rfl, hp3, hp4, hN⟩ := hp2
  obtain ⟨A2, c2, rfl, hl2⟩ := VO_list hp3
  obtain ⟨A3, c3, rfl, hl3⟩ := VO_list hp4
  have H := H.aO2 hb2 hN hl2 hl3
  have H := H.lend 0 rfl
  have H := H.lend 1 rfl
  refine pz 5 hf fun a hf => ?_
  refine wr (pz 2 hf fun a hf => ?_)
  obtain ⟨y3, hy3, hF⟩ := bs_ hF
  refine oc hf TF.cl11 (impl_MergeBills_ok (S := TT) (mk_list (H.rt 1 rfl)) (mk_list (H.rt 0 rfl)) hy3) fun v5 w a hp5 hf => ?_
  obtain ⟨hb3, F5, v6, v7, rfl, hp6, hp7, hN2⟩ := hp5
  obtain ⟨A4, c4, rfl, hl4⟩ := VO_list hp6
  obtain rfl := VR_bool hp7
  have H := H.aO1 hb3 hN2 hl4
  have H := H.lend 0 rfl
  refine pz 5 hf fun a hf => ?_
  have hf := hf.pn [0, 3, 4, 5, 6]
  refine wl_end (then_n (sq (sqz (pz 2 hf fun a hf => ?_))))
  obtain ⟨y4, hy4, hF⟩ := bs_ hF
  refine oc hf TF.cl12 (spec_MergeBills_ok (S := TT) (mk_list (H.rt 2 rfl)) (mk_list (H.rt 1 rfl)) hy4) fun v8 w a hp8 hf => ?_
  obtain ⟨hb4, v9, v10, rfl, hp9, hp10⟩ := hp8
  obtain ⟨A5, c5, rfl, hl5⟩ := VR_list hp9
  obtain rfl := VR_bool hp10
  obtain ⟨F7, H⟩ := H.addRo hb4 (p := MP.val [(.slice A5 y4.1.length c5)] (y4.1 : List Item)) hl5
  have H := H.lendQ 0 (q := MP.val [(.slice A5 y4.1.length c5)] (y4.1 : List Item)) rfl fun _ _ h => h
  refine pz 5 hf fun a hf => ?_
  refine wl_end (then_n (sq ?_))
  obtain ⟨c6, hGc6, hF⟩ := bs_ hF
  have fh := hf.prune [0, 3, 4, 5, 6] rfl
  have Hm := H.lt_ [] [] [false, true, true, true] [1, 2, 3, 4]
  refine midF 59 (.bool c6) fh Hm ?_ fun a w hf H => ?_
  ·refine reg (pz 4 hf fun a hf => ?_)
   refine iteB hGc6 (fun hc2 hGc6 => ?_) fun hc2 hGc6 => ?_
   ·have hf := hf.lit 53 rfl hc2
    refine pz 6 hf fun a hf => ?_
    obtain rfl := oi hGc6
    have hf := hf.pn [59, 0, 3, 4, 5, 6]
    have H := H.lt_ [] [] [false, true, true, true] [1, 2, 3, 4]
    exact wl_end ⟨hf, H⟩
   ·have hf := hf.lit 53 rfl hc2
    refine pz 6 hf fun a hf => ?_
    obtain rfl := oi hGc6
    have hf := hf.pn [59, 0, 3, 4, 5, 6]
    have H := H.lt_ [] [] [false, true, true, true] [1, 2, 3, 4]
    exact wl_end ⟨hf, H⟩
  refine then_n (ib hF hf (fun hc3 hF => ?_) fun hc3 hF => ?_)
  ·refine sqz (pz 1 hf fun a hf => ?_)
   refine wl_end (then_n (wp_ret (then_r (?_))))
   obtain rfl := oi hF
   refine rT hf ?_
   exact ⟨_, rfl, H.bel, mk_bool⟩
  ·refine wp_skip (then_n (sqz (pz 2 hf fun a hf => ?_)))
   obtain ⟨y5, hy5, hF⟩ := bs_ hF
   refine oc hf TF.cl13 (impl_MissingItems_ok (S := TT) (mk_list (H.rt 2 rfl)) (mk_list (H.rt 1 rfl)) hy5) fun v11 w a hp11 hf => ?_
   obtain ⟨hb5, F8, v12, v13, rfl, hp12, hp13, hN3⟩ := hp11
   obtain ⟨A6, c7, rfl, hl6⟩ := VO_list hp12
   obtain rfl := VR_bool hp13
   have H := H.aO1 hb5 hN3 hl6
   have H := H.lend 0 rfl
   refine pz 5 hf fun a hf => ?_
   refine wl_end (then_n (sq (sqz (pz 2 hf fun a hf => ?_))))
   obtain ⟨y6, hy6, hF⟩ := bs_ hF
   refine oc hf TF.cl14 (spec_MissingItems_ok (S := TT) (mk_list (H.rt 3 rfl)) (mk_list (H.rt 2 rfl)) hy6) fun v14 w a hp14 hf => ?_
   obtain ⟨hb6, F10, v15, v16, rfl, hp15, hp16, hN4⟩ := hp14
   obtain ⟨A7, c8, rfl, hl7⟩ := VO_list hp15
   obtain rfl := VR_bool hp16
   have H := H.aO1 hb6 hN4 hl7
   have H := H.lend 0 rfl
   refine pz 5 hf fun a hf => ?_
   have hf := hf.pn [0, 3, 4, 5, 6, 9, 10, 11, 12]
   refine wl_end (then_n (sq ?_))
   obtain ⟨c9, hGc9, hF⟩ := bs_ hF
   have fh2 := hf.prune [0, 3, 4, 5, 6, 9, 10] rfl
   have Hm2 := H.lt_ [] [] [false, true, true, true, true] [1, 2, 3, 4, 5]
   refine midF 81 (.bool c9) fh2 Hm2 ?_ fun a w hf H => ?_
   ·refine reg (pz 4 hf fun a hf => ?_)
    refine iteB hGc9 (fun hc4 hGc9 => ?_) fun hc4 hGc9 => ?_
    ·have hf := hf.lit 75 rfl hc4
     refine pz 6 hf fun a hf => ?_
     obtain rfl := oi hGc9
     have hf := hf.pn [81, 0, 3, 4, 5, 6, 9, 10]
     have H := H.lt_ [] [] [false, true, true, true, true] [1, 2, 3, 4, 5]
     exact wl_end ⟨hf, H⟩
    ·have hf := hf.lit 75 rfl hc4
     refine pz 6 hf fun a hf => ?_
     obtain rfl := oi hGc9
     have hf := hf.pn [81, 0, 3, 4, 5, 6, 9, 10]
     have H := H.lt_ [] [] [false, true, true, true, true] [1, 2, 3, 4, 5]
     exact wl_end ⟨hf, H⟩
   refine then_n (ib hF hf (fun hc5 hF => ?_) fun hc5 hF => ?_)
   ·refine sqz (pz 1 hf fun a hf => ?_)
    refine wl_end (then_n (wp_ret (then_r (?_))))
    obtain rfl := oi hF
    refine rT hf ?_
    exact ⟨_, rfl, H.bel, mk_bool⟩
   ·refine wp_skip (then_n (sq (reg (wl0 rfl (bl hf H 3 ([1, 7, 100, 3] : List Int) [(.int .i64 1), (.int .i64 7), (.int .i64 100), (.int .i64 3)] (elI [1, 7, 100, 3]) fun A8 a w hf H => ?_)))))
    refine pz 1 hf fun a hf => ?_
    refine wr (pz 2 hf fun a hf => ?_)
    obtain ⟨y7, hy7, hF⟩ := bs_ hF
    refine oc hf TF.cl15 (impl_CostOf_ok (S := TT) (mk_list (H.rt 3 rfl)) (mk_list (H.rowTrue 0 rfl)) hy7) fun v17 w a hp17 hf => ?_
    obtain ⟨hb7, v18, v19, rfl, hp18, hp19⟩ := hp17
    obtain rfl := VR_int hp18
    obtain rfl := VR_bool hp19
    have H := H.keep hb7
    refine pz 5 hf fun a hf => ?_
    refine wr (pz 2 hf fun a hf => ?_)
    obtain ⟨y8, hy8, hF⟩ := bs_ hF
    refine oc hf TF.cl15 (impl_CostOf_ok (S := TT) (mk_list (H.rt 2 rfl)) (mk_list (H.rowTrue 0 rfl)) hy8) fun v20 w a hp20 hf => ?_
    obtain ⟨hb8, v21, v22, rfl, hp21, hp22⟩ := hp20
    obtain rfl := VR_int hp21
    obtain rfl := VR_bool hp22
    have H := H.keep hb8
    refine pz 5 hf fun a hf => ?_
    have hf := hf.pn [0, 5, 6, 9, 10, 13, 14, 15, 16, 17]
    refine wl_end (then_n (sq (sqz (pz 1 hf fun a hf => ?_))))
    refine wl_end (then_n (ib hF hf (fun hc6 hF => ?_) fun hc6 hF => ?_))
    ·refine sqz (pz 2 hf fun a hf => ?_)
     obtain ⟨y9, hy9, hF⟩ := bs_ hF
     refine oc hf TF.cl15 (impl_CostOf_ok (S := TT) (mk_list (H.rt 1 rfl)) (mk_list (H.rowTrue 0 rfl)) hy9) fun v23 w a hp23 hf => ?_
     obtain ⟨hb9, v24, v25, rfl, hp24, hp25⟩ := hp23
     obtain rfl := VR_int hp24
     obtain rfl := VR_bool hp25
     have H := H.keep hb9
     refine pz 5 hf fun a hf => ?_
     refine wl_end (then_n (sq ?_))
     obtain ⟨c10, hGc10, hF⟩ := bs_ hF
     have fh3 := hf.prune [0, 9, 10, 13, 14, 15, 16, 17] rfl
     have Hm3 := H.lt_ [] [true] [true, false, false, false] [0, 4]
     refine midF 118 (.bool c10) fh3 Hm3 ?_ fun a w hf H => ?_
     ·refine reg (pz 3 hf fun a hf => ?_)
      refine iteB hGc10 (fun hc7 hGc10 => ?_) fun hc7 hGc10 => ?_
      ·have hf := hf.lit 104 rfl hc7
       refine pz 14 hf fun a hf => ?_
       obtain rfl := oi hGc10
       have hf := hf.pn [118, 0, 9, 10, 13, 14, 15, 16, 17]
       have H := H.lt_ [] [true] [true, false, false, false] [0, 4]
       exact wl_end ⟨hf, H⟩
      ·have hf := hf.lit 104 rfl hc7
       refine pz 4 hf fun a hf => ?_
       refine iteB hGc10 (fun hc8 hGc10 => ?_) fun hc8 hGc10 => ?_
       ·have hf := hf.lit 108 rfl hc8
        refine pz 10 hf fun a hf => ?_
        obtain rfl := oi hGc10
        have hf := hf.pn [118, 0, 9, 10, 13, 14, 15, 16, 17]
        have H := H.lt_ [] [true] [true, false, false, false] [0, 4]
        exact wl_end ⟨hf, H⟩
       ·have hf := hf.lit 108 rfl hc8
        refine pz 4 hf fun a hf => ?_
        refine iteB hGc10 (fun hc9 hGc10 => ?_) fun hc9 hGc10 => ?_
        ·have hf := hf.lit 112 rfl hc9
         refine pz 6 hf fun a hf => ?_
         obtain rfl := oi hGc10
         have hf := hf.pn [118, 0, 9, 10, 13, 14, 15, 16, 17]
         have H := H.lt_ [] [true] [true, false, false, false] [0, 4]
         exact wl_end ⟨hf, H⟩
        ·have hf := hf.lit 112 rfl hc9
         refine pz 6 hf fun a hf => ?_
         obtain rfl := oi hGc10
         have hf := hf.pn [118, 0, 9, 10, 13, 14, 15, 16, 17]
         have H := H.lt_ [] [true] [true, false, false, false] [0, 4]
         exact wl_end ⟨hf, H⟩
     refine then_n (ib hF hf (fun hc10 hF => ?_) fun hc10 hF => ?_)
     ·refine sqz (pz 1 hf fun a hf => ?_)
      refine wl_end (then_n (wp_ret (then_r (?_))))
      obtain rfl := oi hF
      refine rT hf ?_
      exact ⟨_, rfl, H.bel, mk_bool⟩
     ·refine wp_skip (then_n (sq (sqz (pz 1 hf fun a hf => ?_))))
      refine wl_end (then_n (ib hF hf (fun hc11 hF => ?_) fun hc11 hF => ?_))
      ·refine sqz (pz 2 hf fun a hf => ?_)
       obtain ⟨y10, hy10, hF⟩ := bs_ hF
       refine oc hf TF.cl15 (impl_CostOf_ok (S := TT) (mk_list (H.rt 0 rfl)) (mk_list (H.rowTrue 0 rfl)) hy10) fun v26 w a hp26 hf => ?_
       obtain ⟨hb10, v27, v28, rfl, hp27, hp28⟩ := hp26
       obtain rfl := VR_int hp27
       obtain rfl := VR_bool hp28
       have H := H.keep hb10
       refine pz 5 hf fun a hf => ?_
       refine wl_end (then_n (sq ?_))
       obtain ⟨c11, hGc11, hF⟩ := bs_ hF
       have fh4 := hf.prune [0] rfl
       have Hm4 := H.lt_ [] [false] [false] [1]
       refine midF 147 (.bool c11) fh4 Hm4 ?_ fun a w hf H => ?_
       ·refine reg (pz 3 hf fun a hf => ?_)
        refine iteB hGc11 (fun hc12 hGc11 => ?_) fun hc12 hGc11 => ?_
        ·have hf := hf.lit 128 rfl hc12
         refine pz 19 hf fun a hf => ?_
         obtain rfl := oi hGc11
         have hf := hf.pn [147, 0]
         have H := H.lt_ [] [false] [false] [1]
         exact wl_end ⟨hf, H⟩
        ·have hf := hf.lit 128 rfl hc12
         refine pz 4 hf fun a hf => ?_
         refine iteB hGc11 (fun hc13 hGc11 => ?_) fun hc13 hGc11 => ?_
         ·have hf := hf.lit 132 rfl hc13
          refine pz 15 hf fun a hf => ?_
          obtain rfl := oi hGc11
          have hf := hf.pn [147, 0]
          have H := H.lt_ [] [false] [false] [1]
          exact wl_end ⟨hf, H⟩
         ·have hf := hf.lit 132 rfl hc13
          refine pz 4 hf fun a hf => ?_
          refine iteB hGc11 (fun hc14 hGc11 => ?_) fun hc14 hGc11 => ?_
          ·have hf := hf.lit 136 rfl hc14
           refine pz 11 hf fun a hf => ?_
           obtain rfl := oi hGc11
           have hf := hf.pn [147, 0]
           have H := H.lt_ [] [false] [false] [1]
           exact wl_end ⟨hf, H⟩
          ·have hf := hf.lit 136 rfl hc14
           refine pz 5 hf fun a hf => ?_
           refine iteB hGc11 (fun hc15 hGc11 => ?_) fun hc15 hGc11 => ?_
           ·have hf := hf.lit 141 rfl hc15
            refine pz 6 hf fun a hf => ?_
            obtain rfl := oi hGc11
            have hf := hf.pn [147, 0]
            have H := H.lt_ [] [false] [false] [1]
            exact wl_end ⟨hf, H⟩
           ·have hf := hf.lit 141 rfl hc15
            refine pz 6 hf fun a hf => ?_
            obtain rfl := oi hGc11
            have hf := hf.pn [147, 0]
            have H := H.lt_ [] [false] [false] [1]
            exact wl_end ⟨hf, H⟩
       refine then_n (ib hF hf (fun hc16 hF => ?_) fun hc16 hF => ?_)
       ·refine sqz (pz 1 hf fun a hf => ?_)
        refine wl_end (then_n (wp_ret (then_r (?_))))
        obtain rfl := oi hF
        refine rT hf ?_
        exact ⟨_, rfl, H.bel, mk_bool⟩
       ·refine wp_skip (then_n (sqz (pz 1 hf fun a hf => ?_)))
        obtain ⟨y11, hy11, hF⟩ := bs_ hF
        refine oc hf TF.cl16 (spec_DrawBillOf_ok (S := TT) (mk_list (H.rt 0 rfl)) hy11) fun v29 w a hp29 hf => ?_
        obtain ⟨A9, c12, F12, A10, c13, F13, A11, c14, E, rfl, Hc⟩ := hp29
        have H := H.comp Hc (.inl rfl)
        have H := H.lend 0 rfl
        have H := H.lend 1 rfl
        refine pz 4 hf fun a hf => ?_
        refine aL hf H TF.zv38 fun b' a w hf H => ?_
        refine sB 0 hf H TF.sz38 fun w H => ?_
        refine pz 2 hf fun a hf => ?_
        refine wr (lN 0 hf H TF.la38 fun a hf => ?_)
        refine pz 2 hf fun a hf => ?_
        obtain ⟨y12, hy12, hF⟩ := bs_ hF
        refine oc hf TF.cl17 (impl_BillOf_ok (S := TT) (Plan_mkv (x := y11.1) (H.rt 1 rfl) (H.rt 0 rfl) (H.rowTrue 0 rfl)) mk_int mk_int hy12) fun v30 w a hp30 hf => ?_
        obtain ⟨hb11, F14, v31, v32, rfl, hp31, hp32, hN5⟩ := hp30
        obtain ⟨A12, c15, rfl, hl8⟩ := VO_list hp31
        obtain rfl := VR_bool hp32
        have H := H.aO1 hb11 hN5 hl8
        have H := H.lend 0 rfl
        refine pz 5 hf fun a hf => ?_
        have hf := hf.pn [22, 23, 24, 25, 26]
        refine wr (lN 0 hf H TF.la38 fun a hf => ?_)
        refine pz 2 hf fun a hf => ?_
        obtain ⟨y13, hy13, hF⟩ := bs_ hF
        refine oc hf TF.cl18 (spec_BillOf_ok (S := TT) (Plan_mkv (x := y11.1) (H.rt 2 rfl) (H.rt 1 rfl) (H.rowTrue 0 rfl)) mk_int mk_int hy13) fun v33 w a hp33 hf => ?_
        obtain ⟨hb12, v34, v35, rfl, hp34, hp35⟩ := hp33
        obtain ⟨A13, c16, rfl, hl9⟩ := VR_list hp34
        obtain rfl := VR_bool hp35
        obtain ⟨F16, H⟩ := H.addRo hb12 (p := MP.val [(.slice A13 y13.1.length c16)] (y13.1 : List Item)) hl9
        have H := H.lendQ 0 (q := MP.val [(.slice A13 y13.1.length c16)] (y13.1 : List Item)) rfl fun _ _ h => h
        refine pz 5 hf fun a hf => ?_
        refine wl_end (then_n (sq (sq ?_)))
        obtain ⟨c17, hGc17, hF⟩ := bs_ hF
        have fh5 := hf.prune [22, 25, 26, 27, 28] rfl
        have Hm5 := H.lt_ [true] [true] [true, true, true, true] [0, 1, 2, 3]
        refine midF 181 (.bool c17) fh5 Hm5 ?_ fun a w hf H => ?_
        ·refine reg (pz 4 hf fun a hf => ?_)
         refine iteB hGc17 (fun hc17 hGc17 => ?_) fun hc17 hGc17 => ?_
         ·have hf := hf.lit 171 rfl hc17
          refine pz 10 hf fun a hf => ?_
          obtain rfl := oi hGc17
          have hf := hf.pn [181, 22, 25, 26, 27, 28]
          have H := H.lt_ [true] [true] [true, true, true, true] [0, 1, 2, 3]
          exact wl_end ⟨hf, H⟩
         ·have hf := hf.lit 171 rfl hc17
          refine pz 7 hf fun a hf => ?_
          refine iteB hGc17 (fun hc18 hGc17 => ?_) fun hc18 hGc17 => ?_
          ·have hf := hf.lit 178 rfl hc18
           refine pz 3 hf fun a hf => ?_
           obtain rfl := oi hGc17
           have hf := hf.pn [181, 22, 25, 26, 27, 28]
           have H := H.lt_ [true] [true] [true, true, true, true] [0, 1, 2, 3]
           exact wl_end ⟨hf, H⟩
          ·have hf := hf.lit 178 rfl hc18
           refine pz 3 hf fun a hf => ?_
           obtain rfl := oi hGc17
           have hf := hf.pn [181, 22, 25, 26, 27, 28]
           have H := H.lt_ [true] [true] [true, true, true, true] [0, 1, 2, 3]
           exact wl_end ⟨hf, H⟩
        refine then_n (ib hF hf (fun hc19 hF => ?_) fun hc19 hF => ?_)
        ·refine sq ?_
         obtain ⟨c18, hGc18, hF⟩ := bs_ hF
         have fh6 := hf.prune [] rfl
         have Hm6 := H.lt_ [false] [false] [false, false, false, false] []
         refine midF 2 (.bool c18) fh6 Hm6 ?_ fun a w hf H => ?_
         ·refine reg (pz 4 hf fun a hf => ?_)
          refine iteB hGc18 (fun hc20 hGc18 => ?_) fun hc20 hGc18 => ?_
          ·have hf := hf.lit 185 rfl hc20
           refine pz 7 hf fun a hf => ?_
           obtain rfl := oi hGc18
           have hf := hf.pn [2]
           have H := H.lt_ [false] [false] [false, false, false, false] []
           exact wl_end ⟨hf, H⟩
          ·have hf := hf.lit 185 rfl hc20
           refine pz 7 hf fun a hf => ?_
           obtain rfl := oi hGc18
           have hf := hf.pn [2]
           have H := H.lt_ [false] [false] [false, false, false, false] []
           exact wl_end ⟨hf, H⟩
         refine then_n (wp_ret (then_r (?_)))
         obtain rfl := oi hF
         refine rT hf ?_
         exact ⟨_, rfl, H.bel, mk_bool⟩
        ·refine wp_skip (then_n (sqz (pz 1 hf fun a hf => ?_)))
         refine wl_end (then_n (sq (sqz (pz 1 hf fun a hf => ?_))))
         refine wl_end (then_n ?_)
         obtain ⟨out', hB1, hF⟩ := bs_ hF
         have hf := hf.pn [22, 25, 27, 29, 30]
         have H := H.lt_ [true] [true] [true, true, true, true] [0, 1, 2, 3]
         refine loopC (fun (s : Int × Int) (a : Act) (w : World) => match s with | (ends, i) => Fr a 226 [(22, (.pointer (some ⟨b', 0, none⟩))), (25, (.slice A12 y12.1.length c15)), (27, (.slice A13 y13.1.length c16)), (29, (.int .i64 ends)), (30, (.int .i64 i))] ∧ Mem ⟨w0, []⟩ S [⟨b', 38, [(.slice A9 y11.1.Network.Nodes.length c12), (.slice A10 y11.1.Network.Fibers.length c13), (.slice A11 y11.1.Lights.length c14)]⟩] [⟨.sh true, E, A11, c14, (y11.1.Lights : List Light)⟩] [⟨F16, MP.val [(.slice A13 y13.1.length c16)] (y13.1 : List Item)⟩, ⟨F14, MP.own F14 [(.slice A12 y12.1.length c15)] (y12.1 : List Item)⟩, ⟨F12, MP.own F12 [(.slice A9 y11.1.Network.Nodes.length c12)] (y11.1.Network.Nodes : List ByteArray)⟩, ⟨F13, MP.own F13 [(.slice A10 y11.1.Network.Fibers.length c13)] (y11.1.Network.Fibers : List Fiber)⟩] [(true, MP.val [(.slice A13 y13.1.length c16)] (y13.1 : List Item)), (true, MP.val [(.slice A12 y12.1.length c15)] (y12.1 : List Item)), (true, MP.val [(.slice A10 y11.1.Network.Fibers.length c13)] (y11.1.Network.Fibers : List Fiber)), (true, MP.val [(.slice A9 y11.1.Network.Nodes.length c12)] (y11.1.Network.Nodes : List ByteArray))] w) (fun k (s : Int × Int) => laws_FnBills_L1 fu y12 y13 k s.1 s.2 = some out') (fun s => out' = Out.next s) (0, 0) fu hB1 ⟨hf, H⟩ (fun s h => by cases h) ?_ ?_
         ·rintro fk ⟨ends, i⟩ a w hR1 hI
          replace hR1 : laws_FnBills_L1 fu y12 y13 (fk + 1) ends i = some out' := hR1
          rw [laws_FnBills_L1] at hR1
          obtain ⟨hf, H⟩ := hI
          refine sq (sqz (pz 4 hf fun a hf => ?_))
          refine wl_end (then_n (ib hR1 hf (fun hc21 hR1 => ?_) fun hc21 hR1 => ?_))
          ·refine wp_skip (then_n (sq (wp_block (sq (sq (dw [] 9 fun w hb => ?_))))))
           have H := H.keep hb
           refine zp 0 hf trivial fun a hf => ?_
           refine zp 1 hf trivial fun a hf => ?_
           obtain ⟨e, he, hR1⟩ := bs_ hR1
           obtain ⟨p, o, cs, hx, hr, H⟩ := pre_iaddr H Tryz.underlying24 TF.sz43 1 rfl he
           refine tP 2 rfl rfl rfl rfl hf (by kernel_rfl) (fun _ => trivial) (fun w => rq_iaddrE hf rfl rfl rfl hx w) fun a hf => ?_
           obtain rfl := Item_cells hr
           refine strT (H.lt_ [false] [false] [false, false, false, false] [0]) (fun w H => trivial) fun hS => ?_
           refine zS 3 [] rfl rfl rfl rfl hf hS (fun w H => rq_loadIN hf H TF.la43 0 0 rfl rfl rfl rfl) fun a hf => ?_
           refine zp 4 hf hS fun a hf => ?_
           refine zp 5 hf hS fun a hf => ?_
           obtain ⟨e2, he2, hR1⟩ := bs_ hR1
           obtain ⟨p2, o2, cs2, hx2, hr2, H⟩ := pre_iaddr H Tryz.underlying24 TF.sz43 1 rfl he2
           refine zP 6 rfl rfl rfl rfl hf hS (fun w => rq_iaddrE hf rfl rfl rfl hx2 w) fun a hf => ?_
           obtain rfl := Item_cells hr2
           refine strT (H.lt_ [false] [false] [false, false, false, false] [0, 1]) (fun w H => H.lt_ [] [] [] [1]) fun hS => ?_
           refine zS 7 [] rfl rfl rfl rfl hf hS (fun w H => rq_loadIN hf H TF.la43 0 0 rfl rfl rfl rfl) fun a hf => ?_
           refine zP 8 rfl rfl rfl rfl hf hS (fun w => rq_neT hf TF.qeqt43 ([e.Kind, e.Node, e.Count] : List Int) ([e2.Kind, e2.Node, e2.Count] : List Int) rfl rfl rfl rfl rfl rfl) fun a hf => ?_
           refine dn (by kernel_rfl) ?_
           refine then_n (ib hR1 hf (fun hc22 hR1 => ?_) fun hc22 hR1 => ?_)
           ·refine sqz (pz 1 hf fun a hf => ?_)
            have hf := hf.pn [2]
            refine wl_end (then_n (wp_ret (then_r (blk_r (then_r (then_r (blk_r (then_r (then_r (?_))))))))))
            obtain rfl := oi hR1
            replace hF := on_ret hF
            obtain rfl := oi hF
            refine rT hf ?_
            exact ⟨_, rfl, H.bel, mk_bool⟩
           ·refine wp_skip (then_n (sqz (pz 2 hf fun a hf => ?_)))
            obtain ⟨e3, he3, hR1⟩ := bs_ hR1
            refine wl0 rfl (op_iaddr hf H Tryz.underlying24 TF.sz43 3 rfl rfl rfl he3 (by decide) fun p3 o3 cs3 a hf hr3 H => ?_)
            obtain rfl := Item_cells hr3
            refine pz 1 hf fun a hf => ?_
            refine oq hf (rq_loadI hf H TF.ls3 0 0 rfl rfl rfl) fun a hf => ?_
            refine pz 1 hf fun a hf => ?_
            have hf := hf.pn [22, 25, 27, 29, 30, 212]
            refine wl_end (then_n (ib hR1 hf (fun hc23 hR1 => ?_) fun hc23 hR1 => ?_))
            ·refine reg (pz 3 hf fun a hf => ?_)
             obtain ⟨e4, he4, hR1⟩ := bs_ hR1
             refine wl0 rfl (op_iaddr hf H Tryz.underlying24 TF.sz43 4 rfl rfl rfl he4 (by decide) fun p4 o4 cs4 a hf hr4 H => ?_)
             obtain rfl := Item_cells hr4
             refine pz 1 hf fun a hf => ?_
             refine oq hf (rq_loadI hf H TF.ls3 0 2 rfl rfl rfl) fun a hf => ?_
             refine pz 2 hf fun a hf => ?_
             refine wl_end (blk_n (then_n (reg (pz 3 hf fun a hf => ?_))))
             refine wl_end ?_
             have hf := hf.pn [22, 25, 27, 29, 30]
             have H := H.lt_ [true] [true] [true, true, true, true] [4, 5, 6, 7]
             exact then_n ⟨(w64 (ends + e4.Count), w64 (i + 1)), hR1, hf, H⟩
            ·refine wp_skip (blk_n (then_n (reg (pz 3 hf fun a hf => ?_))))
             refine wl_end ?_
             have hf := hf.pn [22, 25, 27, 29, 30]
             have H := H.lt_ [true] [true] [true, true, true, true] [3, 4, 5, 6]
             exact then_n ⟨(ends, w64 (i + 1)), hR1, hf, H⟩
          ·refine wp_exit (then_x (then_x (blk_e (?_))))
           have hf := hf.pn [22, 25, 27, 29, 30]
           have H := H.lt_ [true] [true] [true, true, true, true] [0, 1, 2, 3]
           exact ⟨(ends, i), (Option.some.inj hR1).symm, hf, H⟩
         rintro a w ⟨⟨ends2, i2⟩, rfl, hf, H⟩
         replace hF := on_next hF
         try dsimp only at hF
         refine then_n (sqz (pz 2 hf fun a hf => ?_))
         refine lB 0 hf H TF.ls36 fun a hf => ?_
         refine pz 4 hf fun a hf => ?_
         refine wer ?_
         obtain rfl := oi hF
         refine rT hf ?_
         exact ⟨_, rfl, H.bel, mk_bool⟩
      ·refine wp_skip (then_n (sqz (pz 1 hf fun a hf => ?_)))
       obtain ⟨y14, hy14, hF⟩ := bs_ hF
       refine oc hf TF.cl16 (spec_DrawBillOf_ok (S := TT) (mk_list (H.rt 1 rfl)) hy14) fun v36 w a hp36 hf => ?_
       obtain ⟨A14, c19, F17, A15, c20, F18, A16, c21, E2, rfl, Hc2⟩ := hp36
       have H := H.comp Hc2 (.inl rfl)
       have H := H.lend 0 rfl
       have H := H.lend 1 rfl
       refine pz 4 hf fun a hf => ?_
       refine aL hf H TF.zv38 fun b2 a w hf H => ?_
       refine sB 0 hf H TF.sz38 fun w H => ?_
       refine pz 2 hf fun a hf => ?_
       have hf := hf.pn [22, 23, 24]
       refine wr (lN 0 hf H TF.la38 fun a hf => ?_)
       refine pz 2 hf fun a hf => ?_
       obtain ⟨y15, hy15, hF⟩ := bs_ hF
       refine oc hf TF.cl17 (impl_BillOf_ok (S := TT) (Plan_mkv (x := y14.1) (H.rt 1 rfl) (H.rt 0 rfl) (H.rowTrue 0 rfl)) mk_int mk_int hy15) fun v37 w a hp37 hf => ?_
       obtain ⟨hb13, F19, v38, v39, rfl, hp38, hp39, hN6⟩ := hp37
       obtain ⟨A17, c22, rfl, hl10⟩ := VO_list hp38
       obtain rfl := VR_bool hp39
       have H := H.aO1 hb13 hN6 hl10
       have H := H.lend 0 rfl
       refine pz 5 hf fun a hf => ?_
       refine wr (lN 0 hf H TF.la38 fun a hf => ?_)
       refine pz 2 hf fun a hf => ?_
       obtain ⟨y16, hy16, hF⟩ := bs_ hF
       refine oc hf TF.cl18 (spec_BillOf_ok (S := TT) (Plan_mkv (x := y14.1) (H.rt 2 rfl) (H.rt 1 rfl) (H.rowTrue 0 rfl)) mk_int mk_int hy16) fun v40 w a hp40 hf => ?_
       obtain ⟨hb14, v41, v42, rfl, hp41, hp42⟩ := hp40
       obtain ⟨A18, c23, rfl, hl11⟩ := VR_list hp41
       obtain rfl := VR_bool hp42
       obtain ⟨F21, H⟩ := H.addRo hb14 (p := MP.val [(.slice A18 y16.1.length c23)] (y16.1 : List Item)) hl11
       have H := H.lendQ 0 (q := MP.val [(.slice A18 y16.1.length c23)] (y16.1 : List Item)) rfl fun _ _ h => h
       refine pz 5 hf fun a hf => ?_
       have hf := hf.pn [22, 25, 26, 27, 28]
       refine wl_end (then_n (sq (sq ?_)))
       obtain ⟨c24, hGc24, hF⟩ := bs_ hF
       have fh7 := hf.prune [22, 25, 26, 27, 28] rfl
       have Hm7 := H.lt_ [true] [true, false] [true, true, true, true, false] [0, 1, 2, 3]
       refine midF 181 (.bool c24) fh7 Hm7 ?_ fun a w hf H => ?_
       ·refine reg (pz 4 hf fun a hf => ?_)
        refine iteB hGc24 (fun hc24 hGc24 => ?_) fun hc24 hGc24 => ?_
        ·have hf := hf.lit 171 rfl hc24
         refine pz 10 hf fun a hf => ?_
         obtain rfl := oi hGc24
         have hf := hf.pn [181, 22, 25, 26, 27, 28]
         have H := H.lt_ [true] [true, false] [true, true, true, true, false] [0, 1, 2, 3]
         exact wl_end ⟨hf, H⟩
        ·have hf := hf.lit 171 rfl hc24
         refine pz 7 hf fun a hf => ?_
         refine iteB hGc24 (fun hc25 hGc24 => ?_) fun hc25 hGc24 => ?_
         ·have hf := hf.lit 178 rfl hc25
          refine pz 3 hf fun a hf => ?_
          obtain rfl := oi hGc24
          have hf := hf.pn [181, 22, 25, 26, 27, 28]
          have H := H.lt_ [true] [true, false] [true, true, true, true, false] [0, 1, 2, 3]
          exact wl_end ⟨hf, H⟩
         ·have hf := hf.lit 178 rfl hc25
          refine pz 3 hf fun a hf => ?_
          obtain rfl := oi hGc24
          have hf := hf.pn [181, 22, 25, 26, 27, 28]
          have H := H.lt_ [true] [true, false] [true, true, true, true, false] [0, 1, 2, 3]
          exact wl_end ⟨hf, H⟩
       refine then_n (ib hF hf (fun hc26 hF => ?_) fun hc26 hF => ?_)
       ·refine sq ?_
        obtain ⟨c25, hGc25, hF⟩ := bs_ hF
        have fh8 := hf.prune [] rfl
        have Hm8 := H.lt_ [false] [false] [false, false, false, false] []
        refine midF 2 (.bool c25) fh8 Hm8 ?_ fun a w hf H => ?_
        ·refine reg (pz 4 hf fun a hf => ?_)
         refine iteB hGc25 (fun hc27 hGc25 => ?_) fun hc27 hGc25 => ?_
         ·have hf := hf.lit 185 rfl hc27
          refine pz 7 hf fun a hf => ?_
          obtain rfl := oi hGc25
          have hf := hf.pn [2]
          have H := H.lt_ [false] [false] [false, false, false, false] []
          exact wl_end ⟨hf, H⟩
         ·have hf := hf.lit 185 rfl hc27
          refine pz 7 hf fun a hf => ?_
          obtain rfl := oi hGc25
          have hf := hf.pn [2]
          have H := H.lt_ [false] [false] [false, false, false, false] []
          exact wl_end ⟨hf, H⟩
        refine then_n (wp_ret (then_r (?_)))
        obtain rfl := oi hF
        refine rT hf ?_
        exact ⟨_, rfl, H.bel, mk_bool⟩
       ·refine wp_skip (then_n (sqz (pz 1 hf fun a hf => ?_)))
        refine wl_end (then_n (sq (sqz (pz 1 hf fun a hf => ?_))))
        refine wl_end (then_n ?_)
        obtain ⟨out2, hB1, hF⟩ := bs_ hF
        have hf := hf.pn [22, 25, 27, 29, 30]
        have H := H.lt_ [true] [true] [true, true, true, true] [0, 1, 2, 3]
        refine loopC (fun (s : Int × Int) (a : Act) (w : World) => match s with | (ends3, i3) => Fr a 226 [(22, (.pointer (some ⟨b2, 0, none⟩))), (25, (.slice A17 y15.1.length c22)), (27, (.slice A18 y16.1.length c23)), (29, (.int .i64 ends3)), (30, (.int .i64 i3))] ∧ Mem ⟨w0, []⟩ S [⟨b2, 38, [(.slice A14 y14.1.Network.Nodes.length c19), (.slice A15 y14.1.Network.Fibers.length c20), (.slice A16 y14.1.Lights.length c21)]⟩] [⟨.sh true, E2, A16, c21, (y14.1.Lights : List Light)⟩] [⟨F21, MP.val [(.slice A18 y16.1.length c23)] (y16.1 : List Item)⟩, ⟨F19, MP.own F19 [(.slice A17 y15.1.length c22)] (y15.1 : List Item)⟩, ⟨F17, MP.own F17 [(.slice A14 y14.1.Network.Nodes.length c19)] (y14.1.Network.Nodes : List ByteArray)⟩, ⟨F18, MP.own F18 [(.slice A15 y14.1.Network.Fibers.length c20)] (y14.1.Network.Fibers : List Fiber)⟩] [(true, MP.val [(.slice A18 y16.1.length c23)] (y16.1 : List Item)), (true, MP.val [(.slice A17 y15.1.length c22)] (y15.1 : List Item)), (true, MP.val [(.slice A15 y14.1.Network.Fibers.length c20)] (y14.1.Network.Fibers : List Fiber)), (true, MP.val [(.slice A14 y14.1.Network.Nodes.length c19)] (y14.1.Network.Nodes : List ByteArray))] w) (fun k (s : Int × Int) => laws_FnBills_L2 fu y15 y16 k s.1 s.2 = some out2) (fun s => out2 = Out.next s) (0, 0) fu hB1 ⟨hf, H⟩ (fun s h => by cases h) ?_ ?_
        ·rintro fk ⟨ends3, i3⟩ a w hR1 hI
         replace hR1 : laws_FnBills_L2 fu y15 y16 (fk + 1) ends3 i3 = some out2 := hR1
         rw [laws_FnBills_L2] at hR1
         obtain ⟨hf, H⟩ := hI
         refine sq (sqz (pz 4 hf fun a hf => ?_))
         refine wl_end (then_n (ib hR1 hf (fun hc28 hR1 => ?_) fun hc28 hR1 => ?_))
         ·refine wp_skip (then_n (sq (wp_block (sq (sq (dw [] 9 fun w hb => ?_))))))
          have H := H.keep hb
          refine zp 0 hf trivial fun a hf => ?_
          refine zp 1 hf trivial fun a hf => ?_
          obtain ⟨e5, he5, hR1⟩ := bs_ hR1
          obtain ⟨p5, o5, cs5, hx3, hr5, H⟩ := pre_iaddr H Tryz.underlying24 TF.sz43 1 rfl he5
          refine tP 2 rfl rfl rfl rfl hf (by kernel_rfl) (fun _ => trivial) (fun w => rq_iaddrE hf rfl rfl rfl hx3 w) fun a hf => ?_
          obtain rfl := Item_cells hr5
          refine strT (H.lt_ [false] [false] [false, false, false, false] [0]) (fun w H => trivial) fun hS => ?_
          refine zS 3 [] rfl rfl rfl rfl hf hS (fun w H => rq_loadIN hf H TF.la43 0 0 rfl rfl rfl rfl) fun a hf => ?_
          refine zp 4 hf hS fun a hf => ?_
          refine zp 5 hf hS fun a hf => ?_
          obtain ⟨e6, he6, hR1⟩ := bs_ hR1
          obtain ⟨p6, o6, cs6, hx4, hr6, H⟩ := pre_iaddr H Tryz.underlying24 TF.sz43 1 rfl he6
          refine zP 6 rfl rfl rfl rfl hf hS (fun w => rq_iaddrE hf rfl rfl rfl hx4 w) fun a hf => ?_
          obtain rfl := Item_cells hr6
          refine strT (H.lt_ [false] [false] [false, false, false, false] [0, 1]) (fun w H => H.lt_ [] [] [] [1]) fun hS => ?_
          refine zS 7 [] rfl rfl rfl rfl hf hS (fun w H => rq_loadIN hf H TF.la43 0 0 rfl rfl rfl rfl) fun a hf => ?_
          refine zP 8 rfl rfl rfl rfl hf hS (fun w => rq_neT hf TF.qeqt43 ([e5.Kind, e5.Node, e5.Count] : List Int) ([e6.Kind, e6.Node, e6.Count] : List Int) rfl rfl rfl rfl rfl rfl) fun a hf => ?_
          refine dn (by kernel_rfl) ?_
          refine then_n (ib hR1 hf (fun hc29 hR1 => ?_) fun hc29 hR1 => ?_)
          ·refine sqz (pz 1 hf fun a hf => ?_)
           have hf := hf.pn [2]
           refine wl_end (then_n (wp_ret (then_r (blk_r (then_r (then_r (blk_r (then_r (then_r (?_))))))))))
           obtain rfl := oi hR1
           replace hF := on_ret hF
           obtain rfl := oi hF
           refine rT hf ?_
           exact ⟨_, rfl, H.bel, mk_bool⟩
          ·refine wp_skip (then_n (sqz (pz 2 hf fun a hf => ?_)))
           obtain ⟨e7, he7, hR1⟩ := bs_ hR1
           refine wl0 rfl (op_iaddr hf H Tryz.underlying24 TF.sz43 3 rfl rfl rfl he7 (by decide) fun p7 o7 cs7 a hf hr7 H => ?_)
           obtain rfl := Item_cells hr7
           refine pz 1 hf fun a hf => ?_
           refine oq hf (rq_loadI hf H TF.ls3 0 0 rfl rfl rfl) fun a hf => ?_
           refine pz 1 hf fun a hf => ?_
           have hf := hf.pn [22, 25, 27, 29, 30, 212]
           refine wl_end (then_n (ib hR1 hf (fun hc30 hR1 => ?_) fun hc30 hR1 => ?_))
           ·refine reg (pz 3 hf fun a hf => ?_)
            obtain ⟨e8, he8, hR1⟩ := bs_ hR1
            refine wl0 rfl (op_iaddr hf H Tryz.underlying24 TF.sz43 4 rfl rfl rfl he8 (by decide) fun p8 o8 cs8 a hf hr8 H => ?_)
            obtain rfl := Item_cells hr8
            refine pz 1 hf fun a hf => ?_
            refine oq hf (rq_loadI hf H TF.ls3 0 2 rfl rfl rfl) fun a hf => ?_
            refine pz 2 hf fun a hf => ?_
            refine wl_end (blk_n (then_n (reg (pz 3 hf fun a hf => ?_))))
            refine wl_end ?_
            have hf := hf.pn [22, 25, 27, 29, 30]
            have H := H.lt_ [true] [true] [true, true, true, true] [4, 5, 6, 7]
            exact then_n ⟨(w64 (ends3 + e8.Count), w64 (i3 + 1)), hR1, hf, H⟩
           ·refine wp_skip (blk_n (then_n (reg (pz 3 hf fun a hf => ?_))))
            refine wl_end ?_
            have hf := hf.pn [22, 25, 27, 29, 30]
            have H := H.lt_ [true] [true] [true, true, true, true] [3, 4, 5, 6]
            exact then_n ⟨(ends3, w64 (i3 + 1)), hR1, hf, H⟩
         ·refine wp_exit (then_x (then_x (blk_e (?_))))
          have hf := hf.pn [22, 25, 27, 29, 30]
          have H := H.lt_ [true] [true] [true, true, true, true] [0, 1, 2, 3]
          exact ⟨(ends3, i3), (Option.some.inj hR1).symm, hf, H⟩
        rintro a w ⟨⟨ends4, i4⟩, rfl, hf, H⟩
        replace hF := on_next hF
        try dsimp only at hF
        refine then_n (sqz (pz 2 hf fun a hf => ?_))
        refine lB 0 hf H TF.ls36 fun a hf => ?_
        refine pz 4 hf fun a hf => ?_
        refine wer ?_
        obtain rfl := oi hF
        refine rT hf ?_
        exact ⟨_, rfl, H.bel, mk_bool⟩
    ·refine wp_skip (then_n (sq (sqz (pz 1 hf fun a hf => ?_))))
     refine wl_end (then_n (ib hF hf (fun hc31 hF => ?_) fun hc31 hF => ?_))
     ·refine sqz (pz 2 hf fun a hf => ?_)
      obtain ⟨y17, hy17, hF⟩ := bs_ hF
      refine oc hf TF.cl15 (impl_CostOf_ok (S := TT) (mk_list (H.rt 0 rfl)) (mk_list (H.rowTrue 0 rfl)) hy17) fun v43 w a hp43 hf => ?_
      obtain ⟨hb15, v44, v45, rfl, hp44, hp45⟩ := hp43
      obtain rfl := VR_int hp44
      obtain rfl := VR_bool hp45
      have H := H.keep hb15
      refine pz 5 hf fun a hf => ?_
      have hf := hf.pn [0, 14, 15, 16, 17, 20, 21]
      refine wl_end (then_n (sq ?_))
      obtain ⟨c26, hGc26, hF⟩ := bs_ hF
      have fh9 := hf.prune [0] rfl
      have Hm9 := H.lt_ [] [false] [false, false, false, false] [4]
      refine midF 147 (.bool c26) fh9 Hm9 ?_ fun a w hf H => ?_
      ·refine reg (pz 3 hf fun a hf => ?_)
       refine iteB hGc26 (fun hc32 hGc26 => ?_) fun hc32 hGc26 => ?_
       ·have hf := hf.lit 128 rfl hc32
        refine pz 19 hf fun a hf => ?_
        obtain rfl := oi hGc26
        have hf := hf.pn [147, 0]
        have H := H.lt_ [] [false] [false, false, false, false] [4]
        exact wl_end ⟨hf, H⟩
       ·have hf := hf.lit 128 rfl hc32
        refine pz 4 hf fun a hf => ?_
        refine iteB hGc26 (fun hc33 hGc26 => ?_) fun hc33 hGc26 => ?_
        ·have hf := hf.lit 132 rfl hc33
         refine pz 15 hf fun a hf => ?_
         obtain rfl := oi hGc26
         have hf := hf.pn [147, 0]
         have H := H.lt_ [] [false] [false, false, false, false] [4]
         exact wl_end ⟨hf, H⟩
        ·have hf := hf.lit 132 rfl hc33
         refine pz 4 hf fun a hf => ?_
         refine iteB hGc26 (fun hc34 hGc26 => ?_) fun hc34 hGc26 => ?_
         ·have hf := hf.lit 136 rfl hc34
          refine pz 11 hf fun a hf => ?_
          obtain rfl := oi hGc26
          have hf := hf.pn [147, 0]
          have H := H.lt_ [] [false] [false, false, false, false] [4]
          exact wl_end ⟨hf, H⟩
         ·have hf := hf.lit 136 rfl hc34
          refine pz 5 hf fun a hf => ?_
          refine iteB hGc26 (fun hc35 hGc26 => ?_) fun hc35 hGc26 => ?_
          ·have hf := hf.lit 141 rfl hc35
           refine pz 6 hf fun a hf => ?_
           obtain rfl := oi hGc26
           have hf := hf.pn [147, 0]
           have H := H.lt_ [] [false] [false, false, false, false] [4]
           exact wl_end ⟨hf, H⟩
          ·have hf := hf.lit 141 rfl hc35
           refine pz 6 hf fun a hf => ?_
           obtain rfl := oi hGc26
           have hf := hf.pn [147, 0]
           have H := H.lt_ [] [false] [false, false, false, false] [4]
           exact wl_end ⟨hf, H⟩
      refine then_n (ib hF hf (fun hc36 hF => ?_) fun hc36 hF => ?_)
      ·refine sqz (pz 1 hf fun a hf => ?_)
       refine wl_end (then_n (wp_ret (then_r (?_))))
       obtain rfl := oi hF
       refine rT hf ?_
       exact ⟨_, rfl, H.bel, mk_bool⟩
      ·refine wp_skip (then_n (sqz (pz 1 hf fun a hf => ?_)))
       obtain ⟨y18, hy18, hF⟩ := bs_ hF
       refine oc hf TF.cl16 (spec_DrawBillOf_ok (S := TT) (mk_list (H.rt 0 rfl)) hy18) fun v46 w a hp46 hf => ?_
       obtain ⟨A19, c27, F22, A20, c28, F23, A21, c29, E3, rfl, Hc3⟩ := hp46
       have H := H.comp Hc3 (.inl rfl)
       have H := H.lend 0 rfl
       have H := H.lend 1 rfl
       refine pz 4 hf fun a hf => ?_
       refine aL hf H TF.zv38 fun b3 a w hf H => ?_
       refine sB 0 hf H TF.sz38 fun w H => ?_
       refine pz 2 hf fun a hf => ?_
       refine wr (lN 0 hf H TF.la38 fun a hf => ?_)
       refine pz 2 hf fun a hf => ?_
       obtain ⟨y19, hy19, hF⟩ := bs_ hF
       refine oc hf TF.cl17 (impl_BillOf_ok (S := TT) (Plan_mkv (x := y18.1) (H.rt 1 rfl) (H.rt 0 rfl) (H.rowTrue 0 rfl)) mk_int mk_int hy19) fun v47 w a hp47 hf => ?_
       obtain ⟨hb16, F24, v48, v49, rfl, hp48, hp49, hN7⟩ := hp47
       obtain ⟨A22, c30, rfl, hl12⟩ := VO_list hp48
       obtain rfl := VR_bool hp49
       have H := H.aO1 hb16 hN7 hl12
       have H := H.lend 0 rfl
       refine pz 5 hf fun a hf => ?_
       have hf := hf.pn [22, 23, 24, 25, 26]
       refine wr (lN 0 hf H TF.la38 fun a hf => ?_)
       refine pz 2 hf fun a hf => ?_
       obtain ⟨y20, hy20, hF⟩ := bs_ hF
       refine oc hf TF.cl18 (spec_BillOf_ok (S := TT) (Plan_mkv (x := y18.1) (H.rt 2 rfl) (H.rt 1 rfl) (H.rowTrue 0 rfl)) mk_int mk_int hy20) fun v50 w a hp50 hf => ?_
       obtain ⟨hb17, v51, v52, rfl, hp51, hp52⟩ := hp50
       obtain ⟨A23, c31, rfl, hl13⟩ := VR_list hp51
       obtain rfl := VR_bool hp52
       obtain ⟨F26, H⟩ := H.addRo hb17 (p := MP.val [(.slice A23 y20.1.length c31)] (y20.1 : List Item)) hl13
       have H := H.lendQ 0 (q := MP.val [(.slice A23 y20.1.length c31)] (y20.1 : List Item)) rfl fun _ _ h => h
       refine pz 5 hf fun a hf => ?_
       refine wl_end (then_n (sq (sq ?_)))
       obtain ⟨c32, hGc32, hF⟩ := bs_ hF
       have fh10 := hf.prune [22, 25, 26, 27, 28] rfl
       have Hm10 := H.lt_ [true] [true] [true, true, true, true] [0, 1, 2, 3]
       refine midF 181 (.bool c32) fh10 Hm10 ?_ fun a w hf H => ?_
       ·refine reg (pz 4 hf fun a hf => ?_)
        refine iteB hGc32 (fun hc37 hGc32 => ?_) fun hc37 hGc32 => ?_
        ·have hf := hf.lit 171 rfl hc37
         refine pz 10 hf fun a hf => ?_
         obtain rfl := oi hGc32
         have hf := hf.pn [181, 22, 25, 26, 27, 28]
         have H := H.lt_ [true] [true] [true, true, true, true] [0, 1, 2, 3]
         exact wl_end ⟨hf, H⟩
        ·have hf := hf.lit 171 rfl hc37
         refine pz 7 hf fun a hf => ?_
         refine iteB hGc32 (fun hc38 hGc32 => ?_) fun hc38 hGc32 => ?_
         ·have hf := hf.lit 178 rfl hc38
          refine pz 3 hf fun a hf => ?_
          obtain rfl := oi hGc32
          have hf := hf.pn [181, 22, 25, 26, 27, 28]
          have H := H.lt_ [true] [true] [true, true, true, true] [0, 1, 2, 3]
          exact wl_end ⟨hf, H⟩
         ·have hf := hf.lit 178 rfl hc38
          refine pz 3 hf fun a hf => ?_
          obtain rfl := oi hGc32
          have hf := hf.pn [181, 22, 25, 26, 27, 28]
          have H := H.lt_ [true] [true] [true, true, true, true] [0, 1, 2, 3]
          exact wl_end ⟨hf, H⟩
       refine then_n (ib hF hf (fun hc39 hF => ?_) fun hc39 hF => ?_)
       ·refine sq ?_
        obtain ⟨c33, hGc33, hF⟩ := bs_ hF
        have fh11 := hf.prune [] rfl
        have Hm11 := H.lt_ [false] [false] [false, false, false, false] []
        refine midF 2 (.bool c33) fh11 Hm11 ?_ fun a w hf H => ?_
        ·refine reg (pz 4 hf fun a hf => ?_)
         refine iteB hGc33 (fun hc40 hGc33 => ?_) fun hc40 hGc33 => ?_
         ·have hf := hf.lit 185 rfl hc40
          refine pz 7 hf fun a hf => ?_
          obtain rfl := oi hGc33
          have hf := hf.pn [2]
          have H := H.lt_ [false] [false] [false, false, false, false] []
          exact wl_end ⟨hf, H⟩
         ·have hf := hf.lit 185 rfl hc40
          refine pz 7 hf fun a hf => ?_
          obtain rfl := oi hGc33
          have hf := hf.pn [2]
          have H := H.lt_ [false] [false] [false, false, false, false] []
          exact wl_end ⟨hf, H⟩
        refine then_n (wp_ret (then_r (?_)))
        obtain rfl := oi hF
        refine rT hf ?_
        exact ⟨_, rfl, H.bel, mk_bool⟩
       ·refine wp_skip (then_n (sqz (pz 1 hf fun a hf => ?_)))
        refine wl_end (then_n (sq (sqz (pz 1 hf fun a hf => ?_))))
        refine wl_end (then_n ?_)
        obtain ⟨out3, hB1, hF⟩ := bs_ hF
        have hf := hf.pn [22, 25, 27, 29, 30]
        have H := H.lt_ [true] [true] [true, true, true, true] [0, 1, 2, 3]
        refine loopC (fun (s : Int × Int) (a : Act) (w : World) => match s with | (ends5, i5) => Fr a 226 [(22, (.pointer (some ⟨b3, 0, none⟩))), (25, (.slice A22 y19.1.length c30)), (27, (.slice A23 y20.1.length c31)), (29, (.int .i64 ends5)), (30, (.int .i64 i5))] ∧ Mem ⟨w0, []⟩ S [⟨b3, 38, [(.slice A19 y18.1.Network.Nodes.length c27), (.slice A20 y18.1.Network.Fibers.length c28), (.slice A21 y18.1.Lights.length c29)]⟩] [⟨.sh true, E3, A21, c29, (y18.1.Lights : List Light)⟩] [⟨F26, MP.val [(.slice A23 y20.1.length c31)] (y20.1 : List Item)⟩, ⟨F24, MP.own F24 [(.slice A22 y19.1.length c30)] (y19.1 : List Item)⟩, ⟨F22, MP.own F22 [(.slice A19 y18.1.Network.Nodes.length c27)] (y18.1.Network.Nodes : List ByteArray)⟩, ⟨F23, MP.own F23 [(.slice A20 y18.1.Network.Fibers.length c28)] (y18.1.Network.Fibers : List Fiber)⟩] [(true, MP.val [(.slice A23 y20.1.length c31)] (y20.1 : List Item)), (true, MP.val [(.slice A22 y19.1.length c30)] (y19.1 : List Item)), (true, MP.val [(.slice A20 y18.1.Network.Fibers.length c28)] (y18.1.Network.Fibers : List Fiber)), (true, MP.val [(.slice A19 y18.1.Network.Nodes.length c27)] (y18.1.Network.Nodes : List ByteArray))] w) (fun k (s : Int × Int) => laws_FnBills_L3 fu y19 y20 k s.1 s.2 = some out3) (fun s => out3 = Out.next s) (0, 0) fu hB1 ⟨hf, H⟩ (fun s h => by cases h) ?_ ?_
        ·rintro fk ⟨ends5, i5⟩ a w hR1 hI
         replace hR1 : laws_FnBills_L3 fu y19 y20 (fk + 1) ends5 i5 = some out3 := hR1
         rw [laws_FnBills_L3] at hR1
         obtain ⟨hf, H⟩ := hI
         refine sq (sqz (pz 4 hf fun a hf => ?_))
         refine wl_end (then_n (ib hR1 hf (fun hc41 hR1 => ?_) fun hc41 hR1 => ?_))
         ·refine wp_skip (then_n (sq (wp_block (sq (sq (dw [] 9 fun w hb => ?_))))))
          have H := H.keep hb
          refine zp 0 hf trivial fun a hf => ?_
          refine zp 1 hf trivial fun a hf => ?_
          obtain ⟨e9, he9, hR1⟩ := bs_ hR1
          obtain ⟨p9, o9, cs9, hx5, hr9, H⟩ := pre_iaddr H Tryz.underlying24 TF.sz43 1 rfl he9
          refine tP 2 rfl rfl rfl rfl hf (by kernel_rfl) (fun _ => trivial) (fun w => rq_iaddrE hf rfl rfl rfl hx5 w) fun a hf => ?_
          obtain rfl := Item_cells hr9
          refine strT (H.lt_ [false] [false] [false, false, false, false] [0]) (fun w H => trivial) fun hS => ?_
          refine zS 3 [] rfl rfl rfl rfl hf hS (fun w H => rq_loadIN hf H TF.la43 0 0 rfl rfl rfl rfl) fun a hf => ?_
          refine zp 4 hf hS fun a hf => ?_
          refine zp 5 hf hS fun a hf => ?_
          obtain ⟨e10, he10, hR1⟩ := bs_ hR1
          obtain ⟨p10, o10, cs10, hx6, hr10, H⟩ := pre_iaddr H Tryz.underlying24 TF.sz43 1 rfl he10
          refine zP 6 rfl rfl rfl rfl hf hS (fun w => rq_iaddrE hf rfl rfl rfl hx6 w) fun a hf => ?_
          obtain rfl := Item_cells hr10
          refine strT (H.lt_ [false] [false] [false, false, false, false] [0, 1]) (fun w H => H.lt_ [] [] [] [1]) fun hS => ?_
          refine zS 7 [] rfl rfl rfl rfl hf hS (fun w H => rq_loadIN hf H TF.la43 0 0 rfl rfl rfl rfl) fun a hf => ?_
          refine zP 8 rfl rfl rfl rfl hf hS (fun w => rq_neT hf TF.qeqt43 ([e9.Kind, e9.Node, e9.Count] : List Int) ([e10.Kind, e10.Node, e10.Count] : List Int) rfl rfl rfl rfl rfl rfl) fun a hf => ?_
          refine dn (by kernel_rfl) ?_
          refine then_n (ib hR1 hf (fun hc42 hR1 => ?_) fun hc42 hR1 => ?_)
          ·refine sqz (pz 1 hf fun a hf => ?_)
           have hf := hf.pn [2]
           refine wl_end (then_n (wp_ret (then_r (blk_r (then_r (then_r (blk_r (then_r (then_r (?_))))))))))
           obtain rfl := oi hR1
           replace hF := on_ret hF
           obtain rfl := oi hF
           refine rT hf ?_
           exact ⟨_, rfl, H.bel, mk_bool⟩
          ·refine wp_skip (then_n (sqz (pz 2 hf fun a hf => ?_)))
           obtain ⟨e11, he11, hR1⟩ := bs_ hR1
           refine wl0 rfl (op_iaddr hf H Tryz.underlying24 TF.sz43 3 rfl rfl rfl he11 (by decide) fun p11 o11 cs11 a hf hr11 H => ?_)
           obtain rfl := Item_cells hr11
           refine pz 1 hf fun a hf => ?_
           refine oq hf (rq_loadI hf H TF.ls3 0 0 rfl rfl rfl) fun a hf => ?_
           refine pz 1 hf fun a hf => ?_
           have hf := hf.pn [22, 25, 27, 29, 30, 212]
           refine wl_end (then_n (ib hR1 hf (fun hc43 hR1 => ?_) fun hc43 hR1 => ?_))
           ·refine reg (pz 3 hf fun a hf => ?_)
            obtain ⟨e12, he12, hR1⟩ := bs_ hR1
            refine wl0 rfl (op_iaddr hf H Tryz.underlying24 TF.sz43 4 rfl rfl rfl he12 (by decide) fun p12 o12 cs12 a hf hr12 H => ?_)
            obtain rfl := Item_cells hr12
            refine pz 1 hf fun a hf => ?_
            refine oq hf (rq_loadI hf H TF.ls3 0 2 rfl rfl rfl) fun a hf => ?_
            refine pz 2 hf fun a hf => ?_
            refine wl_end (blk_n (then_n (reg (pz 3 hf fun a hf => ?_))))
            refine wl_end ?_
            have hf := hf.pn [22, 25, 27, 29, 30]
            have H := H.lt_ [true] [true] [true, true, true, true] [4, 5, 6, 7]
            exact then_n ⟨(w64 (ends5 + e12.Count), w64 (i5 + 1)), hR1, hf, H⟩
           ·refine wp_skip (blk_n (then_n (reg (pz 3 hf fun a hf => ?_))))
            refine wl_end ?_
            have hf := hf.pn [22, 25, 27, 29, 30]
            have H := H.lt_ [true] [true] [true, true, true, true] [3, 4, 5, 6]
            exact then_n ⟨(ends5, w64 (i5 + 1)), hR1, hf, H⟩
         ·refine wp_exit (then_x (then_x (blk_e (?_))))
          have hf := hf.pn [22, 25, 27, 29, 30]
          have H := H.lt_ [true] [true] [true, true, true, true] [0, 1, 2, 3]
          exact ⟨(ends5, i5), (Option.some.inj hR1).symm, hf, H⟩
        rintro a w ⟨⟨ends6, i6⟩, rfl, hf, H⟩
        replace hF := on_next hF
        try dsimp only at hF
        refine then_n (sqz (pz 2 hf fun a hf => ?_))
        refine lB 0 hf H TF.ls36 fun a hf => ?_
        refine pz 4 hf fun a hf => ?_
        refine wer ?_
        obtain rfl := oi hF
        refine rT hf ?_
        exact ⟨_, rfl, H.bel, mk_bool⟩
     ·refine wp_skip (then_n (sqz (pz 1 hf fun a hf => ?_)))
      obtain ⟨y21, hy21, hF⟩ := bs_ hF
      refine oc hf TF.cl16 (spec_DrawBillOf_ok (S := TT) (mk_list (H.rt 4 rfl)) hy21) fun v53 w a hp53 hf => ?_
      obtain ⟨A24, c34, F27, A25, c35, F28, A26, c36, E4, rfl, Hc4⟩ := hp53
      have H := H.comp Hc4 (.inl rfl)
      have H := H.lend 0 rfl
      have H := H.lend 1 rfl
      refine pz 4 hf fun a hf => ?_
      refine aL hf H TF.zv38 fun b4 a w hf H => ?_
      refine sB 0 hf H TF.sz38 fun w H => ?_
      refine pz 2 hf fun a hf => ?_
      have hf := hf.pn [22, 23, 24]
      refine wr (lN 0 hf H TF.la38 fun a hf => ?_)
      refine pz 2 hf fun a hf => ?_
      obtain ⟨y22, hy22, hF⟩ := bs_ hF
      refine oc hf TF.cl17 (impl_BillOf_ok (S := TT) (Plan_mkv (x := y21.1) (H.rt 1 rfl) (H.rt 0 rfl) (H.rowTrue 0 rfl)) mk_int mk_int hy22) fun v54 w a hp54 hf => ?_
      obtain ⟨hb18, F29, v55, v56, rfl, hp55, hp56, hN8⟩ := hp54
      obtain ⟨A27, c37, rfl, hl14⟩ := VO_list hp55
      obtain rfl := VR_bool hp56
      have H := H.aO1 hb18 hN8 hl14
      have H := H.lend 0 rfl
      refine pz 5 hf fun a hf => ?_
      refine wr (lN 0 hf H TF.la38 fun a hf => ?_)
      refine pz 2 hf fun a hf => ?_
      obtain ⟨y23, hy23, hF⟩ := bs_ hF
      refine oc hf TF.cl18 (spec_BillOf_ok (S := TT) (Plan_mkv (x := y21.1) (H.rt 2 rfl) (H.rt 1 rfl) (H.rowTrue 0 rfl)) mk_int mk_int hy23) fun v57 w a hp57 hf => ?_
      obtain ⟨hb19, v58, v59, rfl, hp58, hp59⟩ := hp57
      obtain ⟨A28, c38, rfl, hl15⟩ := VR_list hp58
      obtain rfl := VR_bool hp59
      obtain ⟨F31, H⟩ := H.addRo hb19 (p := MP.val [(.slice A28 y23.1.length c38)] (y23.1 : List Item)) hl15
      have H := H.lendQ 0 (q := MP.val [(.slice A28 y23.1.length c38)] (y23.1 : List Item)) rfl fun _ _ h => h
      refine pz 5 hf fun a hf => ?_
      have hf := hf.pn [22, 25, 26, 27, 28]
      refine wl_end (then_n (sq (sq ?_)))
      obtain ⟨c39, hGc39, hF⟩ := bs_ hF
      have fh12 := hf.prune [22, 25, 26, 27, 28] rfl
      have Hm12 := H.lt_ [true] [true, false] [true, true, true, true, false, false, false, false] [0, 1, 2, 3]
      refine midF 181 (.bool c39) fh12 Hm12 ?_ fun a w hf H => ?_
      ·refine reg (pz 4 hf fun a hf => ?_)
       refine iteB hGc39 (fun hc44 hGc39 => ?_) fun hc44 hGc39 => ?_
       ·have hf := hf.lit 171 rfl hc44
        refine pz 10 hf fun a hf => ?_
        obtain rfl := oi hGc39
        have hf := hf.pn [181, 22, 25, 26, 27, 28]
        have H := H.lt_ [true] [true, false] [true, true, true, true, false, false, false, false] [0, 1, 2, 3]
        exact wl_end ⟨hf, H⟩
       ·have hf := hf.lit 171 rfl hc44
        refine pz 7 hf fun a hf => ?_
        refine iteB hGc39 (fun hc45 hGc39 => ?_) fun hc45 hGc39 => ?_
        ·have hf := hf.lit 178 rfl hc45
         refine pz 3 hf fun a hf => ?_
         obtain rfl := oi hGc39
         have hf := hf.pn [181, 22, 25, 26, 27, 28]
         have H := H.lt_ [true] [true, false] [true, true, true, true, false, false, false, false] [0, 1, 2, 3]
         exact wl_end ⟨hf, H⟩
        ·have hf := hf.lit 178 rfl hc45
         refine pz 3 hf fun a hf => ?_
         obtain rfl := oi hGc39
         have hf := hf.pn [181, 22, 25, 26, 27, 28]
         have H := H.lt_ [true] [true, false] [true, true, true, true, false, false, false, false] [0, 1, 2, 3]
         exact wl_end ⟨hf, H⟩
      refine then_n (ib hF hf (fun hc46 hF => ?_) fun hc46 hF => ?_)
      ·refine sq ?_
       obtain ⟨c40, hGc40, hF⟩ := bs_ hF
       have fh13 := hf.prune [] rfl
       have Hm13 := H.lt_ [false] [false] [false, false, false, false] []
       refine midF 2 (.bool c40) fh13 Hm13 ?_ fun a w hf H => ?_
       ·refine reg (pz 4 hf fun a hf => ?_)
        refine iteB hGc40 (fun hc47 hGc40 => ?_) fun hc47 hGc40 => ?_
        ·have hf := hf.lit 185 rfl hc47
         refine pz 7 hf fun a hf => ?_
         obtain rfl := oi hGc40
         have hf := hf.pn [2]
         have H := H.lt_ [false] [false] [false, false, false, false] []
         exact wl_end ⟨hf, H⟩
        ·have hf := hf.lit 185 rfl hc47
         refine pz 7 hf fun a hf => ?_
         obtain rfl := oi hGc40
         have hf := hf.pn [2]
         have H := H.lt_ [false] [false] [false, false, false, false] []
         exact wl_end ⟨hf, H⟩
       refine then_n (wp_ret (then_r (?_)))
       obtain rfl := oi hF
       refine rT hf ?_
       exact ⟨_, rfl, H.bel, mk_bool⟩
      ·refine wp_skip (then_n (sqz (pz 1 hf fun a hf => ?_)))
       refine wl_end (then_n (sq (sqz (pz 1 hf fun a hf => ?_))))
       refine wl_end (then_n ?_)
       obtain ⟨out4, hB1, hF⟩ := bs_ hF
       have hf := hf.pn [22, 25, 27, 29, 30]
       have H := H.lt_ [true] [true] [true, true, true, true] [0, 1, 2, 3]
       refine loopC (fun (s : Int × Int) (a : Act) (w : World) => match s with | (ends7, i7) => Fr a 226 [(22, (.pointer (some ⟨b4, 0, none⟩))), (25, (.slice A27 y22.1.length c37)), (27, (.slice A28 y23.1.length c38)), (29, (.int .i64 ends7)), (30, (.int .i64 i7))] ∧ Mem ⟨w0, []⟩ S [⟨b4, 38, [(.slice A24 y21.1.Network.Nodes.length c34), (.slice A25 y21.1.Network.Fibers.length c35), (.slice A26 y21.1.Lights.length c36)]⟩] [⟨.sh true, E4, A26, c36, (y21.1.Lights : List Light)⟩] [⟨F31, MP.val [(.slice A28 y23.1.length c38)] (y23.1 : List Item)⟩, ⟨F29, MP.own F29 [(.slice A27 y22.1.length c37)] (y22.1 : List Item)⟩, ⟨F27, MP.own F27 [(.slice A24 y21.1.Network.Nodes.length c34)] (y21.1.Network.Nodes : List ByteArray)⟩, ⟨F28, MP.own F28 [(.slice A25 y21.1.Network.Fibers.length c35)] (y21.1.Network.Fibers : List Fiber)⟩] [(true, MP.val [(.slice A28 y23.1.length c38)] (y23.1 : List Item)), (true, MP.val [(.slice A27 y22.1.length c37)] (y22.1 : List Item)), (true, MP.val [(.slice A25 y21.1.Network.Fibers.length c35)] (y21.1.Network.Fibers : List Fiber)), (true, MP.val [(.slice A24 y21.1.Network.Nodes.length c34)] (y21.1.Network.Nodes : List ByteArray))] w) (fun k (s : Int × Int) => laws_FnBills_L4 fu y22 y23 k s.1 s.2 = some out4) (fun s => out4 = Out.next s) (0, 0) fu hB1 ⟨hf, H⟩ (fun s h => by cases h) ?_ ?_
       ·rintro fk ⟨ends7, i7⟩ a w hR1 hI
        replace hR1 : laws_FnBills_L4 fu y22 y23 (fk + 1) ends7 i7 = some out4 := hR1
        rw [laws_FnBills_L4] at hR1
        obtain ⟨hf, H⟩ := hI
        refine sq (sqz (pz 4 hf fun a hf => ?_))
        refine wl_end (then_n (ib hR1 hf (fun hc48 hR1 => ?_) fun hc48 hR1 => ?_))
        ·refine wp_skip (then_n (sq (wp_block (sq (sq (dw [] 9 fun w hb => ?_))))))
         have H := H.keep hb
         refine zp 0 hf trivial fun a hf => ?_
         refine zp 1 hf trivial fun a hf => ?_
         obtain ⟨e13, he13, hR1⟩ := bs_ hR1
         obtain ⟨p13, o13, cs13, hx7, hr13, H⟩ := pre_iaddr H Tryz.underlying24 TF.sz43 1 rfl he13
         refine tP 2 rfl rfl rfl rfl hf (by kernel_rfl) (fun _ => trivial) (fun w => rq_iaddrE hf rfl rfl rfl hx7 w) fun a hf => ?_
         obtain rfl := Item_cells hr13
         refine strT (H.lt_ [false] [false] [false, false, false, false] [0]) (fun w H => trivial) fun hS => ?_
         refine zS 3 [] rfl rfl rfl rfl hf hS (fun w H => rq_loadIN hf H TF.la43 0 0 rfl rfl rfl rfl) fun a hf => ?_
         refine zp 4 hf hS fun a hf => ?_
         refine zp 5 hf hS fun a hf => ?_
         obtain ⟨e14, he14, hR1⟩ := bs_ hR1
         obtain ⟨p14, o14, cs14, hx8, hr14, H⟩ := pre_iaddr H Tryz.underlying24 TF.sz43 1 rfl he14
         refine zP 6 rfl rfl rfl rfl hf hS (fun w => rq_iaddrE hf rfl rfl rfl hx8 w) fun a hf => ?_
         obtain rfl := Item_cells hr14
         refine strT (H.lt_ [false] [false] [false, false, false, false] [0, 1]) (fun w H => H.lt_ [] [] [] [1]) fun hS => ?_
         refine zS 7 [] rfl rfl rfl rfl hf hS (fun w H => rq_loadIN hf H TF.la43 0 0 rfl rfl rfl rfl) fun a hf => ?_
         refine zP 8 rfl rfl rfl rfl hf hS (fun w => rq_neT hf TF.qeqt43 ([e13.Kind, e13.Node, e13.Count] : List Int) ([e14.Kind, e14.Node, e14.Count] : List Int) rfl rfl rfl rfl rfl rfl) fun a hf => ?_
         refine dn (by kernel_rfl) ?_
         refine then_n (ib hR1 hf (fun hc49 hR1 => ?_) fun hc49 hR1 => ?_)
         ·refine sqz (pz 1 hf fun a hf => ?_)
          have hf := hf.pn [2]
          refine wl_end (then_n (wp_ret (then_r (blk_r (then_r (then_r (blk_r (then_r (then_r (?_))))))))))
          obtain rfl := oi hR1
          replace hF := on_ret hF
          obtain rfl := oi hF
          refine rT hf ?_
          exact ⟨_, rfl, H.bel, mk_bool⟩
         ·refine wp_skip (then_n (sqz (pz 2 hf fun a hf => ?_)))
          obtain ⟨e15, he15, hR1⟩ := bs_ hR1
          refine wl0 rfl (op_iaddr hf H Tryz.underlying24 TF.sz43 3 rfl rfl rfl he15 (by decide) fun p15 o15 cs15 a hf hr15 H => ?_)
          obtain rfl := Item_cells hr15
          refine pz 1 hf fun a hf => ?_
          refine oq hf (rq_loadI hf H TF.ls3 0 0 rfl rfl rfl) fun a hf => ?_
          refine pz 1 hf fun a hf => ?_
          have hf := hf.pn [22, 25, 27, 29, 30, 212]
          refine wl_end (then_n (ib hR1 hf (fun hc50 hR1 => ?_) fun hc50 hR1 => ?_))
          ·refine reg (pz 3 hf fun a hf => ?_)
           obtain ⟨e16, he16, hR1⟩ := bs_ hR1
           refine wl0 rfl (op_iaddr hf H Tryz.underlying24 TF.sz43 4 rfl rfl rfl he16 (by decide) fun p16 o16 cs16 a hf hr16 H => ?_)
           obtain rfl := Item_cells hr16
           refine pz 1 hf fun a hf => ?_
           refine oq hf (rq_loadI hf H TF.ls3 0 2 rfl rfl rfl) fun a hf => ?_
           refine pz 2 hf fun a hf => ?_
           refine wl_end (blk_n (then_n (reg (pz 3 hf fun a hf => ?_))))
           refine wl_end ?_
           have hf := hf.pn [22, 25, 27, 29, 30]
           have H := H.lt_ [true] [true] [true, true, true, true] [4, 5, 6, 7]
           exact then_n ⟨(w64 (ends7 + e16.Count), w64 (i7 + 1)), hR1, hf, H⟩
          ·refine wp_skip (blk_n (then_n (reg (pz 3 hf fun a hf => ?_))))
           refine wl_end ?_
           have hf := hf.pn [22, 25, 27, 29, 30]
           have H := H.lt_ [true] [true] [true, true, true, true] [3, 4, 5, 6]
           exact then_n ⟨(ends7, w64 (i7 + 1)), hR1, hf, H⟩
        ·refine wp_exit (then_x (then_x (blk_e (?_))))
         have hf := hf.pn [22, 25, 27, 29, 30]
         have H := H.lt_ [true] [true] [true, true, true, true] [0, 1, 2, 3]
         exact ⟨(ends7, i7), (Option.some.inj hR1).symm, hf, H⟩
       rintro a w ⟨⟨ends8, i8⟩, rfl, hf, H⟩
       replace hF := on_next hF
       try dsimp only at hF
       refine then_n (sqz (pz 2 hf fun a hf => ?_))
       refine lB 0 hf H TF.ls36 fun a hf => ?_
       refine pz 4 hf fun a hf => ?_
       refine wer ?_
       obtain rfl := oi hF
       refine rT hf ?_
       exact ⟨_, rfl, H.bel, mk_bool⟩
end AT
