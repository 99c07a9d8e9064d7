/- The Go functions do what is told of them, by program (gen.py). -/
import Derived.Test.YtmokfdffnijbbaaGreatWFnExactCompactPlan1
set_option linter.unusedVariables false
set_option linter.unusedSimpArgs false
set_option maxRecDepth 100000
set_option maxHeartbeats 1000000
namespace AT
open Go Go.RowKit Go.Proofs
variable {fu : Nat} {w0 : World}
theorem laws_heldIntS_ok {S : Nat → Prop} {v0_ : Value} {v1_ : Value} {a' : List Int} {k' : Int} {r : Int} (h0 : VR w0 S v0_ a') (h1 : VR w0 S v1_ k') (hF : laws_heldIntS fu a' k' = some r) :
    Calls Tryz.prog 100 [v0_, v1_].toArray w0 fun e w' => ∃ v, e = .returned v ∧ (Below w0.heap.size w0 w' ∧ VR w' (St ⟨w0, []⟩ S [] [] [] true) v r) := by
 obtain ⟨A, c, rfl, hl⟩ := VR_list h0
 obtain rfl := VR_int h1
 have H := Mem.start ⟨w0, []⟩ S
 have H := H.pA hl
 refine en Tryz.func100 fun a hf => ?_
 rw [laws_heldIntS] at hF
 refine sqz (pz 1 hf fun a hf => ?_)
 refine we (sqz (pz 1 hf fun a hf => ?_))
 refine wl_end (then_n ?_)
 obtain ⟨out', hB1, hF⟩ := bs_ hF
 have hf := hf.pn [0, 1, 5]
 have H := H.lt_ [] [] [] [0]
 refine loopC (fun (s : Int × Int) (a : Act) (w : World) => match s with | (k2, i) => Fr a 21 [(0, (.slice A a'.length c)), (1, (.int .i64 k2)), (5, (.int .i64 i))] ∧ Mem ⟨w0, []⟩ S [] [] [] [(false, MP.val [(.slice A a'.length c)] (a' : List Int))] w) (fun k (s : Int × Int) => laws_heldIntS_L1 fu a' k s.1 s.2 = some out') (fun s => out' = Out.next s) (k', 0) fu hB1 ⟨hf, H⟩ (fun s h => by cases h) ?_ ?_
 ·rintro fk ⟨k2, i⟩ a w hR1 hI
  replace hR1 : laws_heldIntS_L1 fu a' (fk + 1) k2 i = some out' := hR1
  rw [laws_heldIntS_L1] at hR1
  obtain ⟨hf, H⟩ := hI
  refine sq (sqz (pz 4 hf fun a hf => ?_))
  refine wl_end (then_n (ib hR1 hf (fun hc hR1 => ?_) fun hc hR1 => ?_))
  ·refine wp_skip (then_n (sq (wp_block (sq (sqz (pz 2 hf fun a hf => ?_))))))
   obtain ⟨e, he, hR1⟩ := bs_ hR1
   refine wl0 rfl (op_iaddr hf H Tryz.underlying47 TF.sz3 0 rfl rfl rfl he (by decide) fun p o cs a hf hr H => ?_)
   obtain rfl := hr
   refine oq hf (rq_loadI hf H TF.ls3 0 0 rfl rfl rfl) fun a hf => ?_
   refine pz 2 hf fun a hf => ?_
   refine wl_end (then_n (ib hR1 hf (fun hc2 hR1 => ?_) fun hc2 hR1 => ?_))
   ·refine sqz (pz 1 hf fun a hf => ?_)
    have hf := hf.pn [4]
    refine wl_end (then_n (wp_ret (then_r (blk_r (then_r (then_r (blk_r (then_r (then_r (?_))))))))))
    obtain rfl := oi hR1
    replace hF := on_ret hF
    obtain rfl := oi hF
    refine rT hf ?_
    exact ⟨_, rfl, H.bel, mk_int⟩
   ·refine wp_skip (then_n (reg (pz 3 hf fun a hf => ?_)))
    refine wl_end (blk_n (then_n (reg (pz 3 hf fun a hf => ?_))))
    have hf := hf.pn [0, 1, 5]
    refine wl_end ?_
    have hf := hf.pn [0, 1, 5]
    have H := H.lt_ [] [] [] [1]
    exact then_n ⟨(w64 (k2 + 1), w64 (i + 1)), hR1, hf, H⟩
  ·refine wp_exit (then_x (then_x (blk_e (?_))))
   have hf := hf.pn [0, 1, 5]
   have H := H.lt_ [] [] [] [0]
   exact ⟨(k2, i), (Option.some.inj hR1).symm, hf, H⟩
 rintro a w ⟨⟨k3, i2⟩, rfl, hf, H⟩
 replace hF := on_next hF
 try dsimp only at hF
 refine then_n (sqz (pz 2 hf fun a hf => ?_))
 refine wer ?_
 obtain rfl := oi hF
 refine rT hf ?_
 exact ⟨_, rfl, H.bel, mk_int⟩
theorem laws_heldLightS_ok {S : Nat → Prop} {v0_ : Value} {v1_ : Value} {a' : List Light} {k' : Int} {r : Int} (h0 : VR w0 S v0_ a') (h1 : VR w0 S v1_ k') (hF : laws_heldLightS fu a' k' = some r) :
    Calls Tryz.prog 62 [v0_, v1_].toArray w0 fun e w' => ∃ v, e = .returned v ∧ (Below w0.heap.size w0 w' ∧ VR w' (St ⟨w0, []⟩ S [] [] [] true) v r) := by
 obtain ⟨A, c, rfl, hl⟩ := VR_list h0
 obtain rfl := VR_int h1
 have H := Mem.start ⟨w0, []⟩ S
 have H := H.pA hl
 refine en Tryz.func62 fun a hf => ?_
 rw [laws_heldLightS] at hF
 refine sqz (pz 1 hf fun a hf => ?_)
 refine we (sqz (pz 1 hf fun a hf => ?_))
 refine wl_end (then_n ?_)
 obtain ⟨out', hB1, hF⟩ := bs_ hF
 have hf := hf.pn [0, 1, 5]
 have H := H.lt_ [] [] [] [0]
 refine loopC (fun (s : Int × Int) (a : Act) (w : World) => match s with | (k2, i) => Fr a 62 [(0, (.slice A a'.length c)), (1, (.int .i64 k2)), (5, (.int .i64 i))] ∧ Mem ⟨w0, []⟩ S [] [] [] [(false, MP.val [(.slice A a'.length c)] (a' : List Light))] w) (fun k (s : Int × Int) => laws_heldLightS_L1 fu a' k s.1 s.2 = some out') (fun s => out' = Out.next s) (k', 0) fu hB1 ⟨hf, H⟩ (fun s h => by cases h) ?_ ?_
 ·rintro fk ⟨k2, i⟩ a w hR1 hI
  replace hR1 : laws_heldLightS_L1 fu a' (fk + 1) k2 i = some out' := hR1
  rw [laws_heldLightS_L1] at hR1
  obtain ⟨hf, H⟩ := hI
  refine sq (sqz (pz 4 hf fun a hf => ?_))
  refine wl_end (then_n (ib hR1 hf (fun hc hR1 => ?_) fun hc hR1 => ?_))
  ·refine wp_skip (then_n (sq (wp_block (sq (sqz (pz 2 hf fun a hf => ?_))))))
   obtain ⟨e, he, hR1⟩ := bs_ hR1
   refine wl0 rfl (op_iaddr hf H Tryz.underlying35 TF.sz73 0 rfl rfl rfl he (by decide) fun p o cs a hf hr H => ?_)
   obtain ⟨A2, c2, rfl, hl2⟩ := Light_cells hr
   have H := H.pF hl2
   refine pz 1 hf fun a hf => ?_
   refine oq hf (rq_loadI hf H TF.ls3 1 0 rfl rfl rfl) fun a hf => ?_
   refine pz 2 hf fun a hf => ?_
   refine wl_end (then_n (ib hR1 hf (fun hc2 hR1 => ?_) fun hc2 hR1 => ?_))
   ·refine sqz (pz 1 hf fun a hf => ?_)
    have hf := hf.pn [4]
    refine wl_end (then_n (wp_ret (then_r (blk_r (then_r (then_r (blk_r (then_r (then_r (?_))))))))))
    obtain rfl := oi hR1
    replace hF := on_ret hF
    obtain rfl := oi hF
    refine rT hf ?_
    exact ⟨_, rfl, H.bel, mk_int⟩
   ·refine wp_skip (then_n (sqz (pz 3 hf fun a hf => ?_)))
    have hf := hf.pn [0, 1, 5]
    refine we (sqz (pz 2 hf fun a hf => ?_))
    obtain ⟨e2, he2, hR1⟩ := bs_ hR1
    refine wl0 rfl (op_iaddr hf H Tryz.underlying35 TF.sz73 2 rfl rfl rfl he2 (by decide) fun p2 o2 cs2 a hf hr2 H => ?_)
    obtain ⟨A3, c3, rfl, hl3⟩ := Light_cells hr2
    have H := H.pF hl3
    refine pz 2 hf fun a hf => ?_
    refine oq hf (rq_loadI hf H TF.ls3 1 1 rfl rfl rfl) fun a hf => ?_
    refine pz 2 hf fun a hf => ?_
    refine wl_end (then_n (ib hR1 hf (fun hc3 hR1 => ?_) fun hc3 hR1 => ?_))
    ·refine sqz (pz 1 hf fun a hf => ?_)
     refine wl_end (then_n (wp_ret (then_r (blk_r (then_r (then_r (blk_r (then_r (then_r (?_))))))))))
     obtain rfl := oi hR1
     replace hF := on_ret hF
     obtain rfl := oi hF
     refine rT hf ?_
     exact ⟨_, rfl, H.bel, mk_int⟩
    ·refine wp_skip (then_n (sqz (pz 3 hf fun a hf => ?_)))
     refine wr (pz 2 hf fun a hf => ?_)
     obtain ⟨e3, he3, hR1⟩ := bs_ hR1
     refine wl0 rfl (op_iaddr hf H Tryz.underlying35 TF.sz73 4 rfl rfl rfl he3 (by decide) fun p3 o3 cs3 a hf hr3 H => ?_)
     obtain ⟨A4, c4, rfl, hl4⟩ := Light_cells hr3
     have H := H.pF hl4
     refine pz 2 hf fun a hf => ?_
     refine oq hf (rq_loadI hf H TF.ls47 1 2 rfl rfl rfl) fun a hf => ?_
     refine pz 1 hf fun a hf => ?_
     obtain ⟨y, hy, hR1⟩ := bs_ hR1
     refine oc hf TF.cl100 (laws_heldIntS_ok (S := TT) (mk_list (H.rt 0 rfl)) mk_int hy) fun v w a hp hf => ?_
     obtain ⟨hb, hp⟩ := hp
     obtain rfl := VR_int hp
     have H := H.keep hb
     refine pz 1 hf fun a hf => ?_
     have hf := hf.pn [0, 1, 5]
     refine we (sqz (pz 2 hf fun a hf => ?_))
     refine wl_end (then_n (ib hR1 hf (fun hc4 hR1 => ?_) fun hc4 hR1 => ?_))
     ·refine sqz (pz 1 hf fun a hf => ?_)
      refine wl_end (then_n (wp_ret (then_r (blk_r (then_r (then_r (blk_r (then_r (then_r (?_))))))))))
      obtain rfl := oi hR1
      replace hF := on_ret hF
      obtain rfl := oi hF
      refine rT hf ?_
      exact ⟨_, rfl, H.bel, mk_int⟩
     ·refine wp_skip (then_n (sq (sqz (pz 2 hf fun a hf => ?_))))
      obtain ⟨e4, he4, hR1⟩ := bs_ hR1
      refine wl0 rfl (op_iaddr hf H Tryz.underlying35 TF.sz73 6 rfl rfl rfl he4 (by decide) fun p4 o4 cs4 a hf hr4 H => ?_)
      obtain ⟨A5, c5, rfl, hl5⟩ := Light_cells hr4
      have H := H.pF hl5
      refine pz 2 hf fun a hf => ?_
      refine oq hf (rq_loadI hf H TF.ls3 1 3 rfl rfl rfl) fun a hf => ?_
      refine pz 2 hf fun a hf => ?_
      refine wl_end (then_n (ib hR1 hf (fun hc5 hR1 => ?_) fun hc5 hR1 => ?_))
      ·refine sqz (pz 1 hf fun a hf => ?_)
       have hf := hf.pn [4]
       refine wl_end (then_n (wp_ret (then_r (blk_r (then_r (then_r (blk_r (then_r (then_r (?_))))))))))
       obtain rfl := oi hR1
       replace hF := on_ret hF
       obtain rfl := oi hF
       refine rT hf ?_
       exact ⟨_, rfl, H.bel, mk_int⟩
      ·refine wp_skip (then_n (sqz (pz 3 hf fun a hf => ?_)))
       refine we (sqz (pz 2 hf fun a hf => ?_))
       obtain ⟨e5, he5, hR1⟩ := bs_ hR1
       refine wl0 rfl (op_iaddr hf H Tryz.underlying35 TF.sz73 8 rfl rfl rfl he5 (by decide) fun p5 o5 cs5 a hf hr5 H => ?_)
       obtain ⟨A6, c6, rfl, hl6⟩ := Light_cells hr5
       have H := H.pF hl6
       refine pz 2 hf fun a hf => ?_
       refine oq hf (rq_loadI hf H TF.ls3 1 4 rfl rfl rfl) fun a hf => ?_
       refine pz 2 hf fun a hf => ?_
       have hf := hf.pn [0, 1, 5, 58]
       refine wl_end (then_n (ib hR1 hf (fun hc6 hR1 => ?_) fun hc6 hR1 => ?_))
       ·refine sqz (pz 1 hf fun a hf => ?_)
        refine wl_end (then_n (wp_ret (then_r (blk_r (then_r (then_r (blk_r (then_r (then_r (?_))))))))))
        obtain rfl := oi hR1
        replace hF := on_ret hF
        obtain rfl := oi hF
        refine rT hf ?_
        exact ⟨_, rfl, H.bel, mk_int⟩
       ·refine wp_skip (then_n (reg (pz 3 hf fun a hf => ?_)))
        refine wl_end (blk_n (then_n (reg (pz 3 hf fun a hf => ?_))))
        refine wl_end ?_
        have hf := hf.pn [0, 1, 5]
        have H := H.lt_ [] [] [] [10]
        exact then_n ⟨(w64 ((w64 (y + 1)) + 1), w64 (i + 1)), hR1, hf, H⟩
  ·refine wp_exit (then_x (then_x (blk_e (?_))))
   have hf := hf.pn [0, 1, 5]
   have H := H.lt_ [] [] [] [0]
   exact ⟨(k2, i), (Option.some.inj hR1).symm, hf, H⟩
 rintro a w ⟨⟨k3, i2⟩, rfl, hf, H⟩
 replace hF := on_next hF
 try dsimp only at hF
 refine then_n (sqz (pz 2 hf fun a hf => ?_))
 refine wer ?_
 obtain rfl := oi hF
 refine rT hf ?_
 exact ⟨_, rfl, H.bel, mk_int⟩
theorem laws_heldPlan_ok {S : Nat → Prop} {v0_ : Value} {v1_ : Value} {a' : Plan} {k' : Int} {r : Int} (h0 : VR w0 S v0_ a') (h1 : VR w0 S v1_ k') (hF : laws_heldPlan fu a' k' = some r) :
    Calls Tryz.prog 17 [v0_, v1_].toArray w0 fun e w' => ∃ v, e = .returned v ∧ (Below w0.heap.size w0 w' ∧ VR w' (St ⟨w0, []⟩ S [] [] [] true) v r) := by
 obtain ⟨A, c, A2, c2, A3, c3, rfl, hl, hl2, hl3⟩ := Plan_open h0
 obtain rfl := VR_int h1
 have H := Mem.start ⟨w0, []⟩ S
 have H := H.pA hl
 have H := H.pA hl2
 have H := H.pA hl3
 refine en Tryz.func17 fun a hf => ?_
 rw [laws_heldPlan] at hF
 refine bx hf H fun b' a w hf H => ?_
 refine pz 1 hf fun a hf => ?_
 refine wr (pz 1 hf fun a hf => ?_)
 refine lN 0 hf H TF.la34 fun a hf => ?_
 refine pz 1 hf fun a hf => ?_
 obtain ⟨y, hy, hF⟩ := bs_ hF
 refine oc hf TF.cl61 (laws_heldNetwork_ok (S := TT) (Network_mkv (x := a'.Network) (H.rt 2 rfl) (H.rt 1 rfl)) mk_int hy) fun v w a hp hf => ?_
 obtain ⟨hb, hp⟩ := hp
 obtain rfl := VR_int hp
 have H := H.keep hb
 refine pz 1 hf fun a hf => ?_
 refine we (sqz (pz 2 hf fun a hf => ?_))
 refine wl_end (then_n (ib hF hf (fun hc hF => ?_) fun hc hF => ?_))
 ·refine sqz (pz 1 hf fun a hf => ?_)
  refine wl_end (then_n (wp_ret (then_r (?_))))
  obtain rfl := oi hF
  refine rT hf ?_
  exact ⟨_, rfl, H.bel, mk_int⟩
 ·refine wp_skip (then_n (sqz (pz 1 hf fun a hf => ?_)))
  refine lB 0 hf H TF.ls35 fun a hf => ?_
  refine pz 1 hf fun a hf => ?_
  obtain ⟨y2, hy2, hF⟩ := bs_ hF
  refine oc hf TF.cl62 (laws_heldLightS_ok (S := TT) (mk_list (H.rt 0 rfl)) mk_int hy2) fun v2 w a hp2 hf => ?_
  obtain ⟨hb2, hp2⟩ := hp2
  obtain rfl := VR_int hp2
  have H := H.keep hb2
  refine pz 1 hf fun a hf => ?_
  have hf := hf.pn [1]
  refine we (sqz (pz 2 hf fun a hf => ?_))
  refine wl_end (then_n (ib hF hf (fun hc2 hF => ?_) fun hc2 hF => ?_))
  ·refine sqz (pz 1 hf fun a hf => ?_)
   refine wl_end (then_n (wp_ret (then_r (?_))))
   obtain rfl := oi hF
   refine rT hf ?_
   exact ⟨_, rfl, H.bel, mk_int⟩
  ·refine wp_skip (then_n (sqz (pz 2 hf fun a hf => ?_)))
   refine wer ?_
   obtain rfl := oi hF
   refine rT hf ?_
   exact ⟨_, rfl, H.bel, mk_int⟩
theorem laws_FnExactCompactPlan_ok {S : Nat → Prop} {v0_ : Value} {aP : Plan} {r : Bool} (h0 : VR w0 S v0_ aP) (hF : laws_FnExactCompactPlan fu aP = some r) :
    Calls Tryz.prog 4 [v0_].toArray w0 fun e w' => ∃ v, e = .returned v ∧ (Below w0.heap.size w0 w' ∧ VR w' (St ⟨w0, []⟩ S [] [] [] true) v r) := by
 obtain ⟨A, c, A2, c2, A3, c3, rfl, hl, hl2, hl3⟩ := Plan_open h0
 have H := Mem.start ⟨w0, []⟩ S
 have H := H.pA hl
 have H := H.pA hl2
 have H := H.pA hl3
 refine en Tryz.func4 fun a hf => ?_
 rw [laws_FnExactCompactPlan] at hF
 refine bx hf H fun b' a w hf H => ?_
 refine pz 1 hf fun a hf => ?_
 refine wr (pz 1 hf fun a hf => ?_)
 refine wr (lN 0 hf H TF.la28 fun a hf => ?_)
 refine pz 1 hf fun a hf => ?_
 obtain ⟨y, hy, hF⟩ := bs_ hF
 refine oc hf TF.cl9 (laws_szPlan_ok (S := TT) (Plan_mkv (x := aP) (H.rt 2 rfl) (H.rt 1 rfl) (H.rt 0 rfl)) mk_int hy) fun v w a hp hf => ?_
 obtain ⟨hb, hp⟩ := hp
 obtain rfl := VR_int hp
 have H := H.keep hb
 refine pz 1 hf fun a hf => ?_
 refine we (sqz (pz 2 hf fun a hf => ?_))
 refine wl_end (then_n (ib hF hf (fun hc hF => ?_) fun hc hF => ?_))
 ·refine sqz (pz 1 hf fun a hf => ?_)
  refine wl_end (then_n (wp_ret (then_r (?_))))
  obtain rfl := oi hF
  refine rT hf ?_
  exact ⟨_, rfl, H.bel, mk_bool⟩
 ·refine wp_skip (then_n (sq (reg (lN 0 hf H TF.la28 fun a hf => ?_))))
  obtain ⟨y2, hy2, hF⟩ := bs_ hF
  refine oc hf TF.cl11 (laws_toPlan_ok (S := TT) (Plan_mkv (x := aP) (H.rt 2 rfl) (H.rt 1 rfl) (H.rt 0 rfl)) hy2) fun v2 w a hp2 hf => ?_
  obtain ⟨hb2, F, hp3, hN⟩ := hp2
  obtain ⟨A4, c4, F2, A5, c5, F3, A6, c6, F4, rfl, rfl, hl4, hl5, hl6⟩ := Plan_vo hp3
  have H := H.aO3 hb2 (by first | exact hN | simpa using hN) hl4 hl5 hl6
  have H := H.lend 0 rfl
  have H := H.lend 1 rfl
  have H := H.lend 2 rfl
  obtain ⟨y3, hy3, hF⟩ := bs_ hF
  refine oc hf TF.cl14 (spec_CompactPlan_ok (S := TT) (Plan_mkv (x := y2) (H.rt 2 rfl) (H.rt 1 rfl) (H.rt 0 rfl)) hy3) fun v3 w a hp4 hf => ?_
  obtain ⟨hb3, v4, v5, rfl, hp5, hp6⟩ := hp4
  obtain ⟨A7, c7, A8, c8, A9, c9, rfl, hl7, hl8, hl9⟩ := Plan_open hp5
  obtain rfl := VR_bool hp6
  obtain ⟨F5, H⟩ := H.addRo hb3 (p := MP.and (MP.val [(.slice A7 y3.1.Network.Nodes.length c7)] (y3.1.Network.Nodes : List ByteArray)) (MP.and (MP.val [(.slice A8 y3.1.Network.Fibers.length c8)] (y3.1.Network.Fibers : List Fiber)) (MP.val [(.slice A9 y3.1.Lights.length c9)] (y3.1.Lights : List Light)))) ⟨hl7, ⟨hl8, hl9⟩⟩
  have H := H.lendQ 0 (q := MP.val [(.slice A7 y3.1.Network.Nodes.length c7)] (y3.1.Network.Nodes : List ByteArray)) rfl fun _ _ h => h.1
  have H := H.lendQ 0 (q := MP.val [(.slice A8 y3.1.Network.Fibers.length c8)] (y3.1.Network.Fibers : List Fiber)) rfl fun _ _ h => h.2.1
  have H := H.lendQ 0 (q := MP.val [(.slice A9 y3.1.Lights.length c9)] (y3.1.Lights : List Light)) rfl fun _ _ h => h.2.2
  refine pz 3 hf fun a hf => ?_
  refine aL hf H TF.zv37 fun b2 a w hf H => ?_
  refine sB 0 hf H TF.sz37 fun w H => ?_
  refine pz 1 hf fun a hf => ?_
  have hf := hf.pn [1, 4, 5]
  refine wr (lN 1 hf H TF.la28 fun a hf => ?_)
  obtain ⟨y4, hy4, hF⟩ := bs_ hF
  refine oc hf TF.cl11 (laws_toPlan_ok (S := TT) (Plan_mkv (x := aP) (H.rt 8 rfl) (H.rt 7 rfl) (H.rt 6 rfl)) hy4) fun v6 w a hp7 hf => ?_
  obtain ⟨hb4, F6, hp8, hN2⟩ := hp7
  obtain ⟨A10, c10, F7, A11, c11, F8, A12, c12, F9, rfl, rfl, hl10, hl11, hl12⟩ := Plan_vo hp8
  have H := H.aO3 hb4 (by first | exact hN2 | simpa using hN2) hl10 hl11 hl12
  have H := H.lend 0 rfl
  have H := H.lend 1 rfl
  have H := H.lend 2 rfl
  refine aL hf H TF.zv37 fun b3 a w hf H => ?_
  refine sB 0 hf H TF.sz37 fun w H => ?_
  refine wr (lN 0 hf H TF.la37 fun a hf => ?_)
  obtain ⟨y5, hy5, hF⟩ := bs_ hF
  refine oc hf TF.cl15 (impl_CompactPlan_ok (S := TT) (Plan_mkv (x := y4) (H.rt 2 rfl) (H.rt 1 rfl) (H.rt 0 rfl)) hy5) fun v7 w a hp9 hf => ?_
  obtain ⟨hb5, F10, v8, v9, rfl, hp10, hp11, hN3⟩ := hp9
  obtain ⟨A13, c13, F11, A14, c14, F12, A15, c15, F13, rfl, rfl, hl13, hl14, hl15⟩ := Plan_vo hp10
  obtain rfl := VR_bool hp11
  have H := H.aO3 hb5 (by first | exact hN3 | simpa using hN3) hl13 hl14 hl15
  have H := H.lend 0 rfl
  have H := H.lend 1 rfl
  have H := H.lend 2 rfl
  refine pz 3 hf fun a hf => ?_
  refine aL hf H TF.zv37 fun b4 a w hf H => ?_
  refine sB 0 hf H TF.sz37 fun w H => ?_
  refine pz 1 hf fun a hf => ?_
  refine wl_end (then_n (sq (sq ?_)))
  obtain ⟨c16, hGc16, hF⟩ := bs_ hF
  have fh := hf.prune [1, 4, 5, 6, 7, 8] rfl
  have Hm := H.lt_ [true, true, true, true] [] [true, true, true, true, true, true, true, false, false, false] [0, 1, 2, 3, 4, 5, 6, 7, 8, 12, 13, 14]
  refine midF 40 (.bool c16) fh Hm ?_ fun a w hf H => ?_
  ·refine reg (lN 0 hf H TF.la37 fun a hf => ?_)
   refine lN 2 hf H TF.la37 fun a hf => ?_
   obtain ⟨y6, hy6, hGc16⟩ := bs_ hGc16
   refine oc hf TF.cl13 (laws_eqPlan_ok (S := TT) (Plan_mkv (x := y5.1) (H.rt 2 rfl) (H.rt 1 rfl) (H.rt 0 rfl)) (Plan_mkv (x := y3.1) (H.rt 8 rfl) (H.rt 7 rfl) (H.rt 6 rfl)) hy6) fun v10 w a hp12 hf => ?_
   obtain ⟨hb6, hp12⟩ := hp12
   obtain rfl := VR_bool hp12
   have H := H.keep hb6
   refine pz 2 hf fun a hf => ?_
   refine iteB hGc16 (fun hc2 hGc16 => ?_) fun hc2 hGc16 => ?_
   ·have hf := hf.lit 36 rfl hc2
    refine pz 4 hf fun a hf => ?_
    obtain rfl := oi hGc16
    have hf := hf.pn [40, 1, 4, 5, 6, 7, 8]
    have H := H.lt_ [true, true, true, true] [] [true, true, true, true, true, true, true, false, false, false] [0, 1, 2, 3, 4, 5, 6, 7, 8, 12, 13, 14]
    exact wl_end ⟨hf, H⟩
   ·have hf := hf.lit 36 rfl hc2
    refine pz 4 hf fun a hf => ?_
    obtain rfl := oi hGc16
    have hf := hf.pn [40, 1, 4, 5, 6, 7, 8]
    have H := H.lt_ [true, true, true, true] [] [true, true, true, true, true, true, true, false, false, false] [0, 1, 2, 3, 4, 5, 6, 7, 8, 12, 13, 14]
    exact wl_end ⟨hf, H⟩
  refine then_n (ib hF hf (fun hc3 hF => ?_) fun hc3 hF => ?_)
  ·refine sqz (pz 1 hf fun a hf => ?_)
   refine wl_end (then_n (wp_ret (then_r (?_))))
   obtain rfl := oi hF
   refine rT hf ?_
   exact ⟨_, rfl, H.bel, mk_bool⟩
  ·refine wp_skip (then_n (sq (sq (dw [] 5 fun w hb => ?_))))
   have H := H.keep hb
   refine strT (H.lt_ [false, true, false, false] [] [false, false, false, false, false, false, false] []) (fun w H => trivial) fun hS => ?_
   refine zS 0 [] rfl rfl rfl rfl hf hS (fun w H => rq_loadBN hf H TF.la37 0 rfl rfl rfl rfl) fun a hf => ?_
   refine strT (H.lt_ [false, true, false, true] [] [false, false, false, false, false, false, false] []) (fun w H => H.lt_ [true, false] [] [] []) fun hS => ?_
   refine zS 1 [] rfl rfl rfl rfl hf hS (fun w H => rq_loadBN hf H TF.la28 1 rfl rfl rfl rfl) fun a hf => ?_
   obtain ⟨y7, hy7, hF⟩ := bs_ hF
   refine nn 2 rfl (oC hf TF.cl11 (laws_toPlan_ok (S := TT) (Plan_mkv (x := aP) (H.rt 11 rfl) (H.rt 10 rfl) (H.rt 9 rfl)) hy7) fun v11 w a hp13 hf => ?_)
   obtain ⟨hb7, F14, hp14, hN4⟩ := hp13
   obtain ⟨A16, c17, F15, A17, c18, F16, A18, c19, F17, rfl, rfl, hl16, hl17, hl18⟩ := Plan_vo hp14
   have H := H.aO3 hb7 (by first | exact hN4 | simpa using hN4) hl16 hl17 hl18
   have H := H.lend 0 rfl
   have H := H.lend 1 rfl
   have H := H.lend 2 rfl
   have hS := H.lt_ [false, true, false, true] [] [false, false, false, false, false, false, false, false, false, false] []
   refine aS hS ?_
   obtain ⟨y8, hy8, hF⟩ := bs_ hF
   refine nn 3 rfl (oC hf TF.cl13 (laws_eqPlan_ok (S := TT) (Plan_mkv (x := y4) (H.rt 8 rfl) (H.rt 7 rfl) (H.rt 6 rfl)) (Plan_mkv (x := y7) (H.rt 2 rfl) (H.rt 1 rfl) (H.rt 0 rfl)) hy8) fun v12 w a hp15 hf => ?_)
   obtain ⟨hb8, hp15⟩ := hp15
   obtain rfl := VR_bool hp15
   have H := H.keep hb8
   have hS := H.lt_ [false, true, false, true] [] [false, false, false, false, false, false, false, false, false, false] []
   refine aS hS ?_
   refine zp 4 hf hS fun a hf => ?_
   refine dk ?_
   refine then_n (ib hF hf (fun hc4 hF => ?_) fun hc4 hF => ?_)
   ·refine sqz (pz 1 hf fun a hf => ?_)
    refine wl_end (then_n (wp_ret (then_r (?_))))
    obtain rfl := oi hF
    refine rT hf ?_
    exact ⟨_, rfl, H.bel, mk_bool⟩
   ·refine wp_skip (then_n (sqz (pz 1 hf fun a hf => ?_)))
    refine wr (lN 1 hf H TF.la37 fun a hf => ?_)
    refine pz 1 hf fun a hf => ?_
    have H := H.frontD 8 rfl
    have H := H.frontD 8 rfl
    have H := H.frontD 8 rfl
    have H := H.recast (X := [(⟨F7, MP.own F7 [(.slice A10 y4.Network.Nodes.length c10)] (y4.Network.Nodes : List ByteArray)⟩ : DI), (⟨F8, MP.own F8 [(.slice A11 y4.Network.Fibers.length c11)] (y4.Network.Fibers : List Fiber)⟩ : DI), (⟨F9, MP.own F9 [(.slice A12 y4.Lights.length c12)] (y4.Lights : List Light)⟩ : DI)]) (Y := [(⟨(F7 ++ (F8 ++ F9)), MP.own (F7 ++ (F8 ++ F9)) [(.slice A10 y4.Network.Nodes.length c10), (.slice A11 y4.Network.Fibers.length c11), (.slice A12 y4.Lights.length c12)] (y4 : Plan)⟩ : DI)]) (List.Perm.of_eq (by simp)) fun _ => ps1 (Plan_ownmk (x := y4) (H.ownAt 0 rfl) (H.ownAt 1 rfl) (H.ownAt 2 rfl)) ps0
    obtain ⟨y9, hy9, hF⟩ := bs_ hF
    refine oc hf TF.cl16 (laws_markPlan_ok (S := TT) (F := (F7 ++ (F8 ++ F9))) (cs := [(.slice A10 y4.Network.Nodes.length c10), (.slice A11 y4.Network.Fibers.length c11), (.slice A12 y4.Lights.length c12)]) (H.ownAt 0 rfl) H.diNd.1 mk_int hy9) fun v13 w a hp16 hf => ?_
    obtain ⟨hch, hv, F18, ho, hbk⟩ := hp16
    obtain rfl := VR_int hv
    have H := H.wrote rfl hch ho hbk
    obtain ⟨F19, F20, F21, hFe, hl19, hl20, hl21⟩ := Plan_ownc (H.ownAt 0 rfl)
    have H := H.recast (X := [(⟨F18, MP.own F18 [(.slice A10 y4.Network.Nodes.length c10), (.slice A11 y4.Network.Fibers.length c11), (.slice A12 y4.Lights.length c12)] (y9.2 : Plan)⟩ : DI)]) (Y := [(⟨F19, MP.own F19 [(.slice A10 y4.Network.Nodes.length c10)] (y9.2.Network.Nodes : List ByteArray)⟩ : DI), (⟨F20, MP.own F20 [(.slice A11 y4.Network.Fibers.length c11)] (y9.2.Network.Fibers : List Fiber)⟩ : DI), (⟨F21, MP.own F21 [(.slice A12 y4.Lights.length c12)] (y9.2.Lights : List Light)⟩ : DI)]) (List.Perm.of_eq (by simp [hFe])) fun _ => (ps1 hl19 (ps1 hl20 (ps1 hl21 ps0)))
    have H := H.pA hl
    have H := H.pA hl2
    have H := H.pA hl3
    have H := H.lend 0 rfl
    have H := H.lend 1 rfl
    have H := H.lend 2 rfl
    have H := H.lend 3 rfl
    have H := H.lend 4 rfl
    have H := H.lend 5 rfl
    have H := H.lend 6 rfl
    have H := H.lend 7 rfl
    have H := H.lend 8 rfl
    have H := H.lendQ 9 (q := MP.val [(.slice A7 y3.1.Network.Nodes.length c7)] (y3.1.Network.Nodes : List ByteArray)) rfl fun _ _ h => h.1
    have H := H.lendQ 9 (q := MP.val [(.slice A8 y3.1.Network.Fibers.length c8)] (y3.1.Network.Fibers : List Fiber)) rfl fun _ _ h => h.2.1
    have H := H.lendQ 9 (q := MP.val [(.slice A9 y3.1.Lights.length c9)] (y3.1.Lights : List Light)) rfl fun _ _ h => h.2.2
    refine pz 1 hf fun a hf => ?_
    refine wl_end (then_n (sq (sq ?_)))
    obtain ⟨c20, hGc20, hF⟩ := bs_ hF
    have fh2 := hf.prune [1, 4, 5, 7] rfl
    have Hm2 := H.lt_ [true, false, true, true] [] [false, false, false, false, false, false, true, true, true, true] [0, 1, 2, 3, 4, 5, 12, 13, 14]
    refine midF 61 (.bool c20) fh2 Hm2 ?_ fun a w hf H => ?_
    ·refine reg (pz 3 hf fun a hf => ?_)
     refine iteB hGc20 (fun hc5 hGc20 => ?_) fun hc5 hGc20 => ?_
     ·have hf := hf.lit 51 rfl hc5
      refine pz 10 hf fun a hf => ?_
      obtain rfl := oi hGc20
      have hf := hf.pn [61, 1, 4, 5, 7]
      have H := H.lt_ [true, false, true, true] [] [false, false, false, false, false, false, true, true, true, true] [0, 1, 2, 3, 4, 5, 12, 13, 14]
      exact wl_end ⟨hf, H⟩
     ·have hf := hf.lit 51 rfl hc5
      refine wlg hf rfl rfl rfl (op_q hf (rq_loadBN hf H TF.la37 0 rfl rfl rfl rfl) rfl (by decide) fun a hf => ?_)
      refine wlg hf rfl rfl rfl (op_q hf (rq_loadBN hf H TF.la37 2 rfl rfl rfl rfl) rfl (by decide) fun a hf => ?_)
      obtain ⟨y10, hy10, hGc20⟩ := bs_ hGc20
      refine wlg hf rfl rfl rfl (oC hf TF.cl13 (laws_eqPlan_ok (S := TT) (Plan_mkv (x := y5.1) (H.rt 5 rfl) (H.rt 4 rfl) (H.rt 3 rfl)) (Plan_mkv (x := y3.1) (H.rt 2 rfl) (H.rt 1 rfl) (H.rt 0 rfl)) hy10) fun v14 w a hp17 hf => ?_)
      obtain ⟨hb9, hp17⟩ := hp17
      obtain rfl := VR_bool hp17
      have H := H.keep hb9
      refine pz 3 hf fun a hf => ?_
      refine iteB hGc20 (fun hc6 hGc20 => ?_) fun hc6 hGc20 => ?_
      ·have hf := hf.lit 57 rfl hc6
       refine pz 4 hf fun a hf => ?_
       obtain rfl := oi hGc20
       have hf := hf.pn [61, 1, 4, 5, 7]
       have H := H.lt_ [true, false, true, true] [] [false, false, false, false, false, false, true, true, true, true] [0, 1, 2, 3, 4, 5, 12, 13, 14]
       exact wl_end ⟨hf, H⟩
      ·have hf := hf.lit 57 rfl hc6
       refine pz 4 hf fun a hf => ?_
       obtain rfl := oi hGc20
       have hf := hf.pn [61, 1, 4, 5, 7]
       have H := H.lt_ [true, false, true, true] [] [false, false, false, false, false, false, true, true, true, true] [0, 1, 2, 3, 4, 5, 12, 13, 14]
       exact wl_end ⟨hf, H⟩
    refine then_n (ib hF hf (fun hc7 hF => ?_) fun hc7 hF => ?_)
    ·refine sqz (pz 1 hf fun a hf => ?_)
     refine wl_end (then_n (wp_ret (then_r (?_))))
     obtain rfl := oi hF
     refine rT hf ?_
     exact ⟨_, rfl, H.bel, mk_bool⟩
    ·refine wp_skip (then_n (sqz (pz 1 hf fun a hf => ?_)))
     refine wr (lN 0 hf H TF.la37 fun a hf => ?_)
     refine pz 1 hf fun a hf => ?_
     have H := H.frontD 2 rfl
     have H := H.frontD 2 rfl
     have H := H.frontD 2 rfl
     have H := H.recast (X := [(⟨F11, MP.own F11 [(.slice A13 y5.1.Network.Nodes.length c13)] (y5.1.Network.Nodes : List ByteArray)⟩ : DI), (⟨F12, MP.own F12 [(.slice A14 y5.1.Network.Fibers.length c14)] (y5.1.Network.Fibers : List Fiber)⟩ : DI), (⟨F13, MP.own F13 [(.slice A15 y5.1.Lights.length c15)] (y5.1.Lights : List Light)⟩ : DI)]) (Y := [(⟨(F11 ++ (F12 ++ F13)), MP.own (F11 ++ (F12 ++ F13)) [(.slice A13 y5.1.Network.Nodes.length c13), (.slice A14 y5.1.Network.Fibers.length c14), (.slice A15 y5.1.Lights.length c15)] (y5.1 : Plan)⟩ : DI)]) (List.Perm.of_eq (by simp)) fun _ => ps1 (Plan_ownmk (x := y5.1) (H.ownAt 0 rfl) (H.ownAt 1 rfl) (H.ownAt 2 rfl)) ps0
     obtain ⟨y11, hy11, hF⟩ := bs_ hF
     refine oc hf TF.cl16 (laws_markPlan_ok (S := TT) (F := (F11 ++ (F12 ++ F13))) (cs := [(.slice A13 y5.1.Network.Nodes.length c13), (.slice A14 y5.1.Network.Fibers.length c14), (.slice A15 y5.1.Lights.length c15)]) (H.ownAt 0 rfl) H.diNd.1 mk_int hy11) fun v15 w a hp18 hf => ?_
     obtain ⟨hch2, hv2, F22, ho2, hbk2⟩ := hp18
     obtain rfl := VR_int hv2
     have H := H.wrote rfl hch2 ho2 hbk2
     obtain ⟨F23, F24, F25, hFe2, hl22, hl23, hl24⟩ := Plan_ownc (H.ownAt 0 rfl)
     have H := H.recast (X := [(⟨F22, MP.own F22 [(.slice A13 y5.1.Network.Nodes.length c13), (.slice A14 y5.1.Network.Fibers.length c14), (.slice A15 y5.1.Lights.length c15)] (y11.2 : Plan)⟩ : DI)]) (Y := [(⟨F23, MP.own F23 [(.slice A13 y5.1.Network.Nodes.length c13)] (y11.2.Network.Nodes : List ByteArray)⟩ : DI), (⟨F24, MP.own F24 [(.slice A14 y5.1.Network.Fibers.length c14)] (y11.2.Network.Fibers : List Fiber)⟩ : DI), (⟨F25, MP.own F25 [(.slice A15 y5.1.Lights.length c15)] (y11.2.Lights : List Light)⟩ : DI)]) (List.Perm.of_eq (by simp [hFe2])) fun _ => (ps1 hl22 (ps1 hl23 (ps1 hl24 ps0)))
     have H := H.pA hl
     have H := H.pA hl2
     have H := H.pA hl3
     have H := H.lend 0 rfl
     have H := H.lend 1 rfl
     have H := H.lend 2 rfl
     have H := H.lendQ 3 (q := MP.val [(.slice A7 y3.1.Network.Nodes.length c7)] (y3.1.Network.Nodes : List ByteArray)) rfl fun _ _ h => h.1
     have H := H.lendQ 3 (q := MP.val [(.slice A8 y3.1.Network.Fibers.length c8)] (y3.1.Network.Fibers : List Fiber)) rfl fun _ _ h => h.2.1
     have H := H.lendQ 3 (q := MP.val [(.slice A9 y3.1.Lights.length c9)] (y3.1.Lights : List Light)) rfl fun _ _ h => h.2.2
     refine pz 1 hf fun a hf => ?_
     refine wr (pz 1 hf fun a hf => ?_)
     refine wr (lN 0 hf H TF.la37 fun a hf => ?_)
     refine pz 1 hf fun a hf => ?_
     obtain ⟨y12, hy12, hF⟩ := bs_ hF
     refine oc hf TF.cl17 (laws_heldPlan_ok (S := TT) (Plan_mkv (x := y11.2) (H.rt 5 rfl) (H.rt 4 rfl) (H.rt 3 rfl)) mk_int hy12) fun v16 w a hp19 hf => ?_
     obtain ⟨hb10, hp19⟩ := hp19
     obtain rfl := VR_int hp19
     have H := H.keep hb10
     refine pz 1 hf fun a hf => ?_
     refine we (sqz (pz 2 hf fun a hf => ?_))
     refine wl_end (then_n (ib hF hf (fun hc8 hF => ?_) fun hc8 hF => ?_))
     ·refine sqz (pz 1 hf fun a hf => ?_)
      have hf := hf.pn [2]
      refine wl_end (then_n (wp_ret (then_r (?_))))
      obtain rfl := oi hF
      refine rT hf ?_
      exact ⟨_, rfl, H.bel, mk_bool⟩
     ·refine wp_skip (then_n (sq (sqz (pz 3 hf fun a hf => ?_))))
      refine wl_end (then_n (ib hF hf (fun hc9 hF => ?_) fun hc9 hF => ?_))
      ·refine sqz (pz 1 hf fun a hf => ?_)
       have hf := hf.pn [2]
       refine wl_end (then_n (wp_ret (then_r (?_))))
       obtain rfl := oi hF
       refine rT hf ?_
       exact ⟨_, rfl, H.bel, mk_bool⟩
      ·refine wp_skip (then_n (sq (reg (lN 2 hf H TF.la28 fun a hf => ?_))))
       obtain ⟨y13, hy13, hF⟩ := bs_ hF
       refine oc hf TF.cl11 (laws_toPlan_ok (S := TT) (Plan_mkv (x := aP) (H.rt 8 rfl) (H.rt 7 rfl) (H.rt 6 rfl)) hy13) fun v17 w a hp20 hf => ?_
       obtain ⟨hb11, F26, hp21, hN5⟩ := hp20
       obtain ⟨A19, c21, F27, A20, c22, F28, A21, c23, F29, rfl, rfl, hl25, hl26, hl27⟩ := Plan_vo hp21
       have H := H.aO3 hb11 (by first | exact hN5 | simpa using hN5) hl25 hl26 hl27
       have H := H.lend 0 rfl
       have H := H.lend 1 rfl
       have H := H.lend 2 rfl
       obtain ⟨y14, hy14, hF⟩ := bs_ hF
       refine oc hf TF.cl15 (impl_CompactPlan_ok (S := TT) (Plan_mkv (x := y13) (H.rt 2 rfl) (H.rt 1 rfl) (H.rt 0 rfl)) hy14) fun v18 w a hp22 hf => ?_
       obtain ⟨hb12, F30, v19, v20, rfl, hp23, hp24, hN6⟩ := hp22
       obtain ⟨A22, c24, F31, A23, c25, F32, A24, c26, F33, rfl, rfl, hl28, hl29, hl30⟩ := Plan_vo hp23
       obtain rfl := VR_bool hp24
       have H := H.aO3 hb12 (by first | exact hN6 | simpa using hN6) hl28 hl29 hl30
       have H := H.lend 0 rfl
       have H := H.lend 1 rfl
       have H := H.lend 2 rfl
       refine pz 3 hf fun a hf => ?_
       refine aL hf H TF.zv37 fun b5 a w hf H => ?_
       refine sB 0 hf H TF.sz37 fun w H => ?_
       refine pz 1 hf fun a hf => ?_
       have hf := hf.pn [4, 5, 7, 10, 12, 13]
       refine wl_end (then_n (sq (sq ?_)))
       obtain ⟨c27, hGc27, hF⟩ := bs_ hF
       have fh3 := hf.prune [7, 10] rfl
       have Hm3 := H.lt_ [false, true, false, false] [] [false, false, false, false, false, false, true, true, true, false] [9, 10, 11]
       refine midF 87 (.bool c27) fh3 Hm3 ?_ fun a w hf H => ?_
       ·refine reg (lN 0 hf H TF.la37 fun a hf => ?_)
        refine lN 2 hf H TF.la37 fun a hf => ?_
        obtain ⟨y15, hy15, hGc27⟩ := bs_ hGc27
        refine oc hf TF.cl13 (laws_eqPlan_ok (S := TT) (Plan_mkv (x := y14.1) (H.rt 2 rfl) (H.rt 1 rfl) (H.rt 0 rfl)) (Plan_mkv (x := y3.1) (H.rt 8 rfl) (H.rt 7 rfl) (H.rt 6 rfl)) hy15) fun v21 w a hp25 hf => ?_
        obtain ⟨hb13, hp25⟩ := hp25
        obtain rfl := VR_bool hp25
        have H := H.keep hb13
        refine pz 2 hf fun a hf => ?_
        refine iteB hGc27 (fun hc10 hGc27 => ?_) fun hc10 hGc27 => ?_
        ·have hf := hf.lit 83 rfl hc10
         refine pz 4 hf fun a hf => ?_
         obtain rfl := oi hGc27
         have hf := hf.pn [87, 7, 10]
         have H := H.lt_ [false, true, false, false] [] [false, false, false, false, false, false, true, true, true, false] [9, 10, 11]
         exact wl_end ⟨hf, H⟩
        ·have hf := hf.lit 83 rfl hc10
         refine pz 4 hf fun a hf => ?_
         obtain rfl := oi hGc27
         have hf := hf.pn [87, 7, 10]
         have H := H.lt_ [false, true, false, false] [] [false, false, false, false, false, false, true, true, true, false] [9, 10, 11]
         exact wl_end ⟨hf, H⟩
       refine then_n (ib hF hf (fun hc11 hF => ?_) fun hc11 hF => ?_)
       ·refine sqz (pz 1 hf fun a hf => ?_)
        refine wl_end (then_n (wp_ret (then_r (?_))))
        obtain rfl := oi hF
        refine rT hf ?_
        exact ⟨_, rfl, H.bel, mk_bool⟩
       ·refine wp_skip (then_n (sqz (pz 1 hf fun a hf => ?_)))
        refine wr (lN 0 hf H TF.la37 fun a hf => ?_)
        refine pz 1 hf fun a hf => ?_
        obtain ⟨y16, hy16, hF⟩ := bs_ hF
        refine oc hf TF.cl17 (laws_heldPlan_ok (S := TT) (Plan_mkv (x := y11.2) (H.rt 2 rfl) (H.rt 1 rfl) (H.rt 0 rfl)) mk_int hy16) fun v22 w a hp26 hf => ?_
        obtain ⟨hb14, hp26⟩ := hp26
        obtain rfl := VR_int hp26
        have H := H.keep hb14
        refine pz 1 hf fun a hf => ?_
        refine we (sqz (pz 2 hf fun a hf => ?_))
        refine wl_end (then_n (ib hF hf (fun hc12 hF => ?_) fun hc12 hF => ?_))
        ·refine sqz (pz 1 hf fun a hf => ?_)
         refine wl_end (then_n (wp_ret (then_r (?_))))
         obtain rfl := oi hF
         refine rT hf ?_
         exact ⟨_, rfl, H.bel, mk_bool⟩
        ·refine wp_skip (then_n (sq (sqz (pz 3 hf fun a hf => ?_))))
         refine wl_end (then_n (ib hF hf (fun hc13 hF => ?_) fun hc13 hF => ?_))
         ·refine sqz (pz 1 hf fun a hf => ?_)
          refine wl_end (then_n (wp_ret (then_r (?_))))
          obtain rfl := oi hF
          refine rT hf ?_
          exact ⟨_, rfl, H.bel, mk_bool⟩
         ·refine wp_skip (then_n (sqz (pz 1 hf fun a hf => ?_)))
          refine wer ?_
          obtain rfl := oi hF
          refine rT hf ?_
          exact ⟨_, rfl, H.bel, mk_bool⟩
end AT
