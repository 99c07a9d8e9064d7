/- The Go functions do what is told of them, by program (gen.py). -/
import Derived.Test.YtmokfdffnijbbaaGreatWC1
set_option linter.unusedVariables false
set_option linter.unusedSimpArgs false
set_option maxRecDepth 100000
set_option maxHeartbeats 1000000
namespace AT
open Go Go.RowKit Go.Proofs
variable {fu : Nat} {w0 : World}
theorem laws_szStringS_ok {S : Nat → Prop} {v0_ : Value} {v1_ : Value} {a' : List ByteArray} {left : Int} {r : Int} (h0 : VR w0 S v0_ a') (h1 : VR w0 S v1_ left) (hF : laws_szStringS fu a' left = some r) :
    Calls Tryz.prog 110 [v0_, v1_].toArray w0 fun e w' => ∃ v, e = .returned v ∧ (Below w0.heap.size w0 w' ∧ VR w' (St ⟨w0, []⟩ S [] [] [] true) v r) := by
 obtain ⟨A, c, rfl, hl⟩ := VR_list h0
 obtain rfl := VR_int h1
 have H := Mem.start ⟨w0, []⟩ S
 have H := H.pA hl
 refine en Tryz.func110 fun a hf => ?_
 rw [laws_szStringS] at hF
 refine sqz (pz 1 hf fun a hf => ?_)
 refine wr (pz 5 hf fun a hf => ?_)
 refine we (sqz (pz 2 hf fun a hf => ?_))
 refine wl_end (then_n (ib hF hf (fun hc hF => ?_) fun hc hF => ?_))
 ·refine sqz (pz 1 hf fun a hf => ?_)
  refine wl_end (then_n (wp_ret (then_r (?_))))
  obtain rfl := oi hF
  refine rT hf ?_
  exact ⟨_, rfl, H.bel, mk_int⟩
 ·refine wp_skip (then_n (sq (sqz (pz 1 hf fun a hf => ?_))))
  refine wl_end (then_n ?_)
  obtain ⟨out', hB1, hF⟩ := bs_ hF
  have hf := hf.pn [0, 1, 5]
  have H := H.lt_ [] [] [] [0]
  refine loopC (fun (s : Int × Int) (a : Act) (w : World) => match s with | (left2, i) => Fr a 28 [(0, (.slice A a'.length c)), (1, (.int .i64 left2)), (5, (.int .i64 i))] ∧ Mem ⟨w0, []⟩ S [] [] [] [(false, MP.val [(.slice A a'.length c)] (a' : List ByteArray))] w) (fun k (s : Int × Int) => laws_szStringS_L1 fu a' k s.1 s.2 = some out') (fun s => out' = Out.next s) (w64 (left - (a'.length : Int)), 0) fu hB1 ⟨hf, H⟩ (fun s h => by cases h) ?_ ?_
  ·rintro fk ⟨left2, i⟩ a w hR1 hI
   replace hR1 : laws_szStringS_L1 fu a' (fk + 1) left2 i = some out' := hR1
   rw [laws_szStringS_L1] at hR1
   obtain ⟨hf, H⟩ := hI
   refine sq (sqz (pz 4 hf fun a hf => ?_))
   refine wl_end (then_n (ib hR1 hf (fun hc2 hR1 => ?_) fun hc2 hR1 => ?_))
   ·refine ws (pz 3 hf fun a hf => ?_)
    obtain ⟨e, he, hR1⟩ := bs_ hR1
    refine wl0 rfl (op_iaddr hf H Tryz.underlying22 TF.sz9 0 rfl rfl rfl he (by decide) fun p o cs a hf hr H => ?_)
    obtain rfl := hr
    refine oq hf (rq_loadI hf H TF.ls9 0 0 rfl rfl rfl) fun a hf => ?_
    refine pz 3 hf fun a hf => ?_
    refine wr (pz 2 hf fun a hf => ?_)
    refine wl_end (then_n (ib hR1 hf (fun hc3 hR1 => ?_) fun hc3 hR1 => ?_))
    ·refine sqz (pz 1 hf fun a hf => ?_)
     have hf := hf.pn [4]
     refine wl_end (then_n (wp_ret (blk_r (then_r (then_r (blk_r (then_r (then_r (?_)))))))))
     obtain rfl := oi hR1
     replace hF := on_ret hF
     obtain rfl := oi hF
     refine rT hf ?_
     exact ⟨_, rfl, H.bel, mk_int⟩
    ·refine wp_skip (blk_n (then_n (reg (pz 3 hf fun a hf => ?_))))
     have hf := hf.pn [0, 1, 5]
     refine wl_end ?_
     have hf := hf.pn [0, 1, 5]
     have H := H.lt_ [] [] [] [1]
     exact then_n ⟨(w64 (left2 - (e.size : Int)), w64 (i + 1)), hR1, hf, H⟩
   ·refine wp_exit (then_x (then_x (blk_e (?_))))
    have hf := hf.pn [0, 1, 5]
    have H := H.lt_ [] [] [] [0]
    exact ⟨(left2, i), (Option.some.inj hR1).symm, hf, H⟩
  rintro a w ⟨⟨left3, i2⟩, rfl, hf, H⟩
  replace hF := on_next hF
  try dsimp only at hF
  refine then_n (sqz (pz 2 hf fun a hf => ?_))
  refine wer ?_
  obtain rfl := oi hF
  refine rT hf ?_
  exact ⟨_, rfl, H.bel, mk_int⟩
theorem laws_szFiberS_ok {S : Nat → Prop} {v0_ : Value} {v1_ : Value} {a' : List Fiber} {left : Int} {r : Int} (h0 : VR w0 S v0_ a') (h1 : VR w0 S v1_ left) (hF : laws_szFiberS fu a' left = some r) :
    Calls Tryz.prog 111 [v0_, v1_].toArray w0 fun e w' => ∃ v, e = .returned v ∧ (Below w0.heap.size w0 w' ∧ VR w' (St ⟨w0, []⟩ S [] [] [] true) v r) := by
 obtain ⟨A, c, rfl, hl⟩ := VR_list h0
 obtain rfl := VR_int h1
 have H := Mem.start ⟨w0, []⟩ S
 have H := H.pA hl
 refine en Tryz.func111 fun a hf => ?_
 rw [laws_szFiberS] at hF
 refine sqz (pz 1 hf fun a hf => ?_)
 refine wr (pz 5 hf fun a hf => ?_)
 refine we (sqz (pz 2 hf fun a hf => ?_))
 refine wl_end (then_n (ib hF hf (fun hc hF => ?_) fun hc hF => ?_))
 ·refine sqz (pz 1 hf fun a hf => ?_)
  refine wl_end (then_n (wp_ret (then_r (?_))))
  obtain rfl := oi hF
  refine rT hf ?_
  exact ⟨_, rfl, H.bel, mk_int⟩
 ·refine wp_skip (then_n (sqz (pz 2 hf fun a hf => ?_)))
  refine wer ?_
  obtain rfl := oi hF
  refine rT hf ?_
  exact ⟨_, rfl, H.bel, mk_int⟩
theorem laws_szNetwork_ok {S : Nat → Prop} {v0_ : Value} {v1_ : Value} {a' : Network} {left : Int} {r : Int} (h0 : VR w0 S v0_ a') (h1 : VR w0 S v1_ left) (hF : laws_szNetwork fu a' left = some r) :
    Calls Tryz.prog 47 [v0_, v1_].toArray w0 fun e w' => ∃ v, e = .returned v ∧ (Below w0.heap.size w0 w' ∧ VR w' (St ⟨w0, []⟩ S [] [] [] true) v r) := by
 obtain ⟨A, c, A2, c2, rfl, hl, hl2⟩ := Network_open h0
 obtain rfl := VR_int h1
 have H := Mem.start ⟨w0, []⟩ S
 have H := H.pA hl
 have H := H.pA hl2
 refine en Tryz.func47 fun a hf => ?_
 rw [laws_szNetwork] at hF
 refine bx hf H fun b' a w hf H => ?_
 refine pz 1 hf fun a hf => ?_
 refine wr (pz 1 hf fun a hf => ?_)
 refine lB 0 hf H TF.ls22 fun a hf => ?_
 refine pz 1 hf fun a hf => ?_
 obtain ⟨y, hy, hF⟩ := bs_ hF
 refine oc hf TF.cl110 (laws_szStringS_ok (S := TT) (mk_list (H.rt 1 rfl)) mk_int hy) fun v w a hp hf => ?_
 obtain ⟨hb, hp⟩ := hp
 obtain rfl := VR_int hp
 have H := H.keep hb
 refine pz 1 hf fun a hf => ?_
 refine we (sqz (pz 2 hf fun a hf => ?_))
 refine wl_end (then_n (ib hF hf (fun hc hF => ?_) fun hc hF => ?_))
 ·refine sqz (pz 1 hf fun a hf => ?_)
  refine wl_end (then_n (wp_ret (then_r (?_))))
  obtain rfl := oi hF
  refine rT hf ?_
  exact ⟨_, rfl, H.bel, mk_int⟩
 ·refine wp_skip (then_n (sqz (pz 1 hf fun a hf => ?_)))
  refine lB 0 hf H TF.ls23 fun a hf => ?_
  refine pz 1 hf fun a hf => ?_
  obtain ⟨y2, hy2, hF⟩ := bs_ hF
  refine oc hf TF.cl111 (laws_szFiberS_ok (S := TT) (mk_list (H.rt 0 rfl)) mk_int hy2) fun v2 w a hp2 hf => ?_
  obtain ⟨hb2, hp2⟩ := hp2
  obtain rfl := VR_int hp2
  have H := H.keep hb2
  refine pz 1 hf fun a hf => ?_
  have hf := hf.pn [1]
  refine we (sqz (pz 2 hf fun a hf => ?_))
  refine wl_end (then_n (ib hF hf (fun hc2 hF => ?_) fun hc2 hF => ?_))
  ·refine sqz (pz 1 hf fun a hf => ?_)
   refine wl_end (then_n (wp_ret (then_r (?_))))
   obtain rfl := oi hF
   refine rT hf ?_
   exact ⟨_, rfl, H.bel, mk_int⟩
  ·refine wp_skip (then_n (sqz (pz 2 hf fun a hf => ?_)))
   refine wer ?_
   obtain rfl := oi hF
   refine rT hf ?_
   exact ⟨_, rfl, H.bel, mk_int⟩
theorem laws_szIntS_ok {S : Nat → Prop} {v0_ : Value} {v1_ : Value} {a' : List Int} {left : Int} {r : Int} (h0 : VR w0 S v0_ a') (h1 : VR w0 S v1_ left) (hF : laws_szIntS fu a' left = some r) :
    Calls Tryz.prog 229 [v0_, v1_].toArray w0 fun e w' => ∃ v, e = .returned v ∧ (Below w0.heap.size w0 w' ∧ VR w' (St ⟨w0, []⟩ S [] [] [] true) v r) := by
 obtain ⟨A, c, rfl, hl⟩ := VR_list h0
 obtain rfl := VR_int h1
 have H := Mem.start ⟨w0, []⟩ S
 have H := H.pA hl
 refine en Tryz.func229 fun a hf => ?_
 rw [laws_szIntS] at hF
 refine sqz (pz 1 hf fun a hf => ?_)
 refine wr (pz 5 hf fun a hf => ?_)
 refine we (sqz (pz 2 hf fun a hf => ?_))
 refine wl_end (then_n (ib hF hf (fun hc hF => ?_) fun hc hF => ?_))
 ·refine sqz (pz 1 hf fun a hf => ?_)
  refine wl_end (then_n (wp_ret (then_r (?_))))
  obtain rfl := oi hF
  refine rT hf ?_
  exact ⟨_, rfl, H.bel, mk_int⟩
 ·refine wp_skip (then_n (sqz (pz 2 hf fun a hf => ?_)))
  refine wer ?_
  obtain rfl := oi hF
  refine rT hf ?_
  exact ⟨_, rfl, H.bel, mk_int⟩
theorem laws_szRoute_ok {S : Nat → Prop} {v0_ : Value} {v1_ : Value} {a' : Route} {left : Int} {r : Int} (h0 : VR w0 S v0_ a') (h1 : VR w0 S v1_ left) (hF : laws_szRoute fu a' left = some r) :
    Calls Tryz.prog 175 [v0_, v1_].toArray w0 fun e w' => ∃ v, e = .returned v ∧ (Below w0.heap.size w0 w' ∧ VR w' (St ⟨w0, []⟩ S [] [] [] true) v r) := by
 obtain ⟨A, c, rfl, hl⟩ := Route_open h0
 obtain rfl := VR_int h1
 have H := Mem.start ⟨w0, []⟩ S
 have H := H.pA hl
 refine en Tryz.func175 fun a hf => ?_
 rw [laws_szRoute] at hF
 refine bx hf H fun b' a w hf H => ?_
 refine pz 1 hf fun a hf => ?_
 refine wr (pz 1 hf fun a hf => ?_)
 refine lB 0 hf H TF.ls47 fun a hf => ?_
 refine pz 1 hf fun a hf => ?_
 obtain ⟨y, hy, hF⟩ := bs_ hF
 refine oc hf TF.cl229 (laws_szIntS_ok (S := TT) (mk_list (H.rt 0 rfl)) mk_int hy) fun v w a hp hf => ?_
 obtain ⟨hb, hp⟩ := hp
 obtain rfl := VR_int hp
 have H := H.keep hb
 refine pz 1 hf fun a hf => ?_
 refine we (sqz (pz 2 hf fun a hf => ?_))
 refine wl_end (then_n (ib hF hf (fun hc hF => ?_) fun hc hF => ?_))
 ·refine sqz (pz 1 hf fun a hf => ?_)
  refine wl_end (then_n (wp_ret (then_r (?_))))
  obtain rfl := oi hF
  refine rT hf ?_
  exact ⟨_, rfl, H.bel, mk_int⟩
 ·refine wp_skip (then_n (sqz (pz 2 hf fun a hf => ?_)))
  refine wer ?_
  obtain rfl := oi hF
  refine rT hf ?_
  exact ⟨_, rfl, H.bel, mk_int⟩
theorem laws_szLight_ok {S : Nat → Prop} {v0_ : Value} {v1_ : Value} {a' : Light} {left : Int} {r : Int} (h0 : VR w0 S v0_ a') (h1 : VR w0 S v1_ left) (hF : laws_szLight fu a' left = some r) :
    Calls Tryz.prog 112 [v0_, v1_].toArray w0 fun e w' => ∃ v, e = .returned v ∧ (Below w0.heap.size w0 w' ∧ VR w' (St ⟨w0, []⟩ S [] [] [] true) v r) := by
 obtain ⟨A, c, rfl, hl⟩ := Light_open h0
 obtain rfl := VR_int h1
 have H := Mem.start ⟨w0, []⟩ S
 have H := H.pA hl
 refine en Tryz.func112 fun a hf => ?_
 rw [laws_szLight] at hF
 refine bx hf H fun b' a w hf H => ?_
 refine pz 1 hf fun a hf => ?_
 refine wr (pz 1 hf fun a hf => ?_)
 refine lN 0 hf H TF.la149 fun a hf => ?_
 refine pz 1 hf fun a hf => ?_
 obtain ⟨y, hy, hF⟩ := bs_ hF
 refine oc hf TF.cl175 (laws_szRoute_ok (S := TT) (Route_mkv (x := a'.Route) (H.rt 0 rfl)) mk_int hy) fun v w a hp hf => ?_
 obtain ⟨hb, hp⟩ := hp
 obtain rfl := VR_int hp
 have H := H.keep hb
 refine pz 1 hf fun a hf => ?_
 refine we (sqz (pz 2 hf fun a hf => ?_))
 refine wl_end (then_n (ib hF hf (fun hc hF => ?_) fun hc hF => ?_))
 ·refine sqz (pz 1 hf fun a hf => ?_)
  refine wl_end (then_n (wp_ret (then_r (?_))))
  obtain rfl := oi hF
  refine rT hf ?_
  exact ⟨_, rfl, H.bel, mk_int⟩
 ·refine wp_skip (then_n (sqz (pz 2 hf fun a hf => ?_)))
  refine wer ?_
  obtain rfl := oi hF
  refine rT hf ?_
  exact ⟨_, rfl, H.bel, mk_int⟩
theorem laws_szLightS_ok {S : Nat → Prop} {v0_ : Value} {v1_ : Value} {a' : List Light} {left : Int} {r : Int} (h0 : VR w0 S v0_ a') (h1 : VR w0 S v1_ left) (hF : laws_szLightS fu a' left = some r) :
    Calls Tryz.prog 48 [v0_, v1_].toArray w0 fun e w' => ∃ v, e = .returned v ∧ (Below w0.heap.size w0 w' ∧ VR w' (St ⟨w0, []⟩ S [] [] [] true) v r) := by
 obtain ⟨A, c, rfl, hl⟩ := VR_list h0
 obtain rfl := VR_int h1
 have H := Mem.start ⟨w0, []⟩ S
 have H := H.pA hl
 refine en Tryz.func48 fun a hf => ?_
 rw [laws_szLightS] at hF
 refine sqz (pz 1 hf fun a hf => ?_)
 refine wr (pz 5 hf fun a hf => ?_)
 refine we (sqz (pz 2 hf fun a hf => ?_))
 refine wl_end (then_n (ib hF hf (fun hc hF => ?_) fun hc hF => ?_))
 ·refine sqz (pz 1 hf fun a hf => ?_)
  refine wl_end (then_n (wp_ret (then_r (?_))))
  obtain rfl := oi hF
  refine rT hf ?_
  exact ⟨_, rfl, H.bel, mk_int⟩
 ·refine wp_skip (then_n (sq (sqz (pz 1 hf fun a hf => ?_))))
  refine wl_end (then_n ?_)
  obtain ⟨out', hB1, hF⟩ := bs_ hF
  have hf := hf.pn [0, 1, 5]
  have H := H.lt_ [] [] [] [0]
  refine loopC (fun (s : Int × Int) (a : Act) (w : World) => match s with | (left2, i) => Fr a 27 [(0, (.slice A a'.length c)), (1, (.int .i64 left2)), (5, (.int .i64 i))] ∧ Mem ⟨w0, []⟩ S [] [] [] [(false, MP.val [(.slice A a'.length c)] (a' : List Light))] w) (fun k (s : Int × Int) => laws_szLightS_L1 fu a' k s.1 s.2 = some out') (fun s => out' = Out.next s) (w64 (left - (a'.length : Int)), 0) fu hB1 ⟨hf, H⟩ (fun s h => by cases h) ?_ ?_
  ·rintro fk ⟨left2, i⟩ a w hR1 hI
   replace hR1 : laws_szLightS_L1 fu a' (fk + 1) left2 i = some out' := hR1
   rw [laws_szLightS_L1] at hR1
   obtain ⟨hf, H⟩ := hI
   refine sq (sqz (pz 4 hf fun a hf => ?_))
   refine wl_end (then_n (ib hR1 hf (fun hc2 hR1 => ?_) fun hc2 hR1 => ?_))
   ·refine ws (pz 2 hf fun a hf => ?_)
    obtain ⟨e, he, hR1⟩ := bs_ hR1
    refine wl0 rfl (op_iaddr hf H Tryz.underlying26 TF.sz152 0 rfl rfl rfl he (by decide) fun p o cs a hf hr H => ?_)
    obtain ⟨A2, c2, rfl, hl2⟩ := Light_cells hr
    have H := H.pF hl2
    refine oq hf (rq_loadIN hf H TF.la152 1 0 rfl rfl rfl rfl) fun a hf => ?_
    refine pz 1 hf fun a hf => ?_
    obtain ⟨y, hy, hR1⟩ := bs_ hR1
    refine oc hf TF.cl112 (laws_szLight_ok (S := TT) (Light_mkv (x := e) (H.rt 0 rfl)) mk_int hy) fun v w a hp hf => ?_
    obtain ⟨hb, hp⟩ := hp
    obtain rfl := VR_int hp
    have H := H.keep hb
    refine pz 1 hf fun a hf => ?_
    refine wr (pz 2 hf fun a hf => ?_)
    refine wl_end (then_n (ib hR1 hf (fun hc3 hR1 => ?_) fun hc3 hR1 => ?_))
    ·refine sqz (pz 1 hf fun a hf => ?_)
     have hf := hf.pn [4]
     refine wl_end (then_n (wp_ret (blk_r (then_r (then_r (blk_r (then_r (then_r (?_)))))))))
     obtain rfl := oi hR1
     replace hF := on_ret hF
     obtain rfl := oi hF
     refine rT hf ?_
     exact ⟨_, rfl, H.bel, mk_int⟩
    ·refine wp_skip (blk_n (then_n (reg (pz 3 hf fun a hf => ?_))))
     have hf := hf.pn [0, 1, 5]
     refine wl_end ?_
     have hf := hf.pn [0, 1, 5]
     have H := H.lt_ [] [] [] [2]
     exact then_n ⟨(y, w64 (i + 1)), hR1, hf, H⟩
   ·refine wp_exit (then_x (then_x (blk_e (?_))))
    have hf := hf.pn [0, 1, 5]
    have H := H.lt_ [] [] [] [0]
    exact ⟨(left2, i), (Option.some.inj hR1).symm, hf, H⟩
  rintro a w ⟨⟨left3, i2⟩, rfl, hf, H⟩
  replace hF := on_next hF
  try dsimp only at hF
  refine then_n (sqz (pz 2 hf fun a hf => ?_))
  refine wer ?_
  obtain rfl := oi hF
  refine rT hf ?_
  exact ⟨_, rfl, H.bel, mk_int⟩
theorem laws_szPlan_ok {S : Nat → Prop} {v0_ : Value} {v1_ : Value} {a' : Plan} {left : Int} {r : Int} (h0 : VR w0 S v0_ a') (h1 : VR w0 S v1_ left) (hF : laws_szPlan fu a' left = some r) :
    Calls Tryz.prog 9 [v0_, v1_].toArray w0 fun e w' => ∃ v, e = .returned v ∧ (Below w0.heap.size w0 w' ∧ VR w' (St ⟨w0, []⟩ S [] [] [] true) v r) := by
 obtain ⟨A, c, A2, c2, A3, c3, rfl, hl, hl2, hl3⟩ := Plan_open h0
 obtain rfl := VR_int h1
 have H := Mem.start ⟨w0, []⟩ S
 have H := H.pA hl
 have H := H.pA hl2
 have H := H.pA hl3
 refine en Tryz.func9 fun a hf => ?_
 rw [laws_szPlan] at hF
 refine bx hf H fun b' a w hf H => ?_
 refine pz 1 hf fun a hf => ?_
 refine wr (pz 1 hf fun a hf => ?_)
 refine lN 0 hf H TF.la25 fun a hf => ?_
 refine pz 1 hf fun a hf => ?_
 obtain ⟨y, hy, hF⟩ := bs_ hF
 refine oc hf TF.cl47 (laws_szNetwork_ok (S := TT) (Network_mkv (x := a'.Network) (H.rt 2 rfl) (H.rt 1 rfl)) mk_int hy) fun v w a hp hf => ?_
 obtain ⟨hb, hp⟩ := hp
 obtain rfl := VR_int hp
 have H := H.keep hb
 refine pz 1 hf fun a hf => ?_
 refine we (sqz (pz 2 hf fun a hf => ?_))
 refine wl_end (then_n (ib hF hf (fun hc hF => ?_) fun hc hF => ?_))
 ·refine sqz (pz 1 hf fun a hf => ?_)
  refine wl_end (then_n (wp_ret (then_r (?_))))
  obtain rfl := oi hF
  refine rT hf ?_
  exact ⟨_, rfl, H.bel, mk_int⟩
 ·refine wp_skip (then_n (sqz (pz 1 hf fun a hf => ?_)))
  refine lB 0 hf H TF.ls26 fun a hf => ?_
  refine pz 1 hf fun a hf => ?_
  obtain ⟨y2, hy2, hF⟩ := bs_ hF
  refine oc hf TF.cl48 (laws_szLightS_ok (S := TT) (mk_list (H.rt 0 rfl)) mk_int hy2) fun v2 w a hp2 hf => ?_
  obtain ⟨hb2, hp2⟩ := hp2
  obtain rfl := VR_int hp2
  have H := H.keep hb2
  refine pz 1 hf fun a hf => ?_
  have hf := hf.pn [1]
  refine we (sqz (pz 2 hf fun a hf => ?_))
  refine wl_end (then_n (ib hF hf (fun hc2 hF => ?_) fun hc2 hF => ?_))
  ·refine sqz (pz 1 hf fun a hf => ?_)
   refine wl_end (then_n (wp_ret (then_r (?_))))
   obtain rfl := oi hF
   refine rT hf ?_
   exact ⟨_, rfl, H.bel, mk_int⟩
  ·refine wp_skip (then_n (sqz (pz 2 hf fun a hf => ?_)))
   refine wer ?_
   obtain rfl := oi hF
   refine rT hf ?_
   exact ⟨_, rfl, H.bel, mk_int⟩
theorem laws_toStringS_ok {S : Nat → Prop} {v0_ : Value} {a' : List ByteArray} {r : List ByteArray} (h0 : VR w0 S v0_ a') (hF : laws_toStringS fu a' = some r) :
    Calls Tryz.prog 118 [v0_].toArray w0 fun e w' => ∃ v, e = .returned v ∧ (Below w0.heap.size w0 w' ∧ ∃ F0, VO w' F0 v r ∧ New w0 w' F0) := by
 obtain ⟨A, c, rfl, hl⟩ := VR_list h0
 have H := Mem.start ⟨w0, []⟩ S
 have H := H.pA hl
 refine en Tryz.func118 fun a hf => ?_
 rw [laws_toStringS] at hF
 refine sqz (pz 1 hf fun a hf => ?_)
 refine wr (pz 2 hf fun a hf => ?_)
 obtain ⟨l, hl_, hF⟩ := bs_ hF
 refine wl0 rfl (op_make (z0 := (ByteArray.empty : ByteArray)) hf H Tryz.underlying22 TF.ai9 rfl (by decide) rfl rfl rfl hl_ (by decide) fun A2 c2 a w hf H => ?_)
 refine pz 1 hf fun a hf => ?_
 refine we (sqz (pz 1 hf fun a hf => ?_))
 refine wl_end (then_n ?_)
 obtain ⟨out2, hB1, hF⟩ := bs_ hF
 have hf := hf.pn [0, 3, 4]
 have H := H.lt_ [] [true] [] [0]
 refine loopC (fun (s : List ByteArray × Int) (a : Act) (w : World) => match s with | (out', i) => ∃ (A3 : Option Addr) (c3 : Nat) (E : Go.TypeId), Fr a 22 [(0, (.slice A a'.length c)), (3, (.slice A3 out'.length c3)), (4, (.int .i64 i))] ∧ Mem ⟨w0, []⟩ S [] [⟨.sh true, E, A3, c3, (out' : List ByteArray)⟩] [] [(false, MP.val [(.slice A a'.length c)] (a' : List ByteArray))] w) (fun k (s : List ByteArray × Int) => laws_toStringS_L1 fu a' k s.1 s.2 = some out2) (fun s => out2 = s) (l, 0) fu hB1 ⟨A2, c2, 9, hf, H⟩ (fun s h => by cases h) ?_ ?_
 ·rintro fk ⟨out', i⟩ a w hR1 hI
  replace hR1 : laws_toStringS_L1 fu a' (fk + 1) out' i = some out2 := hR1
  rw [laws_toStringS_L1] at hR1
  obtain ⟨A3, c3, E, hf, H⟩ := hI
  refine sq (sqz (pz 4 hf fun a hf => ?_))
  refine wl_end (then_n (ib hR1 hf (fun hc hR1 => ?_) fun hc hR1 => ?_))
  ·refine wp_skip (then_n (sq (wp_block (reg (pz 4 hf fun a hf => ?_)))))
   obtain ⟨e, he, hR1⟩ := bs_ hR1
   refine wl0 rfl (op_iaddr hf H Tryz.underlying22 TF.sz9 0 rfl rfl rfl he (by decide) fun p o cs a hf hr H => ?_)
   obtain rfl := hr
   refine oq hf (rq_loadI hf H TF.ls9 0 0 rfl rfl rfl) fun a hf => ?_
   obtain ⟨e2, he2, hR1⟩ := bs_ hR1
   refine wl0 rfl (op_iaddrR hf H Tryz.underlying22 TF.sz9 0 rfl rfl rfl he2 (by decide) fun p2 o2 cs2 a hf hA hr2 hk => ?_)
   obtain rfl := hr2
   refine wl0 rfl (op_storeR (e' := e) (o := o2) (off := 0) hf H TF.sz9 0 rfl rfl rfl rfl rfl (nle rfl) rfl hA he2 (st_full rfl) fun w H => ?_)
   replace hf : Fr a 22 [(0, (.slice A a'.length c)), (3, (.slice A3 out'.length c3)), (4, (.int .i64 i)), (14, (.slice A3 out'.length c3)), (15, (.int .i64 i)), (16, (.slice A a'.length c)), (17, (.int .i64 i)), (18, (.pointer (some ⟨p, o + 0, none⟩))), (19, (.string e)), (20, (.pointer (some ⟨p2, o2 + 0, none⟩)))] := hf.prune [0, 3, 4, 14, 15, 16, 17, 18, 19, 20] rfl
   replace hf : Fr a 22 [(0, (.slice A a'.length c)), (3, (.slice A3 (out'.set (i : Int).toNat e).length c3)), (4, (.int .i64 i)), (14, (.slice A3 (out'.set (i : Int).toNat e).length c3)), (15, (.int .i64 i)), (16, (.slice A a'.length c)), (17, (.int .i64 i)), (18, (.pointer (some ⟨p, o + 0, none⟩))), (19, (.string e)), (20, (.pointer (some ⟨p2, o2 + 0, none⟩)))] := by simpa only [List.length_set, Nat.add_zero] using hf
   refine wl_end (blk_n (then_n (reg (pz 3 hf fun a hf => ?_))))
   refine wl_end ?_
   have hf := hf.pn [0, 3, 4]
   have H := H.lt_ [] [true] [] [1]
   exact then_n ⟨(out'.set (i : Int).toNat e, w64 (i + 1)), hR1, A3, c3, E, hf, H⟩
  ·refine wp_exit (then_x (then_x (blk_e (?_))))
   have hf := hf.pn [0, 3, 4]
   have H := H.lt_ [] [true] [] [0]
   exact ⟨(out', i), (Option.some.inj hR1).symm, A3, c3, E, hf, H⟩
 rintro a w ⟨⟨out3, i2⟩, rfl, A4, c4, E2, hf, H⟩
 try dsimp only at hF
 refine then_n (sqz (pz 2 hf fun a hf => ?_))
 refine wer ?_
 have H := H.rowOwn 0 rfl rfl
 obtain ⟨F, H⟩ := H.freezeOwn 0 rfl
 have H := H.lend 0 rfl
 obtain rfl := oi hF
 refine rT hf ?_
 have hN := H.ends1
 exact ⟨_, rfl, H.bel, F, (mko_list (H.ownAt 0 rfl)), by first | exact hN | simpa using hN⟩
theorem laws_toFiber_ok {S : Nat → Prop} {v0_ : Value} {a' : Fiber} {r : Fiber} (h0 : VR w0 S v0_ a') (hF : laws_toFiber fu a' = some r) :
    Calls Tryz.prog 184 [v0_].toArray w0 fun e w' => ∃ v, e = .returned v ∧ (Below w0.heap.size w0 w' ∧ VR w' (St ⟨w0, []⟩ S [] [] [] true) v r) := by
 obtain rfl := Fiber_open h0
 have H := Mem.start ⟨w0, []⟩ S
 refine en Tryz.func184 fun a hf => ?_
 rw [laws_toFiber] at hF
 refine bx hf H fun b' a w hf H => ?_
 refine aL hf H TF.zv180 fun b2 a w hf H => ?_
 refine wr (aL hf H TF.zv180 fun b3 a w hf H => ?_)
 refine wr (pz 1 hf fun a hf => ?_)
 refine lB 2 hf H TF.ls3 fun a hf => ?_
 refine pz 1 hf fun a hf => ?_
 refine sB 0 hf H TF.sz3 fun w H => ?_
 refine wr (pz 1 hf fun a hf => ?_)
 refine lB 2 hf H TF.ls3 fun a hf => ?_
 refine pz 1 hf fun a hf => ?_
 refine sB 0 hf H TF.sz3 fun w H => ?_
 refine wr (pz 1 hf fun a hf => ?_)
 refine lB 2 hf H TF.ls3 fun a hf => ?_
 refine pz 1 hf fun a hf => ?_
 refine sB 0 hf H TF.sz3 fun w H => ?_
 refine wr (pz 1 hf fun a hf => ?_)
 refine lB 2 hf H TF.ls3 fun a hf => ?_
 refine pz 1 hf fun a hf => ?_
 refine sB 0 hf H TF.sz3 fun w H => ?_
 have hf := hf.pn [2, 3]
 refine wr (lN 0 hf H TF.la180 fun a hf => ?_)
 refine sB 1 hf H TF.sz180 fun w H => ?_
 refine wer ?_
 obtain rfl := oi hF
 refine ret_1 hf rfl (rv_cellN hf H 1 TF.la180 rfl rfl rfl) ?_
 exact ⟨_, rfl, H.bel, Fiber_mkv⟩
theorem laws_toFiberS_ok {S : Nat → Prop} {v0_ : Value} {a' : List Fiber} {r : List Fiber} (h0 : VR w0 S v0_ a') (hF : laws_toFiberS fu a' = some r) :
    Calls Tryz.prog 119 [v0_].toArray w0 fun e w' => ∃ v, e = .returned v ∧ (Below w0.heap.size w0 w' ∧ ∃ F0, VO w' F0 v r ∧ New w0 w' F0) := by
 obtain ⟨A, c, rfl, hl⟩ := VR_list h0
 have H := Mem.start ⟨w0, []⟩ S
 have H := H.pA hl
 refine en Tryz.func119 fun a hf => ?_
 rw [laws_toFiberS] at hF
 refine sqz (pz 1 hf fun a hf => ?_)
 refine wr (pz 2 hf fun a hf => ?_)
 obtain ⟨l, hl_, hF⟩ := bs_ hF
 refine wl0 rfl (op_make (z0 := (({ A := 0, B := 0, Length := 0, Risk := 0 } : Fiber) : Fiber)) hf H Tryz.underlying32 TF.ai180 rfl (by decide) rfl rfl (Fiber_mk (x := ({ A := 0, B := 0, Length := 0, Risk := 0 } : Fiber))) hl_ (by decide) fun A2 c2 a w hf H => ?_)
 refine pz 1 hf fun a hf => ?_
 refine we (sqz (pz 1 hf fun a hf => ?_))
 refine wl_end (then_n ?_)
 obtain ⟨out2, hB1, hF⟩ := bs_ hF
 have hf := hf.pn [0, 3, 4]
 have H := H.lt_ [] [true] [] [0]
 refine loopC (fun (s : List Fiber × Int) (a : Act) (w : World) => match s with | (out', i) => ∃ (A3 : Option Addr) (c3 : Nat) (E : Go.TypeId), Fr a 23 [(0, (.slice A a'.length c)), (3, (.slice A3 out'.length c3)), (4, (.int .i64 i))] ∧ Mem ⟨w0, []⟩ S [] [⟨.sh true, E, A3, c3, (out' : List Fiber)⟩] [] [(false, MP.val [(.slice A a'.length c)] (a' : List Fiber))] w) (fun k (s : List Fiber × Int) => laws_toFiberS_L1 fu a' k s.1 s.2 = some out2) (fun s => out2 = s) (l, 0) fu hB1 ⟨A2, c2, 180, hf, H⟩ (fun s h => by cases h) ?_ ?_
 ·rintro fk ⟨out', i⟩ a w hR1 hI
  replace hR1 : laws_toFiberS_L1 fu a' (fk + 1) out' i = some out2 := hR1
  rw [laws_toFiberS_L1] at hR1
  obtain ⟨A3, c3, E, hf, H⟩ := hI
  refine sq (sqz (pz 4 hf fun a hf => ?_))
  refine wl_end (then_n (ib hR1 hf (fun hc hR1 => ?_) fun hc hR1 => ?_))
  ·refine wp_skip (then_n (sq (wp_block (reg (pz 4 hf fun a hf => ?_)))))
   obtain ⟨e, he, hR1⟩ := bs_ hR1
   refine wl0 rfl (op_iaddr hf H Tryz.underlying23 TF.sz197 0 rfl rfl rfl he (by decide) fun p o cs a hf hr H => ?_)
   obtain rfl := Fiber_cells hr
   refine oq hf (rq_loadIN hf H TF.la197 0 0 rfl rfl rfl rfl) fun a hf => ?_
   obtain ⟨y, hy, hR1⟩ := bs_ hR1
   refine oc hf TF.cl184 (laws_toFiber_ok (S := TT) Fiber_mkv hy) fun v w a hp hf => ?_
   obtain ⟨hb, hp⟩ := hp
   obtain rfl := Fiber_open hp
   have H := H.keep hb
   obtain ⟨e2, he2, hR1⟩ := bs_ hR1
   refine wl0 rfl (op_iaddrR hf H Tryz.underlying32 TF.sz180 0 rfl rfl rfl he2 (by decide) fun p2 o2 cs2 a hf hA hr2 hk => ?_)
   obtain rfl := Fiber_cells hr2
   refine wl0 rfl (op_storeR (e' := y) (o := o2) (off := 0) hf H TF.sz180 0 rfl rfl rfl rfl rfl (nle rfl) rfl hA he2 (st_full (Fiber_mk (x := y))) fun w H => ?_)
   replace hf : Fr a 23 [(0, (.slice A a'.length c)), (3, (.slice A3 out'.length c3)), (4, (.int .i64 i)), (14, (.slice A3 out'.length c3)), (15, (.int .i64 i)), (16, (.slice A a'.length c)), (17, (.int .i64 i)), (18, (.pointer (some ⟨p, o + 0, none⟩))), (19, (.agg #[(.int .i64 e.A), (.int .i64 e.B), (.int .i64 e.Length), (.int .i64 e.Risk)])), (20, (.agg #[(.int .i64 y.A), (.int .i64 y.B), (.int .i64 y.Length), (.int .i64 y.Risk)])), (21, (.pointer (some ⟨p2, o2 + 0, none⟩)))] := hf.prune [0, 3, 4, 14, 15, 16, 17, 18, 19, 20, 21] rfl
   replace hf : Fr a 23 [(0, (.slice A a'.length c)), (3, (.slice A3 (out'.set (i : Int).toNat y).length c3)), (4, (.int .i64 i)), (14, (.slice A3 (out'.set (i : Int).toNat y).length c3)), (15, (.int .i64 i)), (16, (.slice A a'.length c)), (17, (.int .i64 i)), (18, (.pointer (some ⟨p, o + 0, none⟩))), (19, (.agg #[(.int .i64 e.A), (.int .i64 e.B), (.int .i64 e.Length), (.int .i64 e.Risk)])), (20, (.agg #[(.int .i64 y.A), (.int .i64 y.B), (.int .i64 y.Length), (.int .i64 y.Risk)])), (21, (.pointer (some ⟨p2, o2 + 0, none⟩)))] := by simpa only [List.length_set, Nat.add_zero] using hf
   refine wl_end (blk_n (then_n (reg (pz 3 hf fun a hf => ?_))))
   refine wl_end ?_
   have hf := hf.pn [0, 3, 4]
   have H := H.lt_ [] [true] [] [1]
   exact then_n ⟨(out'.set (i : Int).toNat y, w64 (i + 1)), hR1, A3, c3, E, hf, H⟩
  ·refine wp_exit (then_x (then_x (blk_e (?_))))
   have hf := hf.pn [0, 3, 4]
   have H := H.lt_ [] [true] [] [0]
   exact ⟨(out', i), (Option.some.inj hR1).symm, A3, c3, E, hf, H⟩
 rintro a w ⟨⟨out3, i2⟩, rfl, A4, c4, E2, hf, H⟩
 try dsimp only at hF
 refine then_n (sqz (pz 2 hf fun a hf => ?_))
 refine wer ?_
 have H := H.rowOwn 0 rfl rfl
 obtain ⟨F, H⟩ := H.freezeOwn 0 rfl
 have H := H.lend 0 rfl
 obtain rfl := oi hF
 refine rT hf ?_
 have hN := H.ends1
 exact ⟨_, rfl, H.bel, F, (mko_list (H.ownAt 0 rfl)), by first | exact hN | simpa using hN⟩
theorem laws_toNetwork_ok {S : Nat → Prop} {v0_ : Value} {a' : Network} {r : Network} (h0 : VR w0 S v0_ a') (hF : laws_toNetwork fu a' = some r) :
    Calls Tryz.prog 52 [v0_].toArray w0 fun e w' => ∃ v, e = .returned v ∧ (Below w0.heap.size w0 w' ∧ ∃ F0, VO w' F0 v r ∧ New w0 w' F0) := by
 obtain ⟨A, c, A2, c2, rfl, hl, hl2⟩ := Network_open h0
 have H := Mem.start ⟨w0, []⟩ S
 have H := H.pA hl
 have H := H.pA hl2
 refine en Tryz.func52 fun a hf => ?_
 rw [laws_toNetwork] at hF
 refine bx hf H fun b' a w hf H => ?_
 refine aL hf H TF.zv34 fun b2 a w hf H => ?_
 refine wr (aL hf H TF.zv34 fun b3 a w hf H => ?_)
 refine wr (pz 1 hf fun a hf => ?_)
 refine lB 2 hf H TF.ls22 fun a hf => ?_
 obtain ⟨y, hy, hF⟩ := bs_ hF
 refine oc hf TF.cl118 (laws_toStringS_ok (S := TT) (mk_list (H.rt 1 rfl)) hy) fun v w a hp hf => ?_
 obtain ⟨hb, F, hp2, hN⟩ := hp
 obtain ⟨A3, c3, rfl, hl3⟩ := VO_list hp2
 have H := H.aO1 hb hN hl3
 have H := H.lend 0 rfl
 refine pz 1 hf fun a hf => ?_
 refine sB 0 hf H TF.sz22 fun w H => ?_
 refine wr (pz 1 hf fun a hf => ?_)
 refine lB 2 hf H TF.ls23 fun a hf => ?_
 obtain ⟨y2, hy2, hF⟩ := bs_ hF
 refine oc hf TF.cl119 (laws_toFiberS_ok (S := TT) (mk_list (H.rt 1 rfl)) hy2) fun v2 w a hp3 hf => ?_
 obtain ⟨hb2, F3, hp4, hN2⟩ := hp3
 obtain ⟨A4, c4, rfl, hl4⟩ := VO_list hp4
 have H := H.aO1 hb2 hN2 hl4
 have H := H.lend 0 rfl
 refine pz 1 hf fun a hf => ?_
 refine sB 0 hf H TF.sz32 fun w H => ?_
 refine wr (lN 0 hf H TF.la34 fun a hf => ?_)
 refine sB 1 hf H TF.sz34 fun w H => ?_
 refine wer ?_
 have H := H.frontD 1 rfl
 obtain rfl := oi hF
 refine ret_1 hf rfl (rv_cellN hf H 1 TF.la34 rfl rfl rfl) ?_
 have hN := H.ends2
 exact ⟨_, rfl, H.bel, (F ++ F3), ⟨_, Network_ownmk (x := ({ Nodes := y, Fibers := y2 } : Network)) (H.ownAt 0 rfl) (H.ownAt 1 rfl), rfl⟩, by first | exact hN | simpa using hN⟩
theorem laws_toIntS_ok {S : Nat → Prop} {v0_ : Value} {a' : List Int} {r : List Int} (h0 : VR w0 S v0_ a') (hF : laws_toIntS fu a' = some r) :
    Calls Tryz.prog 231 [v0_].toArray w0 fun e w' => ∃ v, e = .returned v ∧ (Below w0.heap.size w0 w' ∧ ∃ F0, VO w' F0 v r ∧ New w0 w' F0) := by
 obtain ⟨A, c, rfl, hl⟩ := VR_list h0
 have H := Mem.start ⟨w0, []⟩ S
 have H := H.pA hl
 refine en Tryz.func231 fun a hf => ?_
 rw [laws_toIntS] at hF
 refine sqz (pz 1 hf fun a hf => ?_)
 refine wr (pz 2 hf fun a hf => ?_)
 obtain ⟨l, hl_, hF⟩ := bs_ hF
 refine wl0 rfl (op_make (z0 := (0 : Int)) hf H Tryz.underlying47 TF.ai3 rfl (by decide) rfl rfl rfl hl_ (by decide) fun A2 c2 a w hf H => ?_)
 refine pz 1 hf fun a hf => ?_
 refine we (sqz (pz 1 hf fun a hf => ?_))
 refine wl_end (then_n ?_)
 obtain ⟨out2, hB1, hF⟩ := bs_ hF
 have hf := hf.pn [0, 3, 4]
 have H := H.lt_ [] [true] [] [0]
 refine loopC (fun (s : List Int × Int) (a : Act) (w : World) => match s with | (out', i) => ∃ (A3 : Option Addr) (c3 : Nat) (E : Go.TypeId), Fr a 22 [(0, (.slice A a'.length c)), (3, (.slice A3 out'.length c3)), (4, (.int .i64 i))] ∧ Mem ⟨w0, []⟩ S [] [⟨.sh true, E, A3, c3, (out' : List Int)⟩] [] [(false, MP.val [(.slice A a'.length c)] (a' : List Int))] w) (fun k (s : List Int × Int) => laws_toIntS_L1 fu a' k s.1 s.2 = some out2) (fun s => out2 = s) (l, 0) fu hB1 ⟨A2, c2, 3, hf, H⟩ (fun s h => by cases h) ?_ ?_
 ·rintro fk ⟨out', i⟩ a w hR1 hI
  replace hR1 : laws_toIntS_L1 fu a' (fk + 1) out' i = some out2 := hR1
  rw [laws_toIntS_L1] at hR1
  obtain ⟨A3, c3, E, hf, H⟩ := hI
  refine sq (sqz (pz 4 hf fun a hf => ?_))
  refine wl_end (then_n (ib hR1 hf (fun hc hR1 => ?_) fun hc hR1 => ?_))
  ·refine wp_skip (then_n (sq (wp_block (reg (pz 4 hf fun a hf => ?_)))))
   obtain ⟨e, he, hR1⟩ := bs_ hR1
   refine wl0 rfl (op_iaddr hf H Tryz.underlying47 TF.sz3 0 rfl rfl rfl he (by decide) fun p o cs a hf hr H => ?_)
   obtain rfl := hr
   refine oq hf (rq_loadI hf H TF.ls3 0 0 rfl rfl rfl) fun a hf => ?_
   obtain ⟨e2, he2, hR1⟩ := bs_ hR1
   refine wl0 rfl (op_iaddrR hf H Tryz.underlying47 TF.sz3 0 rfl rfl rfl he2 (by decide) fun p2 o2 cs2 a hf hA hr2 hk => ?_)
   obtain rfl := hr2
   refine wl0 rfl (op_storeR (e' := e) (o := o2) (off := 0) hf H TF.sz3 0 rfl rfl rfl rfl rfl (nle rfl) rfl hA he2 (st_full rfl) fun w H => ?_)
   replace hf : Fr a 22 [(0, (.slice A a'.length c)), (3, (.slice A3 out'.length c3)), (4, (.int .i64 i)), (14, (.slice A3 out'.length c3)), (15, (.int .i64 i)), (16, (.slice A a'.length c)), (17, (.int .i64 i)), (18, (.pointer (some ⟨p, o + 0, none⟩))), (19, (.int .i64 e)), (20, (.pointer (some ⟨p2, o2 + 0, none⟩)))] := hf.prune [0, 3, 4, 14, 15, 16, 17, 18, 19, 20] rfl
   replace hf : Fr a 22 [(0, (.slice A a'.length c)), (3, (.slice A3 (out'.set (i : Int).toNat e).length c3)), (4, (.int .i64 i)), (14, (.slice A3 (out'.set (i : Int).toNat e).length c3)), (15, (.int .i64 i)), (16, (.slice A a'.length c)), (17, (.int .i64 i)), (18, (.pointer (some ⟨p, o + 0, none⟩))), (19, (.int .i64 e)), (20, (.pointer (some ⟨p2, o2 + 0, none⟩)))] := by simpa only [List.length_set, Nat.add_zero] using hf
   refine wl_end (blk_n (then_n (reg (pz 3 hf fun a hf => ?_))))
   refine wl_end ?_
   have hf := hf.pn [0, 3, 4]
   have H := H.lt_ [] [true] [] [1]
   exact then_n ⟨(out'.set (i : Int).toNat e, w64 (i + 1)), hR1, A3, c3, E, hf, H⟩
  ·refine wp_exit (then_x (then_x (blk_e (?_))))
   have hf := hf.pn [0, 3, 4]
   have H := H.lt_ [] [true] [] [0]
   exact ⟨(out', i), (Option.some.inj hR1).symm, A3, c3, E, hf, H⟩
 rintro a w ⟨⟨out3, i2⟩, rfl, A4, c4, E2, hf, H⟩
 try dsimp only at hF
 refine then_n (sqz (pz 2 hf fun a hf => ?_))
 refine wer ?_
 have H := H.rowOwn 0 rfl rfl
 obtain ⟨F, H⟩ := H.freezeOwn 0 rfl
 have H := H.lend 0 rfl
 obtain rfl := oi hF
 refine rT hf ?_
 have hN := H.ends1
 exact ⟨_, rfl, H.bel, F, (mko_list (H.ownAt 0 rfl)), by first | exact hN | simpa using hN⟩
theorem laws_toRoute_ok {S : Nat → Prop} {v0_ : Value} {a' : Route} {r : Route} (h0 : VR w0 S v0_ a') (hF : laws_toRoute fu a' = some r) :
    Calls Tryz.prog 185 [v0_].toArray w0 fun e w' => ∃ v, e = .returned v ∧ (Below w0.heap.size w0 w' ∧ ∃ F0, VO w' F0 v r ∧ New w0 w' F0) := by
 obtain ⟨A, c, rfl, hl⟩ := Route_open h0
 have H := Mem.start ⟨w0, []⟩ S
 have H := H.pA hl
 refine en Tryz.func185 fun a hf => ?_
 rw [laws_toRoute] at hF
 refine bx hf H fun b' a w hf H => ?_
 refine aL hf H TF.zv59 fun b2 a w hf H => ?_
 refine wr (aL hf H TF.zv59 fun b3 a w hf H => ?_)
 refine wr (pz 1 hf fun a hf => ?_)
 refine lB 2 hf H TF.ls3 fun a hf => ?_
 refine pz 1 hf fun a hf => ?_
 refine sB 0 hf H TF.sz3 fun w H => ?_
 refine wr (pz 1 hf fun a hf => ?_)
 refine lB 2 hf H TF.ls47 fun a hf => ?_
 obtain ⟨y, hy, hF⟩ := bs_ hF
 refine oc hf TF.cl231 (laws_toIntS_ok (S := TT) (mk_list (H.rt 0 rfl)) hy) fun v w a hp hf => ?_
 obtain ⟨hb, F, hp2, hN⟩ := hp
 obtain ⟨A2, c2, rfl, hl2⟩ := VO_list hp2
 have H := H.aO1 hb hN hl2
 have H := H.lend 0 rfl
 refine pz 1 hf fun a hf => ?_
 refine sB 0 hf H TF.sz47 fun w H => ?_
 refine wr (lN 0 hf H TF.la59 fun a hf => ?_)
 refine sB 1 hf H TF.sz59 fun w H => ?_
 refine wer ?_
 obtain rfl := oi hF
 refine ret_1 hf rfl (rv_cellN hf H 1 TF.la59 rfl rfl rfl) ?_
 have hN := H.ends1
 exact ⟨_, rfl, H.bel, F, ⟨_, Route_ownmk (x := ({ Start := a'.Start, Fibers := y } : Route)) (H.ownAt 0 rfl), rfl⟩, by first | exact hN | simpa using hN⟩
theorem laws_toBlock_ok {S : Nat → Prop} {v0_ : Value} {a' : Block} {r : Block} (h0 : VR w0 S v0_ a') (hF : laws_toBlock fu a' = some r) :
    Calls Tryz.prog 186 [v0_].toArray w0 fun e w' => ∃ v, e = .returned v ∧ (Below w0.heap.size w0 w' ∧ VR w' (St ⟨w0, []⟩ S [] [] [] true) v r) := by
 obtain rfl := Block_open h0
 have H := Mem.start ⟨w0, []⟩ S
 refine en Tryz.func186 fun a hf => ?_
 rw [laws_toBlock] at hF
 refine bx hf H fun b' a w hf H => ?_
 refine aL hf H TF.zv71 fun b2 a w hf H => ?_
 refine wr (aL hf H TF.zv71 fun b3 a w hf H => ?_)
 refine wr (pz 1 hf fun a hf => ?_)
 refine lB 2 hf H TF.ls3 fun a hf => ?_
 refine pz 1 hf fun a hf => ?_
 refine sB 0 hf H TF.sz3 fun w H => ?_
 refine wr (pz 1 hf fun a hf => ?_)
 refine lB 2 hf H TF.ls3 fun a hf => ?_
 refine pz 1 hf fun a hf => ?_
 refine sB 0 hf H TF.sz3 fun w H => ?_
 refine wr (lN 0 hf H TF.la71 fun a hf => ?_)
 refine sB 1 hf H TF.sz71 fun w H => ?_
 refine wer ?_
 obtain rfl := oi hF
 refine ret_1 hf rfl (rv_cellN hf H 1 TF.la71 rfl rfl rfl) ?_
 exact ⟨_, rfl, H.bel, Block_mkv⟩
theorem laws_toLight_ok {S : Nat → Prop} {v0_ : Value} {a' : Light} {r : Light} (h0 : VR w0 S v0_ a') (hF : laws_toLight fu a' = some r) :
    Calls Tryz.prog 120 [v0_].toArray w0 fun e w' => ∃ v, e = .returned v ∧ (Below w0.heap.size w0 w' ∧ ∃ F0, VO w' F0 v r ∧ New w0 w' F0) := by
 obtain ⟨A, c, rfl, hl⟩ := Light_open h0
 have H := Mem.start ⟨w0, []⟩ S
 have H := H.pA hl
 refine en Tryz.func120 fun a hf => ?_
 rw [laws_toLight] at hF
 refine bx hf H fun b' a w hf H => ?_
 refine aL hf H TF.zv73 fun b2 a w hf H => ?_
 refine wr (aL hf H TF.zv73 fun b3 a w hf H => ?_)
 refine wr (pz 1 hf fun a hf => ?_)
 refine lB 2 hf H TF.ls3 fun a hf => ?_
 refine pz 1 hf fun a hf => ?_
 refine sB 0 hf H TF.sz3 fun w H => ?_
 refine wr (pz 1 hf fun a hf => ?_)
 refine lN 2 hf H TF.la149 fun a hf => ?_
 obtain ⟨y, hy, hF⟩ := bs_ hF
 refine oc hf TF.cl185 (laws_toRoute_ok (S := TT) (Route_mkv (x := a'.Route) (H.rt 0 rfl)) hy) fun v w a hp hf => ?_
 obtain ⟨hb, F, hp2, hN⟩ := hp
 obtain ⟨A2, c2, F2, rfl, rfl, hl2⟩ := Route_vo hp2
 have H := H.aO1 hb hN hl2
 have H := H.lend 0 rfl
 refine pz 1 hf fun a hf => ?_
 refine sB 0 hf H TF.sz59 fun w H => ?_
 refine wr (pz 1 hf fun a hf => ?_)
 refine lN 2 hf H TF.la150 fun a hf => ?_
 obtain ⟨y2, hy2, hF⟩ := bs_ hF
 refine oc hf TF.cl186 (laws_toBlock_ok (S := TT) Block_mkv hy2) fun v2 w a hp3 hf => ?_
 obtain ⟨hb2, hp3⟩ := hp3
 obtain rfl := Block_open hp3
 have H := H.keep hb2
 refine pz 1 hf fun a hf => ?_
 refine sB 0 hf H TF.sz71 fun w H => ?_
 have hf := hf.pn [2, 3]
 refine wr (lN 0 hf H TF.la73 fun a hf => ?_)
 refine sB 1 hf H TF.sz73 fun w H => ?_
 refine wer ?_
 obtain rfl := oi hF
 refine ret_1 hf rfl (rv_cellN hf H 1 TF.la73 rfl rfl rfl) ?_
 have hN := H.ends1
 exact ⟨_, rfl, H.bel, F2, ⟨_, Light_ownmk (x := ({ Id := a'.Id, Route := y, Block := y2 } : Light)) (H.ownAt 0 rfl), rfl⟩, by first | exact hN | simpa using hN⟩
theorem laws_toLightS_ok {S : Nat → Prop} {v0_ : Value} {a' : List Light} {r : List Light} (h0 : VR w0 S v0_ a') (hF : laws_toLightS fu a' = some r) :
    Calls Tryz.prog 53 [v0_].toArray w0 fun e w' => ∃ v, e = .returned v ∧ (Below w0.heap.size w0 w' ∧ ∃ F0, VO w' F0 v r ∧ New w0 w' F0) := by
 obtain ⟨A, c, rfl, hl⟩ := VR_list h0
 have H := Mem.start ⟨w0, []⟩ S
 have H := H.pA hl
 refine en Tryz.func53 fun a hf => ?_
 rw [laws_toLightS] at hF
 refine sqz (pz 1 hf fun a hf => ?_)
 refine wr (pz 2 hf fun a hf => ?_)
 obtain ⟨l, hl_, hF⟩ := bs_ hF
 refine wl0 rfl (op_makeO (z0 := (({ Id := 0, Route := ({ Start := 0, Fibers := [] } : Route), Block := ({ First := 0, Count := 0 } : Block) } : Light) : Light)) hf H Tryz.underlying35 TF.ai73 rfl (by decide) rfl rfl (fun w => Light_ownmk (x := ({ Id := 0, Route := ({ Start := 0, Fibers := [] } : Route), Block := ({ First := 0, Count := 0 } : Block) } : Light)) lown_nil) hl_ (by decide) fun A2 c2 Fs a w hf H => ?_)
 refine pz 1 hf fun a hf => ?_
 refine we (sqz (pz 1 hf fun a hf => ?_))
 refine wl_end (then_n ?_)
 obtain ⟨out2, hB1, hF⟩ := bs_ hF
 have hf := hf.pn [0, 3, 4]
 have H := H.lt_ [] [true] [] [0]
 refine loopC (fun (s : List Light × Int) (a : Act) (w : World) => match s with | (out', i) => ∃ (A3 : Option Addr) (c3 : Nat) (E : Go.TypeId) (Fs2 : List (List Nat)), Fr a 23 [(0, (.slice A a'.length c)), (3, (.slice A3 out'.length c3)), (4, (.int .i64 i))] ∧ Mem ⟨w0, []⟩ S [] [⟨.ow Fs2, E, A3, c3, (out' : List Light)⟩] [] [(false, MP.val [(.slice A a'.length c)] (a' : List Light))] w) (fun k (s : List Light × Int) => laws_toLightS_L1 fu a' k s.1 s.2 = some out2) (fun s => out2 = s) (l, 0) fu hB1 ⟨A2, c2, 73, Fs, hf, H⟩ (fun s h => by cases h) ?_ ?_
 ·rintro fk ⟨out', i⟩ a w hR1 hI
  replace hR1 : laws_toLightS_L1 fu a' (fk + 1) out' i = some out2 := hR1
  rw [laws_toLightS_L1] at hR1
  obtain ⟨A3, c3, E, Fs2, hf, H⟩ := hI
  refine sq (sqz (pz 4 hf fun a hf => ?_))
  refine wl_end (then_n (ib hR1 hf (fun hc hR1 => ?_) fun hc hR1 => ?_))
  ·refine wp_skip (then_n (sq (wp_block (reg (pz 4 hf fun a hf => ?_)))))
   obtain ⟨e, he, hR1⟩ := bs_ hR1
   refine wl0 rfl (op_iaddr hf H Tryz.underlying26 TF.sz152 0 rfl rfl rfl he (by decide) fun p o cs a hf hr H => ?_)
   obtain ⟨A4, c4, rfl, hl2⟩ := Light_cells hr
   have H := H.pF hl2
   refine oq hf (rq_loadIN hf H TF.la152 1 0 rfl rfl rfl rfl) fun a hf => ?_
   obtain ⟨y, hy, hR1⟩ := bs_ hR1
   refine oc hf TF.cl120 (laws_toLight_ok (S := TT) (Light_mkv (x := e) (H.rt 0 rfl)) hy) fun v w a hp hf => ?_
   obtain ⟨hb, F, hp2, hN⟩ := hp
   obtain ⟨A5, c5, F2, rfl, rfl, hl3⟩ := Light_vo hp2
   have H := H.aO1 hb hN hl3
   have H := H.lend 0 rfl
   obtain ⟨e2, he2, hR1⟩ := bs_ hR1
   refine wl0 rfl (op_iaddrR hf H Tryz.underlying35 TF.sz73 0 rfl rfl rfl he2 (by decide) fun p2 o2 cs2 a hf hA hr2 hk => ?_)
   have hrk := hr2
   obtain ⟨A6, c6, rfl, hl4⟩ := Light_cells hr2
   have H := H.pT hl4
   have H := H.recast (X := [(⟨F2, MP.own F2 [(.slice A5 y.Route.Fibers.length c5)] (y.Route.Fibers : List Int)⟩ : DI)]) (Y := [(⟨F2, MP.own F2 [(.int .i64 y.Id), (.int .i64 y.Route.Start), (.slice A5 y.Route.Fibers.length c5), (.int .i64 y.Block.First), (.int .i64 y.Block.Count)] (y : Light)⟩ : DI)]) (List.Perm.of_eq (by simp)) fun _ => ps1 (Light_ownmk (x := y) (H.ownAt 0 rfl)) ps0
   refine wl0 rfl (op_storeO hf H TF.sz73 rfl rfl rfl rfl rfl rfl hA he2 fun w H => ?_)
   replace hf : Fr a 23 [(0, (.slice A a'.length c)), (3, (.slice A3 out'.length c3)), (4, (.int .i64 i)), (14, (.slice A3 out'.length c3)), (15, (.int .i64 i)), (16, (.slice A a'.length c)), (17, (.int .i64 i)), (18, (.pointer (some ⟨p, o + 0, none⟩))), (19, (.agg #[(.int .i64 e.Id), (.int .i64 e.Route.Start), (.slice A4 e.Route.Fibers.length c4), (.int .i64 e.Block.First), (.int .i64 e.Block.Count)])), (20, (.agg #[(.int .i64 y.Id), (.int .i64 y.Route.Start), (.slice A5 y.Route.Fibers.length c5), (.int .i64 y.Block.First), (.int .i64 y.Block.Count)])), (21, (.pointer (some ⟨p2, o2 + 0, none⟩)))] := hf.prune [0, 3, 4, 14, 15, 16, 17, 18, 19, 20, 21] rfl
   replace hf : Fr a 23 [(0, (.slice A a'.length c)), (3, (.slice A3 (out'.set (i : Int).toNat y).length c3)), (4, (.int .i64 i)), (14, (.slice A3 (out'.set (i : Int).toNat y).length c3)), (15, (.int .i64 i)), (16, (.slice A a'.length c)), (17, (.int .i64 i)), (18, (.pointer (some ⟨p, o + 0, none⟩))), (19, (.agg #[(.int .i64 e.Id), (.int .i64 e.Route.Start), (.slice A4 e.Route.Fibers.length c4), (.int .i64 e.Block.First), (.int .i64 e.Block.Count)])), (20, (.agg #[(.int .i64 y.Id), (.int .i64 y.Route.Start), (.slice A5 y.Route.Fibers.length c5), (.int .i64 y.Block.First), (.int .i64 y.Block.Count)])), (21, (.pointer (some ⟨p2, o2 + 0, none⟩)))] := by simpa only [List.length_set, Nat.add_zero] using hf
   refine wl_end (blk_n (then_n (reg (pz 3 hf fun a hf => ?_))))
   refine wl_end ?_
   have hf := hf.pn [0, 3, 4]
   have H := H.lt_ [] [true] [] [4]
   exact then_n ⟨(out'.set (i : Int).toNat y, w64 (i + 1)), hR1, A3, c3, E, Fs2.set (i : Int).toNat F2, hf, H⟩
  ·refine wp_exit (then_x (then_x (blk_e (?_))))
   have hf := hf.pn [0, 3, 4]
   have H := H.lt_ [] [true] [] [0]
   exact ⟨(out', i), (Option.some.inj hR1).symm, A3, c3, E, Fs2, hf, H⟩
 rintro a w ⟨⟨out3, i2⟩, rfl, A7, c7, E2, Fs3, hf, H⟩
 try dsimp only at hF
 refine then_n (sqz (pz 2 hf fun a hf => ?_))
 refine wer ?_
 obtain ⟨F3, H⟩ := H.freezeOwn 0 rfl
 have H := H.lend 0 rfl
 obtain rfl := oi hF
 refine rT hf ?_
 have hN := H.ends1
 exact ⟨_, rfl, H.bel, F3, (mko_list (H.ownAt 0 rfl)), by first | exact hN | simpa using hN⟩
theorem laws_toPlan_ok {S : Nat → Prop} {v0_ : Value} {a' : Plan} {r : Plan} (h0 : VR w0 S v0_ a') (hF : laws_toPlan fu a' = some r) :
    Calls Tryz.prog 11 [v0_].toArray w0 fun e w' => ∃ v, e = .returned v ∧ (Below w0.heap.size w0 w' ∧ ∃ F0, VO w' F0 v r ∧ New w0 w' F0) := by
 obtain ⟨A, c, A2, c2, A3, c3, rfl, hl, hl2, hl3⟩ := Plan_open h0
 have H := Mem.start ⟨w0, []⟩ S
 have H := H.pA hl
 have H := H.pA hl2
 have H := H.pA hl3
 refine en Tryz.func11 fun a hf => ?_
 rw [laws_toPlan] at hF
 refine bx hf H fun b' a w hf H => ?_
 refine aL hf H TF.zv37 fun b2 a w hf H => ?_
 refine wr (aL hf H TF.zv37 fun b3 a w hf H => ?_)
 refine wr (pz 1 hf fun a hf => ?_)
 refine lN 2 hf H TF.la25 fun a hf => ?_
 obtain ⟨y, hy, hF⟩ := bs_ hF
 refine oc hf TF.cl52 (laws_toNetwork_ok (S := TT) (Network_mkv (x := a'.Network) (H.rt 2 rfl) (H.rt 1 rfl)) hy) fun v w a hp hf => ?_
 obtain ⟨hb, F, hp2, hN⟩ := hp
 obtain ⟨A4, c4, F2, A5, c5, F3, rfl, rfl, hl4, hl5⟩ := Network_vo hp2
 have H := H.aO2 hb hN hl4 hl5
 have H := H.lend 0 rfl
 have H := H.lend 1 rfl
 refine pz 1 hf fun a hf => ?_
 refine sB 0 hf H TF.sz34 fun w H => ?_
 refine wr (pz 1 hf fun a hf => ?_)
 refine lB 2 hf H TF.ls26 fun a hf => ?_
 obtain ⟨y2, hy2, hF⟩ := bs_ hF
 refine oc hf TF.cl53 (laws_toLightS_ok (S := TT) (mk_list (H.rt 2 rfl)) hy2) fun v2 w a hp3 hf => ?_
 obtain ⟨hb2, F4, hp4, hN2⟩ := hp3
 obtain ⟨A6, c6, rfl, hl6⟩ := VO_list hp4
 have H := H.aO1 hb2 hN2 hl6
 have H := H.lend 0 rfl
 refine pz 1 hf fun a hf => ?_
 refine sB 0 hf H TF.sz35 fun w H => ?_
 refine wr (lN 0 hf H TF.la37 fun a hf => ?_)
 refine sB 1 hf H TF.sz37 fun w H => ?_
 refine wer ?_
 have H := H.frontD 2 rfl
 have H := H.frontD 2 rfl
 obtain rfl := oi hF
 refine ret_1 hf rfl (rv_cellN hf H 1 TF.la37 rfl rfl rfl) ?_
 have hN := H.ends3
 exact ⟨_, rfl, H.bel, (F2 ++ (F3 ++ F4)), ⟨_, Plan_ownmk (x := ({ Network := y, Lights := y2 } : Plan)) (H.ownAt 0 rfl) (H.ownAt 1 rfl) (H.ownAt 2 rfl), rfl⟩, by first | exact hN | simpa using hN⟩
theorem spec_l8Good_ok {S : Nat → Prop} {v0_ : Value} {b' : Block} {r : Bool} (h0 : VR w0 S v0_ b') (hF : spec_l8Good fu b' = some r) :
    Calls Tryz.prog 180 [v0_].toArray w0 fun e w' => ∃ v, e = .returned v ∧ (Below w0.heap.size w0 w' ∧ VR w' (St ⟨w0, []⟩ S [] [] [] true) v r) := by
 obtain rfl := Block_open h0
 have H := Mem.start ⟨w0, []⟩ S
 refine en Tryz.func180 fun a hf => ?_
 rw [spec_l8Good] at hF
 refine bx hf H fun b2 a w hf H => ?_
 refine pz 1 hf fun a hf => ?_
 refine wl_end (then_n (sq ?_))
 obtain ⟨c, hGc, hF⟩ := bs_ hF
 have fh := hf.prune [] rfl
 have Hm := H.lt_ [false] [] [] []
 refine midF 2 (.bool c) fh Hm ?_ fun a w hf H => ?_
 ·refine reg (pz 1 hf fun a hf => ?_)
  refine lB 0 hf H TF.ls3 fun a hf => ?_
  obtain ⟨y, hy, hGc⟩ := bs_ hGc
  refine oc hf TF.cl86 (spec_l1In_ok (S := TT) mk_int mk_int mk_int hy) fun v w a hp hf => ?_
  obtain ⟨hb, hp⟩ := hp
  obtain rfl := VR_bool hp
  have H := H.keep hb
  refine pz 1 hf fun a hf => ?_
  refine iteB hGc (fun hc hGc => ?_) fun hc hGc => ?_
  ·have hf := hf.lit 6 rfl hc
   refine pz 1 hf fun a hf => ?_
   refine wlg hf rfl rfl rfl (op_q hf (rq_loadB hf H TF.ls3 0 rfl rfl rfl) rfl (by decide) fun a hf => ?_)
   refine pz 1 hf fun a hf => ?_
   refine wlg hf rfl rfl rfl (op_q hf (rq_loadB hf H TF.ls3 0 rfl rfl rfl) rfl (by decide) fun a hf => ?_)
   refine pz 1 hf fun a hf => ?_
   obtain ⟨y2, hy2, hGc⟩ := bs_ hGc
   refine wlg hf rfl rfl rfl (oC hf TF.cl86 (spec_l1In_ok (S := TT) mk_int mk_int mk_int hy2) fun v2 w a hp2 hf => ?_)
   obtain ⟨hb2, hp2⟩ := hp2
   obtain rfl := VR_bool hp2
   have H := H.keep hb2
   refine pz 2 hf fun a hf => ?_
   obtain rfl := oi hGc
   have hf := hf.pn [2]
   have H := H.lt_ [false] [] [] []
   exact wl_end ⟨hf, H⟩
  ·have hf := hf.lit 6 rfl hc
   refine pz 8 hf fun a hf => ?_
   obtain rfl := oi hGc
   have hf := hf.pn [2]
   have H := H.lt_ [false] [] [] []
   exact wl_end ⟨hf, H⟩
 refine then_n (wp_ret (?_))
 obtain rfl := oi hF
 refine rT hf ?_
 exact ⟨_, rfl, H.bel, mk_bool⟩
theorem spec_l9Light_ok {S : Nat → Prop} {v0_ : Value} {v1_ : Value} {n' : Network} {x1 : Light} {r : Bool} (h0 : VR w0 S v0_ n') (h1 : VR w0 S v1_ x1) (hF : spec_l9Light fu n' x1 = some r) :
    Calls Tryz.prog 114 [v0_, v1_].toArray w0 fun e w' => ∃ v, e = .returned v ∧ (Below w0.heap.size w0 w' ∧ VR w' (St ⟨w0, []⟩ S [] [] [] true) v r) := by
 obtain ⟨A, c, A2, c2, rfl, hl, hl2⟩ := Network_open h0
 obtain ⟨A3, c3, rfl, hl3⟩ := Light_open h1
 have H := Mem.start ⟨w0, []⟩ S
 have H := H.pA hl
 have H := H.pA hl2
 have H := H.pA hl3
 refine en Tryz.func114 fun a hf => ?_
 rw [spec_l9Light] at hF
 refine bx hf H fun b' a w hf H => ?_
 refine wl0 rfl (op_box hf H rfl rfl (by decide) fun b2 a w hf H => ?_)
 refine pz 1 hf fun a hf => ?_
 refine wl_end (then_n (sq ?_))
 obtain ⟨c4, hGc4, hF⟩ := bs_ hF
 have fh := hf.prune [] rfl
 have Hm := H.lt_ [false, false] [] [] []
 refine midF 4 (.bool c4) fh Hm ?_ fun a w hf H => ?_
 ·refine reg (pz 1 hf fun a hf => ?_)
  refine lB 0 hf H TF.ls3 fun a hf => ?_
  obtain ⟨y, hy, hGc4⟩ := bs_ hGc4
  refine oc hf TF.cl86 (spec_l1In_ok (S := TT) mk_int mk_int mk_int hy) fun v w a hp hf => ?_
  obtain ⟨hb, hp⟩ := hp
  obtain rfl := VR_bool hp
  have H := H.keep hb
  refine pz 1 hf fun a hf => ?_
  refine iteB hGc4 (fun hc hGc4 => ?_) fun hc hGc4 => ?_
  ·have hf := hf.lit 8 rfl hc
   refine wlg hf rfl rfl rfl (op_q hf (rq_loadBN hf H TF.la34 1 rfl rfl rfl rfl) rfl (by decide) fun a hf => ?_)
   refine pz 1 hf fun a hf => ?_
   refine wlg hf rfl rfl rfl (op_q hf (rq_loadBN hf H TF.la59 0 rfl rfl rfl rfl) rfl (by decide) fun a hf => ?_)
   obtain ⟨y2, hy2, hGc4⟩ := bs_ hGc4
   refine wlg hf rfl rfl rfl (oC hf TF.cl142 (spec_l4Good_ok (S := TT) (Network_mkv (x := n') (H.rt 2 rfl) (H.rt 1 rfl)) (Route_mkv (x := x1.Route) (H.rt 0 rfl)) hy2) fun v2 w a hp2 hf => ?_)
   obtain ⟨hb2, hp2⟩ := hp2
   obtain rfl := VR_bool hp2
   have H := H.keep hb2
   refine pz 2 hf fun a hf => ?_
   refine iteB hGc4 (fun hc2 hGc4 => ?_) fun hc2 hGc4 => ?_
   ·have hf := hf.lit 14 rfl hc2
    refine pz 1 hf fun a hf => ?_
    refine wlg hf rfl rfl rfl (op_q hf (rq_loadBN hf H TF.la71 0 rfl rfl rfl rfl) rfl (by decide) fun a hf => ?_)
    obtain ⟨y3, hy3, hGc4⟩ := bs_ hGc4
    refine wlg hf rfl rfl rfl (oC hf TF.cl180 (spec_l8Good_ok (S := TT) Block_mkv hy3) fun v3 w a hp3 hf => ?_)
    obtain ⟨hb3, hp3⟩ := hp3
    obtain rfl := VR_bool hp3
    have H := H.keep hb3
    refine pz 2 hf fun a hf => ?_
    obtain rfl := oi hGc4
    have hf := hf.pn [4]
    have H := H.lt_ [false, false] [] [] []
    exact wl_end ⟨hf, H⟩
   ·have hf := hf.lit 14 rfl hc2
    refine pz 5 hf fun a hf => ?_
    obtain rfl := oi hGc4
    have hf := hf.pn [4]
    have H := H.lt_ [false, false] [] [] []
    exact wl_end ⟨hf, H⟩
  ·have hf := hf.lit 8 rfl hc
   refine pz 11 hf fun a hf => ?_
   obtain rfl := oi hGc4
   have hf := hf.pn [4]
   have H := H.lt_ [false, false] [] [] []
   exact wl_end ⟨hf, H⟩
 refine then_n (wp_ret (?_))
 obtain rfl := oi hF
 refine rT hf ?_
 exact ⟨_, rfl, H.bel, mk_bool⟩
theorem spec_l9Collide_ok {S : Nat → Prop} {v0_ : Value} {v1_ : Value} {x1 : Light} {y : Light} {r : Bool} (h0 : VR w0 S v0_ x1) (h1 : VR w0 S v1_ y) (hF : spec_l9Collide fu x1 y = some r) :
    Calls Tryz.prog 115 [v0_, v1_].toArray w0 fun e w' => ∃ v, e = .returned v ∧ (Below w0.heap.size w0 w' ∧ VR w' (St ⟨w0, []⟩ S [] [] [] true) v r) := by
 obtain ⟨A, c, rfl, hl⟩ := Light_open h0
 obtain ⟨A2, c2, rfl, hl2⟩ := Light_open h1
 have H := Mem.start ⟨w0, []⟩ S
 have H := H.pA hl
 have H := H.pA hl2
 refine en Tryz.func115 fun a hf => ?_
 rw [spec_l9Collide] at hF
 refine bx hf H fun b' a w hf H => ?_
 refine wl0 rfl (op_box hf H rfl rfl (by decide) fun b2 a w hf H => ?_)
 refine pz 1 hf fun a hf => ?_
 refine wl_end (then_n (sq ?_))
 obtain ⟨c3, hGc3, hF⟩ := bs_ hF
 have fh := hf.prune [] rfl
 have Hm := H.lt_ [false, false] [] [] []
 refine midF 4 (.bool c3) fh Hm ?_ fun a w hf H => ?_
 ·refine dw [] 17 fun w hb => ?_
  have H := H.keep hb
  refine zp 0 hf trivial fun a hf => ?_
  refine strT (H.lt_ [false, true] [] [] []) (fun w H => trivial) fun hS => ?_
  refine zS 1 [] rfl rfl rfl rfl hf hS (fun w H => rq_loadBN hf H TF.la59 0 rfl rfl rfl rfl) fun a hf => ?_
  refine zp 2 hf hS fun a hf => ?_
  refine zp 3 hf hS fun a hf => ?_
  refine strT (H.lt_ [true, true] [] [] []) (fun w H => H.lt_ [false, true] [] [] []) fun hS => ?_
  refine zS 4 [] rfl rfl rfl rfl hf hS (fun w H => rq_loadB hf H TF.ls47 0 rfl rfl rfl) fun a hf => ?_
  obtain ⟨y2, hy2, hGc3⟩ := bs_ hGc3
  refine nn 5 rfl (oC hf TF.cl181 (spec_l4Uses_ok (S := TT) (Route_mkv (x := x1.Route) (H.rt 1 rfl)) (mk_list (H.rt 0 rfl)) hy2) fun v w a hp hf => ?_)
  obtain ⟨hb, hp⟩ := hp
  obtain rfl := VR_bool hp
  have H := H.keep hb
  have hS := H.lt_ [true, true] [] [] []
  refine aS hS ?_
  refine zp 6 hf hS fun a hf => ?_
  refine iteB hGc3 (fun hc hGc3 => ?_) fun hc hGc3 => ?_
  ·have hf := hf.lit 11 rfl hc
   refine zg 7 hf hS fun a hf => ?_
   refine tSg 8 [] rfl rfl rfl rfl rfl rfl hf (by kernel_rfl) (by kernel_rfl) hS (fun w H => rq_loadBN hf H TF.la71 1 rfl rfl rfl rfl) fun a hf => ?_
   refine zg 10 hf hS fun a hf => ?_
   refine tSg 11 [] rfl rfl rfl rfl rfl rfl hf (by kernel_rfl) (by kernel_rfl) hS (fun w H => rq_loadBN hf H TF.la71 0 rfl rfl rfl rfl) fun a hf => ?_
   obtain ⟨y3, hy3, hGc3⟩ := bs_ hGc3
   refine n1g 9 (by kernel_rfl) rfl rfl rfl rfl hf (oC hf TF.cl182 (spec_l8Bits_ok (S := TT) Block_mkv hy3) fun v2 w a hp2 hf => ?_)
   obtain ⟨hb2, hp2⟩ := hp2
   obtain rfl := VR_int hp2
   have H := H.keep hb2
   have hS := H.lt_ [true, true] [] [] []
   refine aS hS ?_
   obtain ⟨y4, hy4, hGc3⟩ := bs_ hGc3
   refine n1g 12 (by kernel_rfl) rfl rfl rfl rfl hf (oC hf TF.cl182 (spec_l8Bits_ok (S := TT) Block_mkv hy4) fun v3 w a hp3 hf => ?_)
   obtain ⟨hb3, hp3⟩ := hp3
   obtain rfl := VR_int hp3
   have H := H.keep hb3
   have hS := H.lt_ [true, true] [] [] []
   refine aS hS ?_
   refine zg 13 hf hS fun a hf => ?_
   refine zg 14 hf hS fun a hf => ?_
   refine zp 15 hf hS fun a hf => ?_
   refine zp 16 hf hS fun a hf => ?_
   refine dk ?_
   obtain rfl := oi hGc3
   have hf := hf.pn [4]
   have H := H.lt_ [false, false] [] [] []
   exact ⟨hf, H⟩
  ·have hf := hf.lit 11 rfl hc
   refine zU 7 hf hS fun a hf => ?_
   refine zU 8 hf hS fun a hf => ?_
   refine zU 9 hf hS fun a hf => ?_
   refine zU 10 hf hS fun a hf => ?_
   refine zU 11 hf hS fun a hf => ?_
   refine zU 12 hf hS fun a hf => ?_
   refine zU 13 hf hS fun a hf => ?_
   refine zU 14 hf hS fun a hf => ?_
   refine zp 15 hf hS fun a hf => ?_
   refine zp 16 hf hS fun a hf => ?_
   refine dk ?_
   obtain rfl := oi hGc3
   have hf := hf.pn [4]
   have H := H.lt_ [false, false] [] [] []
   exact ⟨hf, H⟩
 refine then_n (wp_ret (?_))
 obtain rfl := oi hF
 refine rT hf ?_
 exact ⟨_, rfl, H.bel, mk_bool⟩
theorem spec_l9Good_ok {S : Nat → Prop} {v0_ : Value} {p : Plan} {r : Bool} (h0 : VR w0 S v0_ p) (hF : spec_l9Good fu p = some r) :
    Calls Tryz.prog 49 [v0_].toArray w0 fun e w' => ∃ v, e = .returned v ∧ (Below w0.heap.size w0 w' ∧ VR w' (St ⟨w0, []⟩ S [] [] [] true) v r) := by
 obtain ⟨A, c, A2, c2, A3, c3, rfl, hl, hl2, hl3⟩ := Plan_open h0
 have H := Mem.start ⟨w0, []⟩ S
 have H := H.pA hl
 have H := H.pA hl2
 have H := H.pA hl3
 refine en Tryz.func49 fun a hf => ?_
 rw [spec_l9Good] at hF
 refine bx hf H fun b' a w hf H => ?_
 refine pz 1 hf fun a hf => ?_
 refine wl_end (then_n (sq (sq ?_)))
 obtain ⟨c4, hGc4, hF⟩ := bs_ hF
 have fh := hf.prune [1] rfl
 have Hm := H.lt_ [true] [] [] [0, 1, 2]
 refine midF 14 (.bool c4) fh Hm ?_ fun a w hf H => ?_
 ·refine reg (pz 1 hf fun a hf => ?_)
  refine lN 0 hf H TF.la34 fun a hf => ?_
  obtain ⟨y, hy, hGc4⟩ := bs_ hGc4
  refine oc hf TF.cl113 (spec_l2Good_ok (S := TT) (Network_mkv (x := p.Network) (H.rt 2 rfl) (H.rt 1 rfl)) hy) fun v w a hp hf => ?_
  obtain ⟨hb, hp⟩ := hp
  obtain rfl := VR_bool hp
  have H := H.keep hb
  refine pz 2 hf fun a hf => ?_
  refine iteB hGc4 (fun hc hGc4 => ?_) fun hc hGc4 => ?_
  ·have hf := hf.lit 9 rfl hc
   refine pz 5 hf fun a hf => ?_
   obtain rfl := oi hGc4
   have hf := hf.pn [14, 1]
   have H := H.lt_ [true] [] [] [0, 1, 2]
   exact wl_end ⟨hf, H⟩
  ·have hf := hf.lit 9 rfl hc
   refine pz 1 hf fun a hf => ?_
   refine wlg hf rfl rfl rfl (op_q hf (rq_loadB hf H TF.ls35 0 rfl rfl rfl) rfl (by decide) fun a hf => ?_)
   refine pz 3 hf fun a hf => ?_
   obtain rfl := oi hGc4
   have hf := hf.pn [14, 1]
   have H := H.lt_ [true] [] [] [0, 1, 2]
   exact wl_end ⟨hf, H⟩
 refine then_n (ib hF hf (fun hc2 hF => ?_) fun hc2 hF => ?_)
 ·refine sqz (pz 1 hf fun a hf => ?_)
  refine wl_end (then_n (wp_ret (then_r (?_))))
  obtain rfl := oi hF
  refine rT hf ?_
  exact ⟨_, rfl, H.bel, mk_bool⟩
 ·refine wp_skip (then_n (sq (sqz (pz 1 hf fun a hf => ?_))))
  refine wl_end (then_n ?_)
  obtain ⟨out', hB1, hF⟩ := bs_ hF
  have hf := hf.pn [1, 3]
  have H := H.lt_ [true] [] [] [0, 1, 2]
  refine loopC (fun (s : Int) (a : Act) (w : World) => match s with | i => Fr a 67 [(1, (.pointer (some ⟨b', 0, none⟩))), (3, (.int .i64 i))] ∧ Mem ⟨w0, []⟩ S [⟨b', 37, [(.slice A p.Network.Nodes.length c), (.slice A2 p.Network.Fibers.length c2), (.slice A3 p.Lights.length c3)]⟩] [] [] [(false, MP.val [(.slice A3 p.Lights.length c3)] (p.Lights : List Light)), (false, MP.val [(.slice A2 p.Network.Fibers.length c2)] (p.Network.Fibers : List Fiber)), (false, MP.val [(.slice A p.Network.Nodes.length c)] (p.Network.Nodes : List ByteArray))] w) (fun k (s : Int) => spec_l9Good_L1 fu p k s = some out') (fun s => out' = Out.next s) 0 fu hB1 ⟨hf, H⟩ (fun s h => by cases h) ?_ ?_
  ·rintro fk i a w hR1 hI
   replace hR1 : spec_l9Good_L1 fu p (fk + 1) i = some out' := hR1
   rw [spec_l9Good_L1] at hR1
   obtain ⟨hf, H⟩ := hI
   refine sq (sqz (pz 2 hf fun a hf => ?_))
   refine lB 0 hf H TF.ls35 fun a hf => ?_
   refine pz 2 hf fun a hf => ?_
   refine wl_end (then_n (ib hR1 hf (fun hc3 hR1 => ?_) fun hc3 hR1 => ?_))
   ·refine wp_skip (then_n (sq (wp_block (sq (sq ?_)))))
    obtain ⟨c5, hGc5, hR1⟩ := bs_ hR1
    have fh2 := hf.prune [1, 3] rfl
    have Hm2 := H.lt_ [true] [] [] [0, 1, 2]
    refine midF 50 (.bool c5) fh2 Hm2 ?_ fun a w hf H => ?_
    ·refine dw [] 29 fun w hb => ?_
     have H := H.keep hb
     refine zp 0 hf trivial fun a hf => ?_
     refine strT (H.lt_ [true] [] [] []) (fun w H => trivial) fun hS => ?_
     refine zS 1 [] rfl rfl rfl rfl hf hS (fun w H => rq_loadBN hf H TF.la34 0 rfl rfl rfl rfl) fun a hf => ?_
     refine zp 2 hf hS fun a hf => ?_
     refine zS 3 [] rfl rfl rfl rfl hf hS (fun w H => rq_loadB hf H TF.ls35 0 rfl rfl rfl) fun a hf => ?_
     refine zp 4 hf hS fun a hf => ?_
     obtain ⟨e, he, hGc5⟩ := bs_ hGc5
     obtain ⟨p2, o, cs, hx, hr, H⟩ := pre_iaddr H Tryz.underlying35 TF.sz73 0 rfl he
     refine zP 5 rfl rfl rfl rfl hf hS (fun w => rq_iaddrE hf rfl rfl rfl hx w) fun a hf => ?_
     obtain ⟨A4, c6, rfl, hl4⟩ := Light_cells hr
     have H := H.pF hl4
     refine strT (H.lt_ [true] [] [] [1]) (fun w H => H.lt_ [true] [] [] []) fun hS => ?_
     refine zS 6 [] rfl rfl rfl rfl hf hS (fun w H => rq_loadIN hf H TF.la73 0 0 rfl rfl rfl rfl) fun a hf => ?_
     obtain ⟨y2, hy2, hGc5⟩ := bs_ hGc5
     refine nn 7 rfl (oC hf TF.cl114 (spec_l9Light_ok (S := TT) (Network_mkv (x := p.Network) (H.rt 4 rfl) (H.rt 3 rfl)) (Light_mkv (x := e) (H.rt 0 rfl)) hy2) fun v2 w a hp2 hf => ?_)
     obtain ⟨hb2, hp2⟩ := hp2
     obtain rfl := VR_bool hp2
     have H := H.keep hb2
     have hS := H.lt_ [true] [] [] [1]
     refine aS hS ?_
     refine zp 8 hf hS fun a hf => ?_
     refine zp 9 hf hS fun a hf => ?_
     refine iteB hGc5 (fun hc4 hGc5 => ?_) fun hc4 hGc5 => ?_
     ·have hf := hf.lit 31 rfl hc4
      refine zU 10 hf hS fun a hf => ?_
      refine zU 11 hf hS fun a hf => ?_
      refine zU 12 hf hS fun a hf => ?_
      refine zV 13 hf hS fun a hf => ?_
      refine zV 14 hf hS fun a hf => ?_
      refine zV 15 hf hS fun a hf => ?_
      refine zV 16 hf hS fun a hf => ?_
      refine zV 17 hf hS fun a hf => ?_
      refine zV 18 hf hS fun a hf => ?_
      refine zV 19 hf hS fun a hf => ?_
      refine zV 20 hf hS fun a hf => ?_
      refine zV 21 hf hS fun a hf => ?_
      refine zV 22 hf hS fun a hf => ?_
      refine zV 23 hf hS fun a hf => ?_
      refine zV 24 hf hS fun a hf => ?_
      refine zV 25 hf hS fun a hf => ?_
      refine zV 26 hf hS fun a hf => ?_
      refine zU 27 hf hS fun a hf => ?_
      refine zp 28 hf hS fun a hf => ?_
      refine dk ?_
      obtain rfl := oi hGc5
      have hf := hf.pn [50, 1, 3]
      have H := H.lt_ [true] [] [] [2, 3, 4]
      exact ⟨hf, H⟩
     ·have hf := hf.lit 31 rfl hc4
      refine zg 10 hf hS fun a hf => ?_
      refine zg 11 hf hS fun a hf => ?_
      refine zg 12 hf hS fun a hf => ?_
      refine iteB hGc5 (fun hc5 hGc5 => ?_) fun hc5 hGc5 => ?_
      ·have hf := hf.lit 34 rfl hc5
       refine zg 13 hf hS fun a hf => ?_
       refine tSg 14 [] rfl rfl rfl rfl rfl rfl hf (by kernel_rfl) (by kernel_rfl) hS (fun w H => rq_loadB hf H TF.ls35 0 rfl rfl rfl) fun a hf => ?_
       refine zg 15 hf hS fun a hf => ?_
       refine zg 16 hf hS fun a hf => ?_
       obtain ⟨e2, he2, hGc5⟩ := bs_ hGc5
       obtain ⟨p3, o2, cs2, hx2, hr2, H⟩ := pre_iaddr H Tryz.underlying35 TF.sz73 2 rfl he2
       refine tPg 17 rfl rfl rfl rfl rfl rfl hf (by kernel_rfl) (fun _ => hS) (fun w => rq_iaddrE hf rfl rfl rfl hx2 w) fun a hf => ?_
       obtain ⟨A5, c7, rfl, hl5⟩ := Light_cells hr2
       have H := H.pF hl5
       refine zg 18 hf hS fun a hf => ?_
       refine strT (H.lt_ [true] [] [] [1, 3]) (fun w H => H.lt_ [true] [] [] [1]) fun hS => ?_
       refine tSg 19 [] rfl rfl rfl rfl rfl rfl hf (by kernel_rfl) (by kernel_rfl) hS (fun w H => rq_loadI hf H TF.ls3 0 0 rfl rfl rfl) fun a hf => ?_
       refine zg 20 hf hS fun a hf => ?_
       refine tSg 21 [] rfl rfl rfl rfl rfl rfl hf (by kernel_rfl) (by kernel_rfl) hS (fun w H => rq_loadB hf H TF.ls35 0 rfl rfl rfl) fun a hf => ?_
       refine zg 22 hf hS fun a hf => ?_
       obtain ⟨e3, he3, hGc5⟩ := bs_ hGc5
       obtain ⟨p4, o3, cs3, hx3, hr3, H⟩ := pre_iaddr H Tryz.underlying35 TF.sz73 4 rfl he3
       refine tPg 23 rfl rfl rfl rfl rfl rfl hf (by kernel_rfl) (fun _ => hS) (fun w => rq_iaddrE hf rfl rfl rfl hx3 w) fun a hf => ?_
       obtain ⟨A6, c8, rfl, hl6⟩ := Light_cells hr3
       have H := H.pF hl6
       refine zg 24 hf hS fun a hf => ?_
       refine strT (H.lt_ [true] [] [] [1, 3, 5]) (fun w H => H.lt_ [true] [] [] [1, 2]) fun hS => ?_
       refine tSg 25 [] rfl rfl rfl rfl rfl rfl hf (by kernel_rfl) (by kernel_rfl) hS (fun w H => rq_loadI hf H TF.ls3 0 0 rfl rfl rfl) fun a hf => ?_
       refine zg 26 hf hS fun a hf => ?_
       refine zg 27 hf hS fun a hf => ?_
       refine zp 28 hf hS fun a hf => ?_
       refine dk ?_
       obtain rfl := oi hGc5
       have hf := hf.pn [50, 1, 3]
       have H := H.lt_ [true] [] [] [6, 7, 8]
       exact ⟨hf, H⟩
      ·have hf := hf.lit 34 rfl hc5
       refine zU 13 hf hS fun a hf => ?_
       refine zU 14 hf hS fun a hf => ?_
       refine zU 15 hf hS fun a hf => ?_
       refine zU 16 hf hS fun a hf => ?_
       refine zU 17 hf hS fun a hf => ?_
       refine zU 18 hf hS fun a hf => ?_
       refine zU 19 hf hS fun a hf => ?_
       refine zU 20 hf hS fun a hf => ?_
       refine zU 21 hf hS fun a hf => ?_
       refine zU 22 hf hS fun a hf => ?_
       refine zU 23 hf hS fun a hf => ?_
       refine zU 24 hf hS fun a hf => ?_
       refine zU 25 hf hS fun a hf => ?_
       refine zU 26 hf hS fun a hf => ?_
       refine zg 27 hf hS fun a hf => ?_
       refine zp 28 hf hS fun a hf => ?_
       refine dk ?_
       obtain rfl := oi hGc5
       have hf := hf.pn [50, 1, 3]
       have H := H.lt_ [true] [] [] [2, 3, 4]
       exact ⟨hf, H⟩
    refine then_n (ib hR1 hf (fun hc6 hR1 => ?_) fun hc6 hR1 => ?_)
    ·refine sqz (pz 1 hf fun a hf => ?_)
     refine wl_end (then_n (wp_ret (then_r (blk_r (then_r (then_r (blk_r (then_r (then_r (?_))))))))))
     obtain rfl := oi hR1
     replace hF := on_ret hF
     obtain rfl := oi hF
     refine rT hf ?_
     exact ⟨_, rfl, H.bel, mk_bool⟩
    ·refine wp_skip (then_n (sqz (pz 1 hf fun a hf => ?_)))
     refine wl_end (then_n ?_)
     obtain ⟨out2, hB2, hR1⟩ := bs_ hR1
     have hf := hf.pn [1, 3, 4]
     have H := H.lt_ [true] [] [] [0, 1, 2]
     refine loopC (fun (s : Int) (a : Act) (w : World) => match s with | k' => Fr a 67 [(1, (.pointer (some ⟨b', 0, none⟩))), (3, (.int .i64 i)), (4, (.int .i64 k'))] ∧ Mem ⟨w0, []⟩ S [⟨b', 37, [(.slice A p.Network.Nodes.length c), (.slice A2 p.Network.Fibers.length c2), (.slice A3 p.Lights.length c3)]⟩] [] [] [(false, MP.val [(.slice A3 p.Lights.length c3)] (p.Lights : List Light)), (false, MP.val [(.slice A2 p.Network.Fibers.length c2)] (p.Network.Fibers : List Fiber)), (false, MP.val [(.slice A p.Network.Nodes.length c)] (p.Network.Nodes : List ByteArray))] w) (fun k (s : Int) => spec_l9Good_L2 fu p i k s = some out2) (fun s => out2 = Out.next s) 0 fu hB2 ⟨hf, H⟩ (fun s h => by cases h) ?_ ?_
     ·rintro fk k' a w hR2 hI
      replace hR2 : spec_l9Good_L2 fu p i (fk + 1) k' = some out2 := hR2
      rw [spec_l9Good_L2] at hR2
      obtain ⟨hf, H⟩ := hI
      refine sq (sqz (pz 3 hf fun a hf => ?_))
      refine wl_end (then_n (ib hR2 hf (fun hc7 hR2 => ?_) fun hc7 hR2 => ?_))
      ·refine wp_skip (then_n (sq (wp_block (sq (dw [] 11 fun w hb => ?_)))))
       have H := H.keep hb
       refine zp 0 hf trivial fun a hf => ?_
       refine strT (H.lt_ [true] [] [] []) (fun w H => trivial) fun hS => ?_
       refine zS 1 [] rfl rfl rfl rfl hf hS (fun w H => rq_loadB hf H TF.ls35 0 rfl rfl rfl) fun a hf => ?_
       refine zp 2 hf hS fun a hf => ?_
       obtain ⟨e4, he4, hR2⟩ := bs_ hR2
       obtain ⟨p5, o4, cs4, hx4, hr4, H⟩ := pre_iaddr H Tryz.underlying35 TF.sz73 0 rfl he4
       refine zP 3 rfl rfl rfl rfl hf hS (fun w => rq_iaddrE hf rfl rfl rfl hx4 w) fun a hf => ?_
       obtain ⟨A7, c9, rfl, hl7⟩ := Light_cells hr4
       have H := H.pF hl7
       refine strT (H.lt_ [true] [] [] [1]) (fun w H => H.lt_ [true] [] [] []) fun hS => ?_
       refine zS 4 [] rfl rfl rfl rfl hf hS (fun w H => rq_loadIN hf H TF.la73 0 0 rfl rfl rfl rfl) fun a hf => ?_
       refine zp 5 hf hS fun a hf => ?_
       refine zS 6 [] rfl rfl rfl rfl hf hS (fun w H => rq_loadB hf H TF.ls35 0 rfl rfl rfl) fun a hf => ?_
       refine zp 7 hf hS fun a hf => ?_
       obtain ⟨e5, he5, hR2⟩ := bs_ hR2
       obtain ⟨p6, o5, cs5, hx5, hr5, H⟩ := pre_iaddr H Tryz.underlying35 TF.sz73 2 rfl he5
       refine zP 8 rfl rfl rfl rfl hf hS (fun w => rq_iaddrE hf rfl rfl rfl hx5 w) fun a hf => ?_
       obtain ⟨A8, c10, rfl, hl8⟩ := Light_cells hr5
       have H := H.pF hl8
       refine strT (H.lt_ [true] [] [] [1, 3]) (fun w H => H.lt_ [true] [] [] [1]) fun hS => ?_
       refine zS 9 [] rfl rfl rfl rfl hf hS (fun w H => rq_loadIN hf H TF.la73 0 0 rfl rfl rfl rfl) fun a hf => ?_
       obtain ⟨y3, hy3, hR2⟩ := bs_ hR2
       refine nn 10 rfl (oC hf TF.cl115 (spec_l9Collide_ok (S := TT) (Light_mkv (x := e4) (H.rt 2 rfl)) (Light_mkv (x := e5) (H.rt 0 rfl)) hy3) fun v3 w a hp3 hf => ?_)
       obtain ⟨hb3, hp3⟩ := hp3
       obtain rfl := VR_bool hp3
       have H := H.keep hb3
       have hS := H.lt_ [true] [] [] [1, 3]
       refine aS hS ?_
       refine dk ?_
       have hf := hf.pn [1, 3, 4, 66]
       refine then_n (ib hR2 hf (fun hc8 hR2 => ?_) fun hc8 hR2 => ?_)
       ·refine sqz (pz 1 hf fun a hf => ?_)
        refine wl_end (then_n (wp_ret (blk_r (then_r (then_r (blk_r (then_r (blk_r (then_r (then_r (blk_r (then_r (then_r (?_))))))))))))))
        obtain rfl := oi hR2
        replace hR1 := on_ret hR1
        obtain rfl := oi hR1
        replace hF := on_ret hF
        obtain rfl := oi hF
        refine rT hf ?_
        exact ⟨_, rfl, H.bel, mk_bool⟩
       ·refine wp_skip (blk_n (then_n (reg (pz 3 hf fun a hf => ?_))))
        refine wl_end ?_
        have hf := hf.pn [1, 3, 4]
        have H := H.lt_ [true] [] [] [4, 5, 6]
        exact then_n ⟨w64 (k' + 1), hR2, hf, H⟩
      ·refine wp_exit (then_x (then_x (blk_e (?_))))
       have hf := hf.pn [1, 3, 4]
       have H := H.lt_ [true] [] [] [0, 1, 2]
       exact ⟨k', (Option.some.inj hR2).symm, hf, H⟩
     rintro a w ⟨k2, rfl, hf, H⟩
     replace hR1 := on_next hR1
     refine blk_n (then_n (reg (pz 3 hf fun a hf => ?_)))
     refine wl_end ?_
     have hf := hf.pn [1, 3]
     have H := H.lt_ [true] [] [] [0, 1, 2]
     exact then_n ⟨w64 (i + 1), hR1, hf, H⟩
   ·refine wp_exit (then_x (then_x (blk_e (?_))))
    have hf := hf.pn [1, 3]
    have H := H.lt_ [true] [] [] [0, 1, 2]
    exact ⟨i, (Option.some.inj hR1).symm, hf, H⟩
  rintro a w ⟨i2, rfl, hf, H⟩
  replace hF := on_next hF
  refine then_n (sqz (pz 1 hf fun a hf => ?_))
  refine wer ?_
  obtain rfl := oi hF
  refine rT hf ?_
  exact ⟨_, rfl, H.bel, mk_bool⟩
theorem spec_l21Requests_ok {S : Nat → Prop} {v0_ : Value} {p : Plan} {r : List Request} (h0 : VR w0 S v0_ p) (hF : spec_l21Requests fu p = some r) :
    Calls Tryz.prog 51 [v0_].toArray w0 fun e w' => ∃ v, e = .returned v ∧ (Below w0.heap.size w0 w' ∧ VR w' (St ⟨w0, []⟩ S [] [] [] false) v r) := by
 obtain ⟨A, c, A2, c2, A3, c3, rfl, hl, hl2, hl3⟩ := Plan_open h0
 have H := Mem.start ⟨w0, []⟩ S
 have H := H.pA hl
 have H := H.pA hl2
 have H := H.pA hl3
 refine en Tryz.func51 fun a hf => ?_
 rw [spec_l21Requests] at hF
 refine bx hf H fun b' a w hf H => ?_
 refine pz 1 hf fun a hf => ?_
 refine wr (wl0 rfl (bl hf H 61 ([] : List Request) [] el0 fun A4 a w hf H => ?_))
 refine pz 1 hf fun a hf => ?_
 refine we (sqz (pz 1 hf fun a hf => ?_))
 refine wl_end (then_n ?_)
 have H := H.rowWeak 0 rfl
 obtain ⟨out2, hB1, hF⟩ := bs_ hF
 have hf := hf.pn [1, 3, 4]
 have H := H.lt_ [true] [true] [] [0, 1, 2]
 refine loopC (fun (s : List Request × Int) (a : Act) (w : World) => match s with | (out', i) => ∃ (A5 : Option Addr) (c4 : Nat) (E : Go.TypeId), Fr a 31 [(1, (.pointer (some ⟨b', 0, none⟩))), (3, (.slice A5 out'.length c4)), (4, (.int .i64 i))] ∧ Mem ⟨w0, []⟩ S [⟨b', 37, [(.slice A p.Network.Nodes.length c), (.slice A2 p.Network.Fibers.length c2), (.slice A3 p.Lights.length c3)]⟩] [⟨.sh false, E, A5, c4, (out' : List Request)⟩] [] [(false, MP.val [(.slice A3 p.Lights.length c3)] (p.Lights : List Light)), (false, MP.val [(.slice A2 p.Network.Fibers.length c2)] (p.Network.Fibers : List Fiber)), (false, MP.val [(.slice A p.Network.Nodes.length c)] (p.Network.Nodes : List ByteArray))] w) (fun k (s : List Request × Int) => spec_l21Requests_L1 fu p k s.1 s.2 = some out2) (fun s => out2 = s) (([] : List Request), 0) fu hB1 ⟨A4, 0, 61, hf, H⟩ (fun s h => by cases h) ?_ ?_
 ·rintro fk ⟨out', i⟩ a w hR1 hI
  replace hR1 : spec_l21Requests_L1 fu p (fk + 1) out' i = some out2 := hR1
  rw [spec_l21Requests_L1] at hR1
  obtain ⟨A5, c4, E, hf, H⟩ := hI
  refine sq (sqz (pz 2 hf fun a hf => ?_))
  refine lB 0 hf H TF.ls35 fun a hf => ?_
  refine pz 2 hf fun a hf => ?_
  refine wl_end (then_n (ib hR1 hf (fun hc hR1 => ?_) fun hc hR1 => ?_))
  ·refine wp_skip (then_n (sq (wp_block (dw [] 18 fun w hb => ?_))))
   have H := H.keep hb
   refine zp 0 hf trivial fun a hf => ?_
   refine zp 1 hf trivial fun a hf => ?_
   refine strT (H.lt_ [true] [false] [] []) (fun w H => trivial) fun hS => ?_
   refine zS 2 [] rfl rfl rfl rfl hf hS (fun w H => rq_loadB hf H TF.ls35 0 rfl rfl rfl) fun a hf => ?_
   refine zp 3 hf hS fun a hf => ?_
   obtain ⟨e, he, hR1⟩ := bs_ hR1
   obtain ⟨p2, o, cs, hx, hr, H⟩ := pre_iaddr H Tryz.underlying35 TF.sz73 0 rfl he
   refine zP 4 rfl rfl rfl rfl hf hS (fun w => rq_iaddrE hf rfl rfl rfl hx w) fun a hf => ?_
   obtain ⟨A6, c5, rfl, hl4⟩ := Light_cells hr
   have H := H.pF hl4
   refine zp 5 hf hS fun a hf => ?_
   refine strT (H.lt_ [true] [false] [] [1]) (fun w H => H.lt_ [true] [] [] []) fun hS => ?_
   refine zS 6 [] rfl rfl rfl rfl hf hS (fun w H => rq_loadIN hf H TF.la59 0 1 rfl rfl rfl rfl) fun a hf => ?_
   refine zp 7 hf hS fun a hf => ?_
   refine zS 8 [] rfl rfl rfl rfl hf hS (fun w H => rq_loadB hf H TF.ls35 0 rfl rfl rfl) fun a hf => ?_
   refine zp 9 hf hS fun a hf => ?_
   obtain ⟨e2, he2, hR1⟩ := bs_ hR1
   obtain ⟨p3, o2, cs2, hx2, hr2, H⟩ := pre_iaddr H Tryz.underlying35 TF.sz73 2 rfl he2
   refine zP 10 rfl rfl rfl rfl hf hS (fun w => rq_iaddrE hf rfl rfl rfl hx2 w) fun a hf => ?_
   obtain ⟨A7, c6, rfl, hl5⟩ := Light_cells hr2
   have H := H.pF hl5
   refine zp 11 hf hS fun a hf => ?_
   refine zp 12 hf hS fun a hf => ?_
   refine strT (H.lt_ [true] [false] [] [1, 3]) (fun w H => H.lt_ [true] [] [] [1]) fun hS => ?_
   refine zS 13 [] rfl rfl rfl rfl hf hS (fun w H => rq_loadI hf H TF.ls3 0 4 rfl rfl rfl) fun a hf => ?_
   refine zP 14 rfl rfl rfl rfl hf hS (fun w => rq_build hf (cs := [(.int .i64 e.Route.Start), (.slice A6 e.Route.Fibers.length c5), (.int .i64 e2.Block.Count)]) rfl (fun w => by kernel_rfl)) fun a hf => ?_
   refine nn 15 rfl (op_bslice hf H (.sh false) rfl 61 ([({ Route := e.Route, Count := e2.Block.Count } : Request)] : List Request) [(.int .i64 e.Route.Start), (.slice A6 e.Route.Fibers.length c5), (.int .i64 e2.Block.Count)] rfl (fun w => by kernel_rfl) rfl (by decide) rfl trivial (el1 (y := ({ Route := e.Route, Count := e2.Block.Count } : Request)) ((Request_mk (x := ({ Route := e.Route, Count := e2.Block.Count } : Request)) (H.get 2 rfl)))) (by decide) fun A8 a w hf H => ?_)
   have hS := H.lt_ [true] [false, false] [] [1, 3]
   refine aS hS ?_
   obtain ⟨l, hl_, hR1⟩ := bs_ hR1
   refine nn 16 rfl (op_appR hf H Tryz.underlying46 TF.ai61 rfl (by decide) 1 0 rfl rfl rfl rfl (.inl rfl) hl_ (by decide) fun E2 A9 c7 a w hf H => ?_)
   have hS := H.lt_ [true] [false, false] [] [1, 3]
   refine aS hS ?_
   refine zp 17 hf hS fun a hf => ?_
   refine dk ?_
   have hf := hf.pn [1, 3, 4]
   refine blk_n (then_n (reg (pz 3 hf fun a hf => ?_)))
   refine wl_end ?_
   have hf := hf.pn [1, 3, 4]
   have H := H.lt_ [true] [false, true] [] [4, 5, 6]
   exact then_n ⟨(l, w64 (i + 1)), hR1, A9, c7, E2, hf, H⟩
  ·refine wp_exit (then_x (then_x (blk_e (?_))))
   have hf := hf.pn [1, 3, 4]
   have H := H.lt_ [true] [true] [] [0, 1, 2]
   exact ⟨(out', i), (Option.some.inj hR1).symm, A5, c4, E, hf, H⟩
 rintro a w ⟨⟨out3, i2⟩, rfl, A10, c8, E3, hf, H⟩
 try dsimp only at hF
 refine then_n (sqz (pz 2 hf fun a hf => ?_))
 refine wer ?_
 have H := H.freeze 0 rfl
 obtain rfl := oi hF
 refine rT hf ?_
 exact ⟨_, rfl, H.bel, (mk_list (rep_end (α := List Request) (H.get 0 rfl)))⟩
theorem spec_l12Conflict_ok {S : Nat → Prop} {v0_ : Value} {v1_ : Value} {a' : Request} {b' : Request} {r : Bool} (h0 : VR w0 S v0_ a') (h1 : VR w0 S v1_ b') (hF : spec_l12Conflict fu a' b' = some r) :
    Calls Tryz.prog 210 [v0_, v1_].toArray w0 fun e w' => ∃ v, e = .returned v ∧ (Below w0.heap.size w0 w' ∧ VR w' (St ⟨w0, []⟩ S [] [] [] true) v r) := by
 obtain ⟨A, c, rfl, hl⟩ := Request_open h0
 obtain ⟨A2, c2, rfl, hl2⟩ := Request_open h1
 have H := Mem.start ⟨w0, []⟩ S
 have H := H.pA hl
 have H := H.pA hl2
 refine en Tryz.func210 fun a hf => ?_
 rw [spec_l12Conflict] at hF
 refine bx hf H fun b2 a w hf H => ?_
 refine wl0 rfl (op_box hf H rfl rfl (by decide) fun b3 a w hf H => ?_)
 refine pz 1 hf fun a hf => ?_
 refine wr (pz 1 hf fun a hf => ?_)
 refine lN 1 hf H TF.la59 fun a hf => ?_
 refine pz 2 hf fun a hf => ?_
 refine lB 0 hf H TF.ls47 fun a hf => ?_
 obtain ⟨y, hy, hF⟩ := bs_ hF
 refine oc hf TF.cl181 (spec_l4Uses_ok (S := TT) (Route_mkv (x := a'.Route) (H.rt 1 rfl)) (mk_list (H.rt 0 rfl)) hy) fun v w a hp hf => ?_
 obtain ⟨hb, hp⟩ := hp
 obtain rfl := VR_bool hp
 have H := H.keep hb
 refine pz 1 hf fun a hf => ?_
 refine wer ?_
 obtain rfl := oi hF
 refine rT hf ?_
 exact ⟨_, rfl, H.bel, mk_bool⟩
theorem spec_l12Clique_ok {S : Nat → Prop} {v0_ : Value} {v1_ : Value} {list : List Request} {mask : Int} {r : Int} (h0 : VR w0 S v0_ list) (h1 : VR w0 S v1_ mask) (hF : spec_l12Clique fu list mask = some r) :
    Calls Tryz.prog 183 [v0_, v1_].toArray w0 fun e w' => ∃ v, e = .returned v ∧ (Below w0.heap.size w0 w' ∧ VR w' (St ⟨w0, []⟩ S [] [] [] true) v r) := by
 obtain ⟨A, c, rfl, hl⟩ := VR_list h0
 obtain rfl := VR_int h1
 have H := Mem.start ⟨w0, []⟩ S
 have H := H.pA hl
 refine en Tryz.func183 fun a hf => ?_
 rw [spec_l12Clique] at hF
 refine sqz (pz 1 hf fun a hf => ?_)
 refine wr (pz 1 hf fun a hf => ?_)
 refine we (sqz (pz 1 hf fun a hf => ?_))
 refine wl_end (then_n ?_)
 obtain ⟨out', hB1, hF⟩ := bs_ hF
 have hf := hf.pn [0, 1, 5, 6]
 have H := H.lt_ [] [] [] [0]
 refine loopC (fun (s : Int × Int) (a : Act) (w : World) => match s with | (i, sum) => Fr a 51 [(0, (.slice A list.length c)), (1, (.int .i64 mask)), (5, (.int .i64 sum)), (6, (.int .i64 i))] ∧ Mem ⟨w0, []⟩ S [] [] [] [(false, MP.val [(.slice A list.length c)] (list : List Request))] w) (fun k (s : Int × Int) => spec_l12Clique_L1 fu list mask k s.1 s.2 = some out') (fun s => out' = Out.next s) (0, 0) fu hB1 ⟨hf, H⟩ (fun s h => by cases h) ?_ ?_
 ·rintro fk ⟨i, sum⟩ a w hR1 hI
  replace hR1 : spec_l12Clique_L1 fu list mask (fk + 1) i sum = some out' := hR1
  rw [spec_l12Clique_L1] at hR1
  obtain ⟨hf, H⟩ := hI
  refine sq (sqz (pz 4 hf fun a hf => ?_))
  refine wl_end (then_n (ib hR1 hf (fun hc hR1 => ?_) fun hc hR1 => ?_))
  ·refine wp_skip (then_n (sq (wp_block (sq (sqz (pz 2 hf fun a hf => ?_))))))
   refine oq hf (rq_conv u64w Tryz.underlying3 Tryz.underlying132 hf rfl) fun a hf => ?_
   obtain ⟨q, hq, hR1⟩ := bs_ hR1
   refine oq hf (rq_shr hf rfl rfl hq) fun a hf => ?_
   refine pz 2 hf fun a hf => ?_
   refine wl_end (then_n (ib hR1 hf (fun hc2 hR1 => ?_) fun hc2 hR1 => ?_))
   ·refine wp_exit (then_x (blk_e (?_)))
    refine then_n (reg (pz 3 hf fun a hf => ?_))
    refine wl_end ?_
    have hf := hf.pn [0, 1, 5, 6]
    have H := H.lt_ [] [] [] [0]
    exact then_n ⟨(w64 (i + 1), sum), hR1, hf, H⟩
   ·refine wp_skip (then_n (sqz (pz 3 hf fun a hf => ?_)))
    obtain ⟨e, he, hR1⟩ := bs_ hR1
    refine wl0 rfl (op_iaddr hf H Tryz.underlying46 TF.sz61 0 rfl rfl rfl he (by decide) fun p o cs a hf hr H => ?_)
    obtain ⟨A2, c2, rfl, hl2⟩ := Request_cells hr
    have H := H.pF hl2
    refine pz 1 hf fun a hf => ?_
    refine oq hf (rq_loadI hf H TF.ls3 1 2 rfl rfl rfl) fun a hf => ?_
    refine pz 2 hf fun a hf => ?_
    have hf := hf.pn [0, 1, 5, 6]
    refine wr (pz 1 hf fun a hf => ?_)
    refine wl_end (then_n ?_)
    obtain ⟨out2, hB2, hR1⟩ := bs_ hR1
    have hf := hf.pn [0, 1, 5, 6, 7]
    have H := H.lt_ [] [] [] [2]
    refine loopC (fun (s : Int) (a : Act) (w : World) => match s with | k' => Fr a 51 [(0, (.slice A list.length c)), (1, (.int .i64 mask)), (5, (.int .i64 (w64 (sum + e.Count)))), (6, (.int .i64 i)), (7, (.int .i64 k'))] ∧ Mem ⟨w0, []⟩ S [] [] [] [(false, MP.val [(.slice A list.length c)] (list : List Request))] w) (fun k (s : Int) => spec_l12Clique_L2 fu list mask i k s = some out2) (fun s => out2 = Out.next s) 0 fu hB2 ⟨hf, H⟩ (fun s h => by cases h) ?_ ?_
    ·rintro fk k' a w hR2 hI
     replace hR2 : spec_l12Clique_L2 fu list mask i (fk + 1) k' = some out2 := hR2
     rw [spec_l12Clique_L2] at hR2
     obtain ⟨hf, H⟩ := hI
     refine sq (sqz (pz 3 hf fun a hf => ?_))
     refine wl_end (then_n (ib hR2 hf (fun hc3 hR2 => ?_) fun hc3 hR2 => ?_))
     ·refine wp_skip (then_n (sq (wp_block (sq ?_))))
      obtain ⟨c3, hGc3, hR2⟩ := bs_ hR2
      have fh := hf.prune [0, 1, 5, 6, 7] rfl
      have Hm := H.lt_ [] [] [] [0]
      refine midF 49 (.bool c3) fh Hm ?_ fun a w hf H => ?_
      ·refine dw [] 18 fun w hb => ?_
       have H := H.keep hb
       refine zp 0 hf trivial fun a hf => ?_
       refine zp 1 hf trivial fun a hf => ?_
       refine nn 2 rfl (op_q hf (rq_conv u64w Tryz.underlying3 Tryz.underlying132 hf rfl) rfl (by decide) fun a hf => ?_)
       refine ⟨fun _ => trivial, ?_⟩
       obtain ⟨q2, hq2, hGc3⟩ := bs_ hGc3
       refine tP 3 rfl rfl rfl rfl hf (by kernel_rfl) (fun _ => trivial) (fun w => rq_shr hf rfl rfl hq2) fun a hf => ?_
       refine zp 4 hf trivial fun a hf => ?_
       refine zp 5 hf trivial fun a hf => ?_
       refine zp 6 hf trivial fun a hf => ?_
       refine iteB hGc3 (fun hc4 hGc3 => ?_) fun hc4 hGc3 => ?_
       ·have hf := hf.lit 38 rfl hc4
        refine zg 7 hf trivial fun a hf => ?_
        refine zg 8 hf trivial fun a hf => ?_
        obtain ⟨e2, he2, hGc3⟩ := bs_ hGc3
        obtain ⟨p2, o2, cs2, hx, hr2, H⟩ := pre_iaddr H Tryz.underlying46 TF.sz61 0 rfl he2
        refine tPg 9 rfl rfl rfl rfl rfl rfl hf (by kernel_rfl) (fun _ => trivial) (fun w => rq_iaddrE hf rfl rfl rfl hx w) fun a hf => ?_
        obtain ⟨A3, c4, rfl, hl3⟩ := Request_cells hr2
        have H := H.pF hl3
        refine strT (H.lt_ [] [] [] [1]) (fun w H => trivial) fun hS => ?_
        refine tSg 10 [] rfl rfl rfl rfl rfl rfl hf (by kernel_rfl) (by kernel_rfl) hS (fun w H => rq_loadIN hf H TF.la61 0 0 rfl rfl rfl rfl) fun a hf => ?_
        refine zg 11 hf hS fun a hf => ?_
        refine zg 12 hf hS fun a hf => ?_
        obtain ⟨e3, he3, hGc3⟩ := bs_ hGc3
        obtain ⟨p3, o3, cs3, hx2, hr3, H⟩ := pre_iaddr H Tryz.underlying46 TF.sz61 2 rfl he3
        refine tPg 13 rfl rfl rfl rfl rfl rfl hf (by kernel_rfl) (fun _ => hS) (fun w => rq_iaddrE hf rfl rfl rfl hx2 w) fun a hf => ?_
        obtain ⟨A4, c5, rfl, hl4⟩ := Request_cells hr3
        have H := H.pF hl4
        refine strT (H.lt_ [] [] [] [1, 3]) (fun w H => H.lt_ [] [] [] [1]) fun hS => ?_
        refine tSg 14 [] rfl rfl rfl rfl rfl rfl hf (by kernel_rfl) (by kernel_rfl) hS (fun w H => rq_loadIN hf H TF.la61 0 0 rfl rfl rfl rfl) fun a hf => ?_
        obtain ⟨y, hy, hGc3⟩ := bs_ hGc3
        refine n1g 15 (by kernel_rfl) rfl rfl rfl rfl hf (oC hf TF.cl210 (spec_l12Conflict_ok (S := TT) (Request_mkv (x := e2) (H.rt 2 rfl)) (Request_mkv (x := e3) (H.rt 0 rfl)) hy) fun v w a hp hf => ?_)
        obtain ⟨hb, hp⟩ := hp
        obtain rfl := VR_bool hp
        have H := H.keep hb
        have hS := H.lt_ [] [] [] [1, 3]
        refine aS hS ?_
        refine zg 16 hf hS fun a hf => ?_
        refine zp 17 hf hS fun a hf => ?_
        refine dk ?_
        obtain rfl := oi hGc3
        have hf := hf.pn [49, 0, 1, 5, 6, 7]
        have H := H.lt_ [] [] [] [4]
        exact ⟨hf, H⟩
       ·have hf := hf.lit 38 rfl hc4
        refine zU 7 hf trivial fun a hf => ?_
        refine zU 8 hf trivial fun a hf => ?_
        refine zU 9 hf trivial fun a hf => ?_
        refine zU 10 hf trivial fun a hf => ?_
        refine zU 11 hf trivial fun a hf => ?_
        refine zU 12 hf trivial fun a hf => ?_
        refine zU 13 hf trivial fun a hf => ?_
        refine zU 14 hf trivial fun a hf => ?_
        refine zU 15 hf trivial fun a hf => ?_
        refine zU 16 hf trivial fun a hf => ?_
        refine zp 17 hf trivial fun a hf => ?_
        refine dk ?_
        obtain rfl := oi hGc3
        have hf := hf.pn [49, 0, 1, 5, 6, 7]
        have H := H.lt_ [] [] [] [0]
        exact ⟨hf, H⟩
      refine then_n (ib hR2 hf (fun hc5 hR2 => ?_) fun hc5 hR2 => ?_)
      ·refine sqz (pz 1 hf fun a hf => ?_)
       refine wl_end (then_n (wp_ret (blk_r (then_r (then_r (blk_r (then_r (blk_r (then_r (then_r (blk_r (then_r (then_r (?_))))))))))))))
       obtain rfl := oi hR2
       replace hR1 := on_ret hR1
       obtain rfl := oi hR1
       replace hF := on_ret hF
       obtain rfl := oi hF
       refine rT hf ?_
       exact ⟨_, rfl, H.bel, mk_int⟩
      ·refine wp_skip (blk_n (then_n (reg (pz 3 hf fun a hf => ?_))))
       refine wl_end ?_
       have hf := hf.pn [0, 1, 5, 6, 7]
       have H := H.lt_ [] [] [] [0]
       exact then_n ⟨w64 (k' + 1), hR2, hf, H⟩
     ·refine wp_exit (then_x (then_x (blk_e (?_))))
      have hf := hf.pn [0, 1, 5, 6, 7]
      have H := H.lt_ [] [] [] [0]
      exact ⟨k', (Option.some.inj hR2).symm, hf, H⟩
    rintro a w ⟨k2, rfl, hf, H⟩
    replace hR1 := on_next hR1
    refine blk_n (then_n (reg (pz 3 hf fun a hf => ?_)))
    refine wl_end ?_
    have hf := hf.pn [0, 1, 5, 6]
    have H := H.lt_ [] [] [] [0]
    exact then_n ⟨(w64 (i + 1), w64 (sum + e.Count)), hR1, hf, H⟩
  ·refine wp_exit (then_x (then_x (blk_e (?_))))
   have hf := hf.pn [0, 1, 5, 6]
   have H := H.lt_ [] [] [] [0]
   exact ⟨(i, sum), (Option.some.inj hR1).symm, hf, H⟩
 rintro a w ⟨⟨i2, sum2⟩, rfl, hf, H⟩
 replace hF := on_next hF
 try dsimp only at hF
 refine then_n (sqz (pz 2 hf fun a hf => ?_))
 refine wer ?_
 obtain rfl := oi hF
 refine rT hf ?_
 exact ⟨_, rfl, H.bel, mk_int⟩
theorem spec_l12Bound_ok {S : Nat → Prop} {v0_ : Value} {list : List Request} {r : Int × Int} (h0 : VR w0 S v0_ list) (hF : spec_l12Bound fu list = some r) :
    Calls Tryz.prog 116 [v0_].toArray w0 fun e w' => ∃ v, e = .returned v ∧ (Below w0.heap.size w0 w' ∧ ∃ u0 u1, v = .tuple #[u0, u1] ∧ VR w' (St ⟨w0, []⟩ S [] [] [] true) u0 r.1 ∧ VR w' (St ⟨w0, []⟩ S [] [] [] true) u1 r.2) := by
 obtain ⟨A, c, rfl, hl⟩ := VR_list h0
 have H := Mem.start ⟨w0, []⟩ S
 have H := H.pA hl
 refine en Tryz.func116 fun a hf => ?_
 rw [spec_l12Bound] at hF
 refine sqz (pz 2 hf fun a hf => ?_)
 refine wr (pz 2 hf fun a hf => ?_)
 refine we (sqz (pz 1 hf fun a hf => ?_))
 refine wl_end (then_n ?_)
 obtain ⟨out', hB1, hF⟩ := bs_ hF
 have hf := hf.pn [0, 4, 5, 6]
 have H := H.lt_ [] [] [] [0]
 refine loopC (fun (s : Int × Int × Int) (a : Act) (w : World) => match s with | (most, best, mask) => Fr a 26 [(0, (.slice A list.length c)), (4, (.int .i64 most)), (5, (.int .i64 best)), (6, (.int .i64 mask))] ∧ Mem ⟨w0, []⟩ S [] [] [] [(false, MP.val [(.slice A list.length c)] (list : List Request))] w) (fun k (s : Int × Int × Int) => spec_l12Bound_L1 fu list k s.1 s.2.1 s.2.2 = some out') (fun s => out' = s) (0, 0, 1) fu hB1 ⟨hf, H⟩ (fun s h => by cases h) ?_ ?_
 ·rintro fk ⟨most, best, mask⟩ a w hR1 hI
  replace hR1 : spec_l12Bound_L1 fu list (fk + 1) most best mask = some out' := hR1
  rw [spec_l12Bound_L1] at hR1
  obtain ⟨hf, H⟩ := hI
  refine sq (sqz (pz 3 hf fun a hf => ?_))
  refine oq hf (rq_conv u64w Tryz.underlying3 Tryz.underlying132 hf rfl) fun a hf => ?_
  obtain ⟨q, hq, hR1⟩ := bs_ hR1
  refine oq hf (rq_shl hf rfl rfl hq) fun a hf => ?_
  refine pz 1 hf fun a hf => ?_
  refine wl_end (then_n (ib hR1 hf (fun hc hR1 => ?_) fun hc hR1 => ?_))
  ·refine ws (pz 2 hf fun a hf => ?_)
   obtain ⟨y, hy, hR1⟩ := bs_ hR1
   refine oc hf TF.cl183 (spec_l12Clique_ok (S := TT) (mk_list (H.rt 0 rfl)) mk_int hy) fun v w a hp hf => ?_
   obtain ⟨hb, hp⟩ := hp
   obtain rfl := VR_int hp
   have H := H.keep hb
   refine pz 1 hf fun a hf => ?_
   refine wr (pz 3 hf fun a hf => ?_)
   refine wl_end (then_n (ib hR1 hf (fun hc2 hR1 => ?_) fun hc2 hR1 => ?_))
   ·refine sqz (pz 2 hf fun a hf => ?_)
    have hf := hf.pn [0, 4, 6]
    refine wl_end (then_n (reg (pz 2 hf fun a hf => ?_)))
    refine wl_end (blk_n (then_n (reg (pz 3 hf fun a hf => ?_))))
    refine wl_end ?_
    have hf := hf.pn [0, 4, 5, 6]
    have H := H.lt_ [] [] [] [0]
    exact then_n ⟨(y, mask, w64 (mask + 1)), hR1, hf, H⟩
   ·refine wp_skip (blk_n (then_n (reg (pz 3 hf fun a hf => ?_))))
    have hf := hf.pn [0, 4, 5, 6]
    refine wl_end ?_
    have hf := hf.pn [0, 4, 5, 6]
    have H := H.lt_ [] [] [] [0]
    exact then_n ⟨(most, best, w64 (mask + 1)), hR1, hf, H⟩
  ·refine wp_exit (then_x (then_x (blk_e (?_))))
   have hf := hf.pn [0, 4, 5, 6]
   have H := H.lt_ [] [] [] [0]
   exact ⟨(most, best, mask), (Option.some.inj hR1).symm, hf, H⟩
 rintro a w ⟨⟨most2, best2, mask2⟩, rfl, hf, H⟩
 try dsimp only at hF
 refine then_n (sqz (pz 4 hf fun a hf => ?_))
 refine wer ?_
 obtain rfl := oi hF
 refine ret_2 hf rfl (rv_tmp hf rfl) (rv_tmp hf rfl) ?_
 exact ⟨_, rfl, H.bel, _, _, rfl, mk_int, mk_int⟩
theorem spec_l12Taken_ok {S : Nat → Prop} {v0_ : Value} {v1_ : Value} {v2_ : Value} {list : List Request} {blocks : List Block} {i : Int} {r : Int} (h0 : VR w0 S v0_ list) (h1 : VR w0 S v1_ blocks) (h2 : VR w0 S v2_ i) (hF : spec_l12Taken fu list blocks i = some r) :
    Calls Tryz.prog 150 [v0_, v1_, v2_].toArray w0 fun e w' => ∃ v, e = .returned v ∧ (Below w0.heap.size w0 w' ∧ VR w' (St ⟨w0, []⟩ S [] [] [] true) v r) := by
 obtain ⟨A, c, rfl, hl⟩ := VR_list h0
 obtain ⟨A2, c2, rfl, hl2⟩ := VR_list h1
 obtain rfl := VR_int h2
 have H := Mem.start ⟨w0, []⟩ S
 have H := H.pA hl
 have H := H.pA hl2
 refine en Tryz.func150 fun a hf => ?_
 rw [spec_l12Taken] at hF
 refine sqz (pz 1 hf fun a hf => ?_)
 refine wr (pz 1 hf fun a hf => ?_)
 refine we (sqz (pz 1 hf fun a hf => ?_))
 refine wl_end (then_n ?_)
 obtain ⟨out2, hB1, hF⟩ := bs_ hF
 have hf := hf.pn [0, 1, 2, 7, 8]
 have H := H.lt_ [] [] [] [0, 1]
 refine loopC (fun (s : Int × Int) (a : Act) (w : World) => match s with | (out', k') => Fr a 45 [(0, (.slice A list.length c)), (1, (.slice A2 blocks.length c2)), (2, (.int .i64 i)), (7, (.int .i64 out')), (8, (.int .i64 k'))] ∧ Mem ⟨w0, []⟩ S [] [] [] [(false, MP.val [(.slice A2 blocks.length c2)] (blocks : List Block)), (false, MP.val [(.slice A list.length c)] (list : List Request))] w) (fun k (s : Int × Int) => spec_l12Taken_L1 fu list blocks i k s.1 s.2 = some out2) (fun s => out2 = s) (0, 0) fu hB1 ⟨hf, H⟩ (fun s h => by cases h) ?_ ?_
 ·rintro fk ⟨out', k'⟩ a w hR1 hI
  replace hR1 : spec_l12Taken_L1 fu list blocks i (fk + 1) out' k' = some out2 := hR1
  rw [spec_l12Taken_L1] at hR1
  obtain ⟨hf, H⟩ := hI
  refine sq (sqz (pz 4 hf fun a hf => ?_))
  refine wl_end (then_n (ib hR1 hf (fun hc hR1 => ?_) fun hc hR1 => ?_))
  ·refine wp_skip (then_n (sq (wp_block (sq ?_))))
   obtain ⟨c3, hGc3, hR1⟩ := bs_ hR1
   have fh := hf.prune [0, 1, 2, 7, 8] rfl
   have Hm := H.lt_ [] [] [] [0, 1]
   refine midF 36 (.bool c3) fh Hm ?_ fun a w hf H => ?_
   ·refine dw [] 22 fun w hb => ?_
    have H := H.keep hb
    refine zp 0 hf trivial fun a hf => ?_
    refine zp 1 hf trivial fun a hf => ?_
    refine zp 2 hf trivial fun a hf => ?_
    refine zp 3 hf trivial fun a hf => ?_
    refine iteB hGc3 (fun hc2 hGc3 => ?_) fun hc2 hGc3 => ?_
    ·have hf := hf.lit 18 rfl hc2
     refine zg 4 hf trivial fun a hf => ?_
     refine zg 5 hf trivial fun a hf => ?_
     obtain ⟨e, he, hGc3⟩ := bs_ hGc3
     obtain ⟨p, o, cs, hx, hr, H⟩ := pre_iaddr H Tryz.underlying50 TF.sz71 0 rfl he
     refine tPg 6 rfl rfl rfl rfl rfl rfl hf (by kernel_rfl) (fun _ => trivial) (fun w => rq_iaddrE hf rfl rfl rfl hx w) fun a hf => ?_
     obtain rfl := Block_cells hr
     refine zg 7 hf trivial fun a hf => ?_
     refine strT (H.lt_ [] [] [] [0]) (fun w H => trivial) fun hS => ?_
     refine tSg 8 [] rfl rfl rfl rfl rfl rfl hf (by kernel_rfl) (by kernel_rfl) hS (fun w H => rq_loadI hf H TF.ls3 0 1 rfl rfl rfl) fun a hf => ?_
     refine zg 9 hf hS fun a hf => ?_
     refine zp 10 hf hS fun a hf => ?_
     refine zp 11 hf hS fun a hf => ?_
     refine iteB hGc3 (fun hc3 hGc3 => ?_) fun hc3 hGc3 => ?_
     ·have hf := hf.lit 26 rfl hc3
      refine zg 12 hf hS fun a hf => ?_
      refine zg 13 hf hS fun a hf => ?_
      obtain ⟨e2, he2, hGc3⟩ := bs_ hGc3
      obtain ⟨p2, o2, cs2, hx2, hr2, H⟩ := pre_iaddr H Tryz.underlying46 TF.sz61 2 rfl he2
      refine tPg 14 rfl rfl rfl rfl rfl rfl hf (by kernel_rfl) (fun _ => hS) (fun w => rq_iaddrE hf rfl rfl rfl hx2 w) fun a hf => ?_
      obtain ⟨A3, c4, rfl, hl3⟩ := Request_cells hr2
      have H := H.pF hl3
      refine strT (H.lt_ [] [] [] [1, 2]) (fun w H => H.lt_ [] [] [] [1]) fun hS => ?_
      refine tSg 15 [] rfl rfl rfl rfl rfl rfl hf (by kernel_rfl) (by kernel_rfl) hS (fun w H => rq_loadIN hf H TF.la61 0 0 rfl rfl rfl rfl) fun a hf => ?_
      refine zg 16 hf hS fun a hf => ?_
      refine zg 17 hf hS fun a hf => ?_
      obtain ⟨e3, he3, hGc3⟩ := bs_ hGc3
      obtain ⟨p3, o3, cs3, hx3, hr3, H⟩ := pre_iaddr H Tryz.underlying46 TF.sz61 4 rfl he3
      refine tPg 18 rfl rfl rfl rfl rfl rfl hf (by kernel_rfl) (fun _ => hS) (fun w => rq_iaddrE hf rfl rfl rfl hx3 w) fun a hf => ?_
      obtain ⟨A4, c5, rfl, hl4⟩ := Request_cells hr3
      have H := H.pF hl4
      refine strT (H.lt_ [] [] [] [1, 3, 4]) (fun w H => H.lt_ [] [] [] [1, 2]) fun hS => ?_
      refine tSg 19 [] rfl rfl rfl rfl rfl rfl hf (by kernel_rfl) (by kernel_rfl) hS (fun w H => rq_loadIN hf H TF.la61 0 0 rfl rfl rfl rfl) fun a hf => ?_
      obtain ⟨y, hy, hGc3⟩ := bs_ hGc3
      refine n1g 20 (by kernel_rfl) rfl rfl rfl rfl hf (oC hf TF.cl210 (spec_l12Conflict_ok (S := TT) (Request_mkv (x := e2) (H.rt 2 rfl)) (Request_mkv (x := e3) (H.rt 0 rfl)) hy) fun v w a hp hf => ?_)
      obtain ⟨hb, hp⟩ := hp
      obtain rfl := VR_bool hp
      have H := H.keep hb
      have hS := H.lt_ [] [] [] [1, 3, 4]
      refine aS hS ?_
      refine zp 21 hf hS fun a hf => ?_
      refine dk ?_
      obtain rfl := oi hGc3
      have hf := hf.pn [36, 0, 1, 2, 7, 8]
      have H := H.lt_ [] [] [] [5, 6]
      exact ⟨hf, H⟩
     ·have hf := hf.lit 26 rfl hc3
      refine zU 12 hf hS fun a hf => ?_
      refine zU 13 hf hS fun a hf => ?_
      refine zU 14 hf hS fun a hf => ?_
      refine zU 15 hf hS fun a hf => ?_
      refine zU 16 hf hS fun a hf => ?_
      refine zU 17 hf hS fun a hf => ?_
      refine zU 18 hf hS fun a hf => ?_
      refine zU 19 hf hS fun a hf => ?_
      refine zU 20 hf hS fun a hf => ?_
      refine zp 21 hf hS fun a hf => ?_
      refine dk ?_
      obtain rfl := oi hGc3
      have hf := hf.pn [36, 0, 1, 2, 7, 8]
      have H := H.lt_ [] [] [] [1, 2]
      exact ⟨hf, H⟩
    ·have hf := hf.lit 18 rfl hc2
     refine zU 4 hf trivial fun a hf => ?_
     refine zU 5 hf trivial fun a hf => ?_
     refine zU 6 hf trivial fun a hf => ?_
     refine zU 7 hf trivial fun a hf => ?_
     refine zU 8 hf trivial fun a hf => ?_
     refine zU 9 hf trivial fun a hf => ?_
     refine zp 10 hf trivial fun a hf => ?_
     refine zp 11 hf trivial fun a hf => ?_
     refine zU 12 hf trivial fun a hf => ?_
     refine zU 13 hf trivial fun a hf => ?_
     refine zU 14 hf trivial fun a hf => ?_
     refine zU 15 hf trivial fun a hf => ?_
     refine zU 16 hf trivial fun a hf => ?_
     refine zU 17 hf trivial fun a hf => ?_
     refine zU 18 hf trivial fun a hf => ?_
     refine zU 19 hf trivial fun a hf => ?_
     refine zU 20 hf trivial fun a hf => ?_
     refine zp 21 hf trivial fun a hf => ?_
     refine dk ?_
     obtain rfl := oi hGc3
     have hf := hf.pn [36, 0, 1, 2, 7, 8]
     have H := H.lt_ [] [] [] [0, 1]
     exact ⟨hf, H⟩
   refine then_n (ib hR1 hf (fun hc4 hR1 => ?_) fun hc4 hR1 => ?_)
   ·refine reg (pz 3 hf fun a hf => ?_)
    obtain ⟨e4, he4, hR1⟩ := bs_ hR1
    refine wl0 rfl (op_iaddr hf H Tryz.underlying50 TF.sz71 0 rfl rfl rfl he4 (by decide) fun p4 o4 cs4 a hf hr4 H => ?_)
    obtain rfl := Block_cells hr4
    refine oq hf (rq_loadIN hf H TF.la71 0 0 rfl rfl rfl rfl) fun a hf => ?_
    obtain ⟨y2, hy2, hR1⟩ := bs_ hR1
    refine oc hf TF.cl182 (spec_l8Bits_ok (S := TT) Block_mkv hy2) fun v2 w a hp2 hf => ?_
    obtain ⟨hb2, hp2⟩ := hp2
    obtain rfl := VR_int hp2
    have H := H.keep hb2
    refine pz 2 hf fun a hf => ?_
    refine wl_end (blk_n (then_n (reg (pz 3 hf fun a hf => ?_))))
    refine wl_end ?_
    have hf := hf.pn [0, 1, 2, 7, 8]
    have H := H.lt_ [] [] [] [1, 2]
    exact then_n ⟨(bor out' y2, w64 (k' + 1)), hR1, hf, H⟩
   ·refine wp_skip (blk_n (then_n (reg (pz 3 hf fun a hf => ?_))))
    refine wl_end ?_
    have hf := hf.pn [0, 1, 2, 7, 8]
    have H := H.lt_ [] [] [] [0, 1]
    exact then_n ⟨(out', w64 (k' + 1)), hR1, hf, H⟩
  ·refine wp_exit (then_x (then_x (blk_e (?_))))
   have hf := hf.pn [0, 1, 2, 7, 8]
   have H := H.lt_ [] [] [] [0, 1]
   exact ⟨(out', k'), (Option.some.inj hR1).symm, hf, H⟩
 rintro a w ⟨⟨out3, k2⟩, rfl, hf, H⟩
 try dsimp only at hF
 refine then_n (sqz (pz 2 hf fun a hf => ?_))
 refine wer ?_
 obtain rfl := oi hF
 refine rT hf ?_
 exact ⟨_, rfl, H.bel, mk_int⟩
theorem spec_l12Extend_B_ok {fu : Nat} {rec_ : (List Request) → (List Block) → (Int) → (Int) → Option (Bool × List Block)} (ih : ∀ {w0 : World} {S : Nat → Prop} {F : List Nat} {cs : List Value} {v0_ : Value} {v2_ : Value} {v3_ : Value} {list : List Request} {blocks : List Block} {i : Int} {height : Int} {r : Bool × List Block} (hO : GoTy.own w0 F cs blocks) (hn : F.Nodup) (hSm : ∀ c ∈ F, ¬ S c) (h0 : VR w0 S v0_ list) (h2 : VR w0 S v2_ i) (h3 : VR w0 S v3_ height) (hF : rec_ list blocks i height = some r), Calls Tryz.prog 117 [v0_, (bif GoTy.agg (List Block) then .agg cs.toArray else cs.headD undef), v2_, v3_].toArray w0 fun e w' => ∃ v, e = .returned v ∧ (Chg w0 w' F ∧ VR w' (fun _ => True) v r.1 ∧ ∃ F', GoTy.own w' F' cs r.2 ∧ Back w0 w' F F')) {w0 : World} {S : Nat → Prop} {F : List Nat} {cs : List Value} {v0_ : Value} {v2_ : Value} {v3_ : Value} {list : List Request} {blocks : List Block} {i : Int} {height : Int} {r : Bool × List Block} (hO : GoTy.own w0 F cs blocks) (hn : F.Nodup) (hSm : ∀ c ∈ F, ¬ S c) (h0 : VR w0 S v0_ list) (h2 : VR w0 S v2_ i) (h3 : VR w0 S v3_ height) (hF : spec_l12Extend_B fu rec_ list blocks i height = some r) :
    Calls Tryz.prog 117 [v0_, (bif GoTy.agg (List Block) then .agg cs.toArray else cs.headD undef), v2_, v3_].toArray w0 fun e w' => ∃ v, e = .returned v ∧ (Chg w0 w' F ∧ VR w' (fun _ => True) v r.1 ∧ ∃ F', GoTy.own w' F' cs r.2 ∧ Back w0 w' F F') := by
 obtain ⟨A2, c2, rfl, hl⟩ := VR_list h0
 obtain rfl := VR_int h2
 obtain rfl := VR_int h3
 obtain ⟨A, c, rfl, hO⟩ := own_list hO
 have H := Mem.startG S hO hn
 obtain ⟨Fs, E, H, -⟩ := H.thaw rfl
 have H := H.rowSh 0 rfl
 have H := H.argB hSm (p := MP.val [(.slice A2 list.length c2)] list) hl
 refine en Tryz.func117 fun a hf => ?_
 rw [spec_l12Extend_B] at hF
 refine sqz (pz 1 hf fun a hf => ?_)
 refine we (sqz (pz 4 hf fun a hf => ?_))
 refine wl_end (then_n (ib hF hf (fun hc hF => ?_) fun hc hF => ?_))
 ·refine sqz (pz 1 hf fun a hf => ?_)
  refine wl_end (then_n (wp_ret (then_r (?_))))
  have H := H.rowOwn 0 rfl rfl
  obtain ⟨F', H⟩ := H.freezeOwn 0 rfl
  obtain rfl := oi hF
  refine rT hf ?_
  exact ⟨_, rfl, H.chg, mk_bool, _, H.ownAt 0 rfl, H.back⟩
 ·refine wp_skip (then_n (sq (dw [] 11 fun w hb => ?_)))
  have H := H.keep hb
  refine zp 0 hf trivial fun a hf => ?_
  refine zp 1 hf trivial fun a hf => ?_
  refine zp 2 hf trivial fun a hf => ?_
  refine zp 4 hf trivial fun a hf => ?_
  refine zp 5 hf trivial fun a hf => ?_
  obtain ⟨e, he, hF⟩ := bs_ hF
  obtain ⟨p, o, cs, hx, hr, H⟩ := pre_iaddr H Tryz.underlying46 TF.sz61 0 rfl he
  refine tP 6 rfl rfl rfl rfl hf (by kernel_rfl) (fun _ => trivial) (fun w => rq_iaddrE hf rfl rfl rfl hx w) fun a hf => ?_
  obtain ⟨A3, c3, rfl, hl2⟩ := Request_cells hr
  have H := H.pF hl2
  refine zp 7 hf trivial fun a hf => ?_
  refine strT (H.lt_ [] [false] [] [1]) (fun w H => trivial) fun hS => ?_
  refine zS 8 [] rfl rfl rfl rfl hf hS (fun w H => rq_loadI hf H TF.ls3 0 2 rfl rfl rfl) fun a hf => ?_
  obtain ⟨y, hy, hF⟩ := bs_ hF
  refine nn 3 rfl (oC hf TF.cl150 (spec_l12Taken_ok (S := TT) (mk_list (H.rt 2 rfl)) (mk_list (H.rowTrue 0 rfl)) mk_int hy) fun v w a hp hf => ?_)
  obtain ⟨hb, hp⟩ := hp
  obtain rfl := VR_int hp
  have H := H.keep hb
  have hS := H.lt_ [] [false] [] [1]
  refine aS hS ?_
  obtain ⟨y2, hy2, hF⟩ := bs_ hF
  refine nn 9 rfl (oC hf TF.cl149 (spec_l8Fits_ok (S := TT) mk_int mk_int hy2) fun v2 w a hp2 hf => ?_)
  obtain ⟨hb2, F2, hp3, hN⟩ := hp2
  obtain ⟨A4, c4, rfl, hl3⟩ := VO_list hp3
  have H := H.aO1 hb2 hN hl3
  have H := H.lend 0 rfl
  have hS := H.lt_ [] [false] [false] [2]
  refine aS hS ?_
  refine zp 10 hf hS fun a hf => ?_
  refine dk ?_
  have hf := hf.pn [0, 1, 2, 3, 9]
  refine then_n (sq (sqz (pz 1 hf fun a hf => ?_)))
  refine wl_end (then_n ?_)
  obtain ⟨out', hB1, hF⟩ := bs_ hF
  have hf := hf.pn [0, 1, 2, 3, 9, 10]
  have hf : Fr a 68 [(0, (.slice A2 list.length c2)), (1, (.slice A blocks.length c)), (2, (.int .i64 i)), (3, (.int .i64 height)), (9, (.slice A4 y2.length c4)), (10, (.int .i64 0))] := by first | exact hf | (simp only [List.length_set] at hf; exact hf)
  have H := H.lt_ [] [true] [true] [0, 3]
  refine loopC (fun (s : List Block × Int) (a : Act) (w : World) => match s with | (blocks2, k') => ∃ (E2 : Go.TypeId), blocks2.length = blocks.length ∧ Fr a 68 [(0, (.slice A2 list.length c2)), (1, (.slice A blocks.length c)), (2, (.int .i64 i)), (3, (.int .i64 height)), (9, (.slice A4 y2.length c4)), (10, (.int .i64 k'))] ∧ Mem ⟨w0, F⟩ S [] [⟨.sh true, E2, A, c, (blocks2 : List Block)⟩] [⟨F2, MP.own F2 [(.slice A4 y2.length c4)] (y2 : List Int)⟩] [(true, MP.val [(.slice A4 y2.length c4)] (y2 : List Int)), (false, MP.val [(.slice A2 list.length c2)] (list : List Request))] w) (fun k (s : List Block × Int) => spec_l12Extend_L1 fu list i height rec_ y2 k s.1 s.2 = some out') (fun s => out' = Out.next s) (blocks, 0) fu hB1 ⟨E, rfl, hf, H⟩ (fun s h => by cases h) ?_ ?_
  ·rintro fk ⟨blocks2, k'⟩ a w hR1 hI
   replace hR1 : spec_l12Extend_L1 fu list i height rec_ y2 (fk + 1) blocks2 k' = some out' := hR1
   rw [spec_l12Extend_L1] at hR1
   obtain ⟨E2, hlen, hf, H⟩ := hI
   have hf : Fr a 68 [(0, (.slice A2 list.length c2)), (1, (.slice A blocks2.length c)), (2, (.int .i64 i)), (3, (.int .i64 height)), (9, (.slice A4 y2.length c4)), (10, (.int .i64 k'))] := by rw [hlen]; exact hf
   refine sq (sq ?_)
   obtain ⟨c5, hGc5, hR1⟩ := bs_ hR1
   have fh := hf.prune [0, 1, 2, 3, 9, 10] rfl
   have Hm := H.lt_ [] [true] [true] [0, 1]
   refine midF 42 (.bool c5) fh Hm ?_ fun a w hf H => ?_
   ·refine dw [] 18 fun w hb => ?_
    have H := H.keep hb
    refine zp 0 hf trivial fun a hf => ?_
    refine zp 1 hf trivial fun a hf => ?_
    refine zp 2 hf trivial fun a hf => ?_
    refine zp 3 hf trivial fun a hf => ?_
    refine zp 4 hf trivial fun a hf => ?_
    refine iteB hGc5 (fun hc2 hGc5 => ?_) fun hc2 hGc5 => ?_
    ·have hf := hf.lit 29 rfl hc2
     refine zg 5 hf trivial fun a hf => ?_
     refine zg 6 hf trivial fun a hf => ?_
     obtain ⟨e2, he2, hGc5⟩ := bs_ hGc5
     obtain ⟨p2, o2, cs2, hx2, hr2, H⟩ := pre_iaddr H Tryz.underlying47 TF.sz3 0 rfl he2
     refine tPg 7 rfl rfl rfl rfl rfl rfl hf (by kernel_rfl) (fun _ => trivial) (fun w => rq_iaddrE hf rfl rfl rfl hx2 w) fun a hf => ?_
     obtain rfl := hr2
     refine strT (H.lt_ [] [false] [false] [0]) (fun w H => trivial) fun hS => ?_
     refine tSg 8 [] rfl rfl rfl rfl rfl rfl hf (by kernel_rfl) (by kernel_rfl) hS (fun w H => rq_loadI hf H TF.ls3 0 0 rfl rfl rfl) fun a hf => ?_
     refine zg 9 hf hS fun a hf => ?_
     refine zg 10 hf hS fun a hf => ?_
     obtain ⟨e3, he3, hGc5⟩ := bs_ hGc5
     obtain ⟨p3, o3, cs3, hx3, hr3, H⟩ := pre_iaddr H Tryz.underlying46 TF.sz61 2 rfl he3
     refine tPg 11 rfl rfl rfl rfl rfl rfl hf (by kernel_rfl) (fun _ => hS) (fun w => rq_iaddrE hf rfl rfl rfl hx3 w) fun a hf => ?_
     obtain ⟨A5, c6, rfl, hl4⟩ := Request_cells hr3
     have H := H.pF hl4
     refine zg 12 hf hS fun a hf => ?_
     refine strT (H.lt_ [] [false] [false] [1, 2]) (fun w H => H.lt_ [] [] [] [1]) fun hS => ?_
     refine tSg 13 [] rfl rfl rfl rfl rfl rfl hf (by kernel_rfl) (by kernel_rfl) hS (fun w H => rq_loadI hf H TF.ls3 0 2 rfl rfl rfl) fun a hf => ?_
     refine zg 14 hf hS fun a hf => ?_
     refine zg 15 hf hS fun a hf => ?_
     refine zg 16 hf hS fun a hf => ?_
     refine zp 17 hf hS fun a hf => ?_
     refine dk ?_
     obtain rfl := oi hGc5
     have hf := hf.pn [42, 0, 1, 2, 3, 9, 10]
     have H := H.lt_ [] [true] [true] [3, 4]
     exact ⟨hf, H⟩
    ·have hf := hf.lit 29 rfl hc2
     refine zU 5 hf trivial fun a hf => ?_
     refine zU 6 hf trivial fun a hf => ?_
     refine zU 7 hf trivial fun a hf => ?_
     refine zU 8 hf trivial fun a hf => ?_
     refine zU 9 hf trivial fun a hf => ?_
     refine zU 10 hf trivial fun a hf => ?_
     refine zU 11 hf trivial fun a hf => ?_
     refine zU 12 hf trivial fun a hf => ?_
     refine zU 13 hf trivial fun a hf => ?_
     refine zU 14 hf trivial fun a hf => ?_
     refine zU 15 hf trivial fun a hf => ?_
     refine zU 16 hf trivial fun a hf => ?_
     refine zp 17 hf trivial fun a hf => ?_
     refine dk ?_
     obtain rfl := oi hGc5
     have hf := hf.pn [42, 0, 1, 2, 3, 9, 10]
     have H := H.lt_ [] [true] [true] [0, 1]
     exact ⟨hf, H⟩
   refine then_n (ib hR1 hf (fun hc3 hR1 => ?_) fun hc3 hR1 => ?_)
   ·refine wp_skip (then_n (sq (wp_block (sq (dw [13] 14 fun w hb => ?_)))))
    have H := H.keep hb
    refine zp 0 hf trivial fun a hf => ?_
    refine zp 1 hf trivial fun a hf => ?_
    refine zp 2 hf trivial fun a hf => ?_
    refine zp 3 hf trivial fun a hf => ?_
    obtain ⟨e4, he4, hR1⟩ := bs_ hR1
    obtain ⟨p4, o4, cs4, hx4, hr4, H⟩ := pre_iaddr H Tryz.underlying47 TF.sz3 0 rfl he4
    refine tP 4 rfl rfl rfl rfl hf (by kernel_rfl) (fun _ => trivial) (fun w => rq_iaddrE hf rfl rfl rfl hx4 w) fun a hf => ?_
    obtain rfl := hr4
    refine strT (H.lt_ [] [false] [false] [0]) (fun w H => trivial) fun hS => ?_
    refine zS 5 [5, 11, 12, 13] rfl rfl rfl rfl hf hS (fun w H => rq_loadI hf H TF.ls3 0 0 rfl rfl rfl) fun a hf => ?_
    refine zp 6 hf hS fun a hf => ?_
    refine zp 7 hf hS fun a hf => ?_
    obtain ⟨e5, he5, hR1⟩ := bs_ hR1
    obtain ⟨p5, o5, cs5, hx5, hr5, H⟩ := pre_iaddr H Tryz.underlying46 TF.sz61 2 rfl he5
    refine zP 8 rfl rfl rfl rfl hf hS (fun w => rq_iaddrE hf rfl rfl rfl hx5 w) fun a hf => ?_
    obtain ⟨A6, c7, rfl, hl5⟩ := Request_cells hr5
    have H := H.pF hl5
    refine zp 9 hf hS fun a hf => ?_
    refine strT (H.lt_ [] [false] [false] [1, 2]) (fun w H => H.lt_ [] [] [] [1]) fun hS => ?_
    refine zS 10 [10, 11, 12, 13] rfl rfl rfl rfl hf hS (fun w H => rq_loadI hf H TF.ls3 0 2 rfl rfl rfl) fun a hf => ?_
    refine zP 11 rfl rfl rfl rfl hf hS (fun w => rq_build hf (cs := [(.int .i64 e4), (.int .i64 e5.Count)]) rfl (fun w => by kernel_rfl)) fun a hf => ?_
    obtain ⟨e6, he6, hR1⟩ := bs_ hR1
    refine nn 12 rfl (op_iaddrR hf H Tryz.underlying50 TF.sz71 0 rfl rfl rfl he6 (by decide) fun p6 o6 cs6 a hf hA hr6 hk => ?_)
    obtain rfl := Block_cells hr6
    have hS := H.lt_ [] [false] [false] [1, 2]
    refine aS hS ?_
    refine nn 13 rfl (op_storeR (e' := ({ First := e4, Count := e5.Count } : Block)) (o := o6) (off := 0) hf H TF.sz71 0 rfl rfl rfl rfl rfl (nle rfl) rfl hA he6 (st_full (Block_mk (x := ({ First := e4, Count := e5.Count } : Block)))) fun w H => ?_)
    replace hf : Fr a 68 [(0, (.slice A2 list.length c2)), (1, (.slice A blocks2.length c)), (2, (.int .i64 i)), (3, (.int .i64 height)), (9, (.slice A4 y2.length c4)), (10, (.int .i64 k')), (45, (.slice A blocks2.length c)), (46, (.int .i64 i)), (47, (.slice A4 y2.length c4)), (48, (.int .i64 k')), (49, (.pointer (some ⟨p4, o4 + 0, none⟩))), (50, (.int .i64 e4)), (51, (.slice A2 list.length c2)), (52, (.int .i64 i)), (53, (.pointer (some ⟨p5, o5 + 0, none⟩))), (54, (.pointer (some ⟨p5, o5 + 2, none⟩))), (55, (.int .i64 e5.Count)), (56, (.agg #[(.int .i64 e4), (.int .i64 e5.Count)])), (57, (.pointer (some ⟨p6, o6 + 0, none⟩)))] := hf.prune [0, 1, 2, 3, 9, 10, 45, 46, 47, 48, 49, 50, 51, 52, 53, 54, 55, 56, 57] rfl
    replace hf : Fr a 68 [(0, (.slice A2 list.length c2)), (1, (.slice A (blocks2.set (i : Int).toNat ({ First := e4, Count := e5.Count } : Block)).length c)), (2, (.int .i64 i)), (3, (.int .i64 height)), (9, (.slice A4 y2.length c4)), (10, (.int .i64 k')), (45, (.slice A (blocks2.set (i : Int).toNat ({ First := e4, Count := e5.Count } : Block)).length c)), (46, (.int .i64 i)), (47, (.slice A4 y2.length c4)), (48, (.int .i64 k')), (49, (.pointer (some ⟨p4, o4 + 0, none⟩))), (50, (.int .i64 e4)), (51, (.slice A2 list.length c2)), (52, (.int .i64 i)), (53, (.pointer (some ⟨p5, o5 + 0, none⟩))), (54, (.pointer (some ⟨p5, o5 + 2, none⟩))), (55, (.int .i64 e5.Count)), (56, (.agg #[(.int .i64 e4), (.int .i64 e5.Count)])), (57, (.pointer (some ⟨p6, o6 + 0, none⟩)))] := by simpa only [List.length_set, Nat.add_zero] using hf
    refine ⟨fun h => absurd h (by decide), ?_⟩
    refine dk ?_
    have hf := hf.pn [0, 1, 2, 3, 9, 10]
    refine then_n (sqz (pz 5 hf fun a hf => ?_))
    have H := H.rowOwn 0 rfl rfl
    obtain ⟨F4, H⟩ := H.freezeOwn 0 rfl
    have H := H.lend 0 rfl
    obtain ⟨y3, hy3, hR1⟩ := bs_ hR1
    refine oc hf TF.cl117 (ih (S := NO F4) (F := F4) (cs := [(.slice A (blocks2.set (i : Int).toNat ({ First := e4, Count := e5.Count } : Block)).length c)]) (H.ownAt 0 rfl) H.diNd.1 (fun _ h1 h2 => h2 h1) (mk_list (H.argO hSm (α := List Request) hl)) mk_int mk_int hy3) fun v3 w a hp4 hf => ?_
    obtain ⟨hch, hv, F5, ho, hbk⟩ := hp4
    obtain rfl := VR_bool hv
    have H := H.wrote rfl hch ho hbk
    have H := H.argB hSm (p := MP.val [(.slice A2 list.length c2)] list) hl
    have H := H.lend 0 rfl
    have H := H.lend 1 rfl
    refine wl_end (then_n (ib hR1 hf (fun hc4 hR1 => ?_) fun hc4 hR1 => ?_))
    ·refine sqz (pz 1 hf fun a hf => ?_)
     refine wl_end (then_n (wp_ret (blk_r (then_r (then_r (blk_r (then_r (then_r (?_)))))))))
     simp only [List.length_set, hlen] at H
     obtain rfl := oi hR1
     replace hF := on_ret hF
     obtain rfl := oi hF
     refine rT hf ?_
     exact ⟨_, rfl, H.chg, mk_bool, _, H.ownAt 0 rfl, H.back⟩
    ·refine wp_skip (blk_n (then_n (reg (pz 3 hf fun a hf => ?_))))
     refine wl_end ?_
     have hlen2 := H.ownLen rfl
     obtain ⟨Fs2, E3, H, -⟩ := H.thaw rfl
     have H := H.rowSh 0 rfl
     have hf := hf.pn [0, 1, 2, 3, 9, 10, 43, 44, 58, 59, 60, 61, 62, 63]
     replace hf : Fr a 68 [(0, (.slice A2 list.length c2)), (1, (.slice A y3.2.length c)), (2, (.int .i64 i)), (3, (.int .i64 height)), (9, (.slice A4 y2.length c4)), (10, (.int .i64 (w64 (k' + 1)))), (43, (.int .i64 k')), (44, (.int .i64 (w64 (k' + 1)))), (58, (.slice A2 list.length c2)), (59, (.slice A y3.2.length c)), (60, (.int .i64 i)), (61, (.int .i64 (w64 (i + 1)))), (62, (.int .i64 height)), (63, (.bool y3.1))] := by rw [hlen2]; exact hf
     have H := H.argB hSm (p := MP.val [(.slice A2 list.length c2)] list) hl
     have H := H.lend 0 rfl
     have hf := hf.pn [0, 1, 2, 3, 9, 10]
     have hf : Fr a 68 [(0, (.slice A2 list.length c2)), (1, (.slice A blocks.length c)), (2, (.int .i64 i)), (3, (.int .i64 height)), (9, (.slice A4 y2.length c4)), (10, (.int .i64 (w64 (k' + 1))))] := by first | exact hf | (simp only [List.length_set, hlen, hlen2] at hf; exact hf)
     have H := H.lt_ [] [true] [true] [0, 1]
     exact then_n ⟨(y3.2, w64 (k' + 1)), hR1, E3, (by simp only [List.length_set, hlen, hlen2]), hf, H⟩
   ·refine wp_exit (then_x (then_x (blk_e (?_))))
    have hf := hf.pn [0, 1, 2, 3, 9, 10]
    have hf : Fr a 68 [(0, (.slice A2 list.length c2)), (1, (.slice A blocks.length c)), (2, (.int .i64 i)), (3, (.int .i64 height)), (9, (.slice A4 y2.length c4)), (10, (.int .i64 k'))] := by first | exact hf | (simp only [List.length_set, hlen] at hf; exact hf)
    have H := H.lt_ [] [true] [true] [0, 1]
    exact ⟨(blocks2, k'), (Option.some.inj hR1).symm, E2, (by simp only [List.length_set, hlen]), hf, H⟩
  rintro a w ⟨⟨blocks3, k2⟩, rfl, E4, hlen, hf, H⟩
  try dsimp only at hlen
  have hf : Fr a 68 [(0, (.slice A2 list.length c2)), (1, (.slice A blocks3.length c)), (2, (.int .i64 i)), (3, (.int .i64 height)), (9, (.slice A4 y2.length c4)), (10, (.int .i64 k2))] := by rw [hlen]; exact hf
  replace hF := on_next hF
  try dsimp only at hF
  refine then_n (sqz (pz 2 hf fun a hf => ?_))
  refine oq hf (rq_build hf (cs := [(.int .i64 0), (.int .i64 0)]) rfl (fun w => by kernel_rfl)) fun a hf => ?_
  obtain ⟨e7, he7, hF⟩ := bs_ hF
  refine wl0 rfl (op_iaddrR hf H Tryz.underlying50 TF.sz71 0 rfl rfl rfl he7 (by decide) fun p7 o7 cs7 a hf hA2 hr7 hk2 => ?_)
  obtain rfl := Block_cells hr7
  refine wl0 rfl (op_storeR (e' := ({ First := 0, Count := 0 } : Block)) (o := o7) (off := 0) hf H TF.sz71 0 rfl rfl rfl rfl rfl (nle rfl) rfl hA2 he7 (st_full (Block_mk (x := ({ First := 0, Count := 0 } : Block)))) fun w H => ?_)
  replace hf : Fr a 68 [(1, (.slice A blocks3.length c)), (2, (.int .i64 i)), (64, (.slice A blocks3.length c)), (65, (.int .i64 i)), (66, (.agg #[(.int .i64 0), (.int .i64 0)])), (67, (.pointer (some ⟨p7, o7 + 0, none⟩)))] := hf.prune [1, 2, 64, 65, 66, 67] rfl
  replace hf : Fr a 68 [(1, (.slice A (blocks3.set (i : Int).toNat ({ First := 0, Count := 0 } : Block)).length c)), (2, (.int .i64 i)), (64, (.slice A (blocks3.set (i : Int).toNat ({ First := 0, Count := 0 } : Block)).length c)), (65, (.int .i64 i)), (66, (.agg #[(.int .i64 0), (.int .i64 0)])), (67, (.pointer (some ⟨p7, o7 + 0, none⟩)))] := by simpa only [List.length_set, Nat.add_zero] using hf
  refine wr (pz 1 hf fun a hf => ?_)
  refine wer ?_
  have H := H.rowOwn 0 rfl rfl
  obtain ⟨F', H⟩ := H.freezeOwn 0 rfl
  simp only [List.length_set, hlen] at H
  obtain rfl := oi hF
  refine rT hf ?_
  exact ⟨_, rfl, H.chg, mk_bool, _, H.ownAt 0 rfl, H.back⟩
theorem spec_l12Extend_ok {fu : Nat} : ∀ {w0 : World} {S : Nat → Prop} {F : List Nat} {cs : List Value} {v0_ : Value} {v2_ : Value} {v3_ : Value} {list : List Request} {blocks : List Block} {i : Int} {height : Int} {r : Bool × List Block} (hO : GoTy.own w0 F cs blocks) (hn : F.Nodup) (hSm : ∀ c ∈ F, ¬ S c) (h0 : VR w0 S v0_ list) (h2 : VR w0 S v2_ i) (h3 : VR w0 S v3_ height) (hF : spec_l12Extend fu list blocks i height = some r), Calls Tryz.prog 117 [v0_, (bif GoTy.agg (List Block) then .agg cs.toArray else cs.headD undef), v2_, v3_].toArray w0 fun e w' => ∃ v, e = .returned v ∧ (Chg w0 w' F ∧ VR w' (fun _ => True) v r.1 ∧ ∃ F', GoTy.own w' F' cs r.2 ∧ Back w0 w' F F') := by
  induction fu with
  | zero => intro w0 S F cs v0_ v2_ v3_ list blocks i height r hO hn hSm h0 h2 h3 hF; rw [spec_l12Extend] at hF; cases hF
  | succ fu ih => intro w0 S F cs v0_ v2_ v3_ list blocks i height r hO hn hSm h0 h2 h3 hF; rw [spec_l12Extend] at hF; exact spec_l12Extend_B_ok (rec_ := fun list blocks i height => spec_l12Extend fu list blocks i height) (fun hO hn hSm h0 h2 h3 hF => ih hO hn hSm h0 h2 h3 hF) hO hn hSm h0 h2 h3 hF
theorem spec_l12Exact_ok {S : Nat → Prop} {v0_ : Value} {list : List Request} {r : List Block × Int × Bool} (h0 : VR w0 S v0_ list) (hF : spec_l12Exact fu list = some r) :
    Calls Tryz.prog 50 [v0_].toArray w0 fun e w' => ∃ v, e = .returned v ∧ (Below w0.heap.size w0 w' ∧ ∃ F0, ∃ u0 u1 u2, v = .tuple #[u0, u1, u2] ∧ VO w' F0 u0 r.1 ∧ VR w' (St ⟨w0, []⟩ S [] [] [] true) u1 r.2.1 ∧ VR w' (St ⟨w0, []⟩ S [] [] [] true) u2 r.2.2 ∧ New w0 w' F0) := by
 obtain ⟨A, c, rfl, hl⟩ := VR_list h0
 have H := Mem.start ⟨w0, []⟩ S
 have H := H.pA hl
 refine en Tryz.func50 fun a hf => ?_
 rw [spec_l12Exact] at hF
 refine sqz (pz 3 hf fun a hf => ?_)
 refine wr (pz 1 hf fun a hf => ?_)
 obtain ⟨y, hy, hF⟩ := bs_ hF
 refine oc hf TF.cl116 (spec_l12Bound_ok (S := TT) (mk_list (H.rt 0 rfl)) hy) fun v w a hp hf => ?_
 obtain ⟨hb, v2, v3, rfl, hp2, hp3⟩ := hp
 obtain rfl := VR_int hp2
 obtain rfl := VR_int hp3
 have H := H.keep hb
 refine pz 5 hf fun a hf => ?_
 refine we (sqz (pz 2 hf fun a hf => ?_))
 refine wl_end (then_n ?_)
 obtain ⟨out', hB1, hF⟩ := bs_ hF
 have hf := hf.pn [0, 7]
 have H := H.lt_ [] [] [] [0]
 refine loopC (fun (s : Int) (a : Act) (w : World) => match s with | height => Fr a 29 [(0, (.slice A list.length c)), (7, (.int .i64 height))] ∧ Mem ⟨w0, []⟩ S [] [] [] [(false, MP.val [(.slice A list.length c)] (list : List Request))] w) (fun k (s : Int) => spec_l12Exact_L1 fu list k s = some out') (fun s => out' = Out.next s) y.1 fu hB1 ⟨hf, H⟩ (fun s h => by cases h) ?_ ?_
 ·rintro fk height a w hR1 hI
  replace hR1 : spec_l12Exact_L1 fu list (fk + 1) height = some out' := hR1
  rw [spec_l12Exact_L1] at hR1
  obtain ⟨hf, H⟩ := hI
  refine sq (sqz (pz 2 hf fun a hf => ?_))
  refine wl_end (then_n (ib hR1 hf (fun hc hR1 => ?_) fun hc hR1 => ?_))
  ·refine ws (pz 2 hf fun a hf => ?_)
   obtain ⟨l, hl_, hR1⟩ := bs_ hR1
   refine wl0 rfl (op_make (z0 := (({ First := 0, Count := 0 } : Block) : Block)) hf H Tryz.underlying50 TF.ai71 rfl (by decide) rfl rfl (Block_mk (x := ({ First := 0, Count := 0 } : Block))) hl_ (by decide) fun A2 c2 a w hf H => ?_)
   refine pz 1 hf fun a hf => ?_
   refine wr (pz 3 hf fun a hf => ?_)
   have H := H.rowOwn 0 rfl rfl
   obtain ⟨F, H⟩ := H.freezeOwn 0 rfl
   have H := H.lend 0 rfl
   obtain ⟨y2, hy2, hR1⟩ := bs_ hR1
   refine oc hf TF.cl117 (spec_l12Extend_ok (S := NO F) (F := F) (cs := [(.slice A2 l.length c2)]) (H.ownAt 0 rfl) H.diNd.1 (fun _ h1 h2 => h2 h1) (mk_list (H.argO (fun _ h => by cases h) (α := List Request) hl)) mk_int mk_int hy2) fun v4 w a hp4 hf => ?_
   obtain ⟨hch, hv, F2, ho, hbk⟩ := hp4
   obtain rfl := VR_bool hv
   have H := H.wrote rfl hch ho hbk
   have H := H.pA hl
   have H := H.lend 0 rfl
   refine wl_end (then_n (ib hR1 hf (fun hc2 hR1 => ?_) fun hc2 hR1 => ?_))
   ·refine sqz (pz 5 hf fun a hf => ?_)
    have hf := hf.pn [2, 3, 4]
    refine wl_end (then_n (wp_ret (blk_r (then_r (then_r (blk_r (then_r (then_r (?_)))))))))
    obtain rfl := oi hR1
    replace hF := on_ret hF
    obtain rfl := oi hF
    refine ret_3 hf rfl (rv_tmp hf rfl) (rv_tmp hf rfl) (rv_tmp hf rfl) ?_
    have hN := H.ends1
    exact ⟨_, rfl, H.bel, F2, _, _, _, rfl, (mko_list (H.ownAt 0 rfl)), mk_int, mk_bool, by first | exact hN | simpa using hN⟩
   ·refine wp_skip (blk_n (then_n (reg (pz 3 hf fun a hf => ?_))))
    refine wl_end ?_
    have hf := hf.pn [0, 7]
    have H := H.lt_ [] [] [false] [1]
    exact then_n ⟨w64 (height + 1), hR1, hf, H⟩
  ·refine wp_exit (then_x (then_x (blk_e (?_))))
   have hf := hf.pn [0, 7]
   have H := H.lt_ [] [] [] [0]
   exact ⟨height, (Option.some.inj hR1).symm, hf, H⟩
 rintro a w ⟨height2, rfl, hf, H⟩
 replace hF := on_next hF
 refine then_n (sq (reg (wl0 rfl (bl hf H 71 ([] : List Block) [] el0 fun A3 a w hf H => ?_))))
 refine pz 3 hf fun a hf => ?_
 refine wer ?_
 have H := H.rowOwn 0 rfl rfl
 obtain ⟨F3, H⟩ := H.freezeOwn 0 rfl
 have H := H.lend 0 rfl
 obtain rfl := oi hF
 refine ret_3 hf rfl (rv_tmp hf rfl) (rv_tmp hf rfl) (rv_tmp hf rfl) ?_
 have hN := H.ends1
 exact ⟨_, rfl, H.bel, F3, _, _, _, rfl, (mko_list (H.ownAt 0 rfl)), mk_int, mk_bool, by first | exact hN | simpa using hN⟩
theorem impl_isLight_ok {S : Nat → Prop} {v0_ : Value} {v1_ : Value} {n' : Network} {x1 : Light} {r : Bool} (h0 : VR w0 S v0_ n') (h1 : VR w0 S v1_ x1) (hF : impl_isLight fu n' x1 = some r) :
    Calls Tryz.prog 91 [v0_, v1_].toArray w0 fun e w' => ∃ v, e = .returned v ∧ (Below w0.heap.size w0 w' ∧ VR w' (St ⟨w0, []⟩ S [] [] [] true) v r) := by
 obtain ⟨A, c, A2, c2, rfl, hl, hl2⟩ := Network_open h0
 obtain ⟨A3, c3, rfl, hl3⟩ := Light_open h1
 have H := Mem.start ⟨w0, []⟩ S
 have H := H.pA hl
 have H := H.pA hl2
 have H := H.pA hl3
 refine en Tryz.func91 fun a hf => ?_
 rw [impl_isLight] at hF
 refine bx hf H fun b' a w hf H => ?_
 refine wl0 rfl (op_box hf H rfl rfl (by decide) fun b2 a w hf H => ?_)
 refine pz 1 hf fun a hf => ?_
 refine wr (lN 1 hf H TF.la34 fun a hf => ?_)
 refine pz 1 hf fun a hf => ?_
 refine lN 0 hf H TF.la59 fun a hf => ?_
 obtain ⟨y, hy, hF⟩ := bs_ hF
 refine oc hf TF.cl138 (impl_visited_ok (S := TT) (Network_mkv (x := n') (H.rt 2 rfl) (H.rt 1 rfl)) (Route_mkv (x := x1.Route) (H.rt 0 rfl)) hy) fun v w a hp hf => ?_
 obtain ⟨hb, F, v2, v3, rfl, hp2, hp3, hN⟩ := hp
 obtain ⟨A4, c4, rfl, hl4⟩ := VO_list hp2
 obtain rfl := VR_bool hp3
 have H := H.aO1 hb hN hl4
 have H := H.lend 0 rfl
 refine pz 5 hf fun a hf => ?_
 refine wl_end (then_n (sq ?_))
 obtain ⟨c5, hGc5, hF⟩ := bs_ hF
 have fh := hf.prune [] rfl
 have Hm := H.lt_ [false, false] [] [false] []
 refine midF 4 (.bool c5) fh Hm ?_ fun a w hf H => ?_
 ·refine reg (pz 2 hf fun a hf => ?_)
  refine iteB hGc5 (fun hc hGc5 => ?_) fun hc hGc5 => ?_
  ·have hf := hf.lit 15 rfl hc
   refine pz 1 hf fun a hf => ?_
   refine wlg hf rfl rfl rfl (op_q hf (rq_loadB hf H TF.ls3 0 rfl rfl rfl) rfl (by decide) fun a hf => ?_)
   obtain ⟨y2, hy2, hGc5⟩ := bs_ hGc5
   refine wlg hf rfl rfl rfl (oC hf TF.cl84 (impl_within_ok (S := TT) mk_int mk_int mk_int hy2) fun v4 w a hp4 hf => ?_)
   obtain ⟨hb2, hp4⟩ := hp4
   obtain rfl := VR_bool hp4
   have H := H.keep hb2
   refine pz 2 hf fun a hf => ?_
   refine iteB hGc5 (fun hc2 hGc5 => ?_) fun hc2 hGc5 => ?_
   ·have hf := hf.lit 20 rfl hc2
    refine pz 1 hf fun a hf => ?_
    refine wlg hf rfl rfl rfl (op_q hf (rq_loadBN hf H TF.la71 0 rfl rfl rfl rfl) rfl (by decide) fun a hf => ?_)
    obtain ⟨y3, hy3, hGc5⟩ := bs_ hGc5
    refine wlg hf rfl rfl rfl (oC hf TF.cl71 (impl_IsValidBlock_ok (S := TT) Block_mkv hy3) fun v5 w a hp5 hf => ?_)
    obtain ⟨hb3, hp5⟩ := hp5
    obtain rfl := VR_bool hp5
    have H := H.keep hb3
    refine pz 2 hf fun a hf => ?_
    obtain rfl := oi hGc5
    have hf := hf.pn [4]
    have H := H.lt_ [false, false] [] [false] []
    exact wl_end ⟨hf, H⟩
   ·have hf := hf.lit 20 rfl hc2
    refine pz 5 hf fun a hf => ?_
    obtain rfl := oi hGc5
    have hf := hf.pn [4]
    have H := H.lt_ [false, false] [] [false] []
    exact wl_end ⟨hf, H⟩
  ·have hf := hf.lit 15 rfl hc
   refine pz 10 hf fun a hf => ?_
   obtain rfl := oi hGc5
   have hf := hf.pn [4]
   have H := H.lt_ [false, false] [] [false] []
   exact wl_end ⟨hf, H⟩
 refine then_n (wp_ret (?_))
 obtain rfl := oi hF
 refine rT hf ?_
 exact ⟨_, rfl, H.bel, mk_bool⟩
theorem impl_collide_ok {S : Nat → Prop} {v0_ : Value} {v1_ : Value} {a' : Light} {b' : Light} {r : Bool} (h0 : VR w0 S v0_ a') (h1 : VR w0 S v1_ b') (hF : impl_collide fu a' b' = some r) :
    Calls Tryz.prog 94 [v0_, v1_].toArray w0 fun e w' => ∃ v, e = .returned v ∧ (Below w0.heap.size w0 w' ∧ VR w' (St ⟨w0, []⟩ S [] [] [] true) v r) := by
 obtain ⟨A, c, rfl, hl⟩ := Light_open h0
 obtain ⟨A2, c2, rfl, hl2⟩ := Light_open h1
 have H := Mem.start ⟨w0, []⟩ S
 have H := H.pA hl
 have H := H.pA hl2
 refine en Tryz.func94 fun a hf => ?_
 rw [impl_collide] at hF
 refine bx hf H fun b2 a w hf H => ?_
 refine wl0 rfl (op_box hf H rfl rfl (by decide) fun b3 a w hf H => ?_)
 refine pz 1 hf fun a hf => ?_
 refine wl_end (then_n (sq ?_))
 obtain ⟨c3, hGc3, hF⟩ := bs_ hF
 have fh := hf.prune [] rfl
 have Hm := H.lt_ [false, false] [] [] []
 refine midF 4 (.bool c3) fh Hm ?_ fun a w hf H => ?_
 ·refine dw [] 20 fun w hb => ?_
  have H := H.keep hb
  refine zp 0 hf trivial fun a hf => ?_
  refine strT (H.lt_ [false, true] [] [] []) (fun w H => trivial) fun hS => ?_
  refine zS 1 [] rfl rfl rfl rfl hf hS (fun w H => rq_loadBN hf H TF.la71 0 rfl rfl rfl rfl) fun a hf => ?_
  refine zp 3 hf hS fun a hf => ?_
  refine strT (H.lt_ [true, true] [] [] []) (fun w H => H.lt_ [false, true] [] [] []) fun hS => ?_
  refine zS 4 [] rfl rfl rfl rfl hf hS (fun w H => rq_loadBN hf H TF.la71 0 rfl rfl rfl rfl) fun a hf => ?_
  obtain ⟨y, hy, hGc3⟩ := bs_ hGc3
  refine nn 2 rfl (oC hf TF.cl144 (impl_maskOf_ok (S := TT) Block_mkv hy) fun v w a hp hf => ?_)
  obtain ⟨hb, hp⟩ := hp
  obtain rfl := VR_int hp
  have H := H.keep hb
  have hS := H.lt_ [true, true] [] [] []
  refine aS hS ?_
  obtain ⟨y2, hy2, hGc3⟩ := bs_ hGc3
  refine nn 5 rfl (oC hf TF.cl144 (impl_maskOf_ok (S := TT) Block_mkv hy2) fun v2 w a hp2 hf => ?_)
  obtain ⟨hb2, hp2⟩ := hp2
  obtain rfl := VR_int hp2
  have H := H.keep hb2
  have hS := H.lt_ [true, true] [] [] []
  refine aS hS ?_
  refine zp 6 hf hS fun a hf => ?_
  refine zp 7 hf hS fun a hf => ?_
  refine zp 8 hf hS fun a hf => ?_
  refine iteB hGc3 (fun hc hGc3 => ?_) fun hc hGc3 => ?_
  ·have hf := hf.lit 13 rfl hc
   refine zg 9 hf hS fun a hf => ?_
   refine zg 10 hf hS fun a hf => ?_
   refine tSg 11 [] rfl rfl rfl rfl rfl rfl hf (by kernel_rfl) (by kernel_rfl) hS (fun w H => rq_loadB hf H TF.ls47 1 rfl rfl rfl) fun a hf => ?_
   refine zg 12 hf hS fun a hf => ?_
   refine zg 13 hf hS fun a hf => ?_
   refine tSg 14 [] rfl rfl rfl rfl rfl rfl hf (by kernel_rfl) (by kernel_rfl) hS (fun w H => rq_loadB hf H TF.ls47 0 rfl rfl rfl) fun a hf => ?_
   obtain ⟨y3, hy3, hGc3⟩ := bs_ hGc3
   refine n1g 15 (by kernel_rfl) rfl rfl rfl rfl hf (oC hf TF.cl161 (impl_common_ok (S := TT) (mk_list (H.rt 1 rfl)) (mk_list (H.rt 0 rfl)) hy3) fun v3 w a hp3 hf => ?_)
   obtain ⟨hb3, hp3⟩ := hp3
   obtain ⟨A3, c4, rfl, hl3⟩ := VR_list hp3
   replace hl3 := H.rF hl3
   have H := H.keep hb3
   have H := H.pT hl3
   have hS := H.lt_ [true, true] [] [] []
   refine aS hS ?_
   refine zg 16 hf hS fun a hf => ?_
   refine zg 17 hf hS fun a hf => ?_
   refine zp 18 hf hS fun a hf => ?_
   refine zp 19 hf hS fun a hf => ?_
   refine dk ?_
   obtain rfl := oi hGc3
   have hf := hf.pn [4]
   have H := H.lt_ [false, false] [] [] []
   exact ⟨hf, H⟩
  ·have hf := hf.lit 13 rfl hc
   refine zU 9 hf hS fun a hf => ?_
   refine zU 10 hf hS fun a hf => ?_
   refine zU 11 hf hS fun a hf => ?_
   refine zU 12 hf hS fun a hf => ?_
   refine zU 13 hf hS fun a hf => ?_
   refine zU 14 hf hS fun a hf => ?_
   refine zU 15 hf hS fun a hf => ?_
   refine zU 16 hf hS fun a hf => ?_
   refine zU 17 hf hS fun a hf => ?_
   refine zp 18 hf hS fun a hf => ?_
   refine zp 19 hf hS fun a hf => ?_
   refine dk ?_
   obtain rfl := oi hGc3
   have hf := hf.pn [4]
   have H := H.lt_ [false, false] [] [] []
   exact ⟨hf, H⟩
 refine then_n (wp_ret (?_))
 obtain rfl := oi hF
 refine rT hf ?_
 exact ⟨_, rfl, H.bel, mk_bool⟩
theorem impl_IsValidPlan_c1_ok {S : Nat → Prop} {v0_ : Value} {b1 o1 : Nat} {cs1 : List Value} {own : Light} {cap : Light} {r : Bool} (h0 : VR w0 S v0_ own) (hp1 : (MP.cells ⟨b1, o1, none⟩ cs1).pred w0 S) (hr1 : GoTy.rep w0 S cs1 cap) (hF : impl_IsValidPlan_c1 fu own cap = some r) :
    Calls Tryz.prog 93 [v0_, (.pointer (some ⟨b1, o1, none⟩))].toArray w0 fun e w' => ∃ v, e = .returned v ∧ (Below w0.heap.size w0 w' ∧ VR w' (St ⟨w0, []⟩ S [] [] [] true) v r) := by
 obtain ⟨A, c, rfl, hl⟩ := Light_open h0
 obtain ⟨A2, c2, rfl, hl2⟩ := Light_cells hr1
 have H := Mem.start ⟨w0, []⟩ S
 have H := H.pA hl
 have H := H.pA hl2
 have H := H.pushArg (MP.cells ⟨b1, o1, none⟩ [(.int .i64 cap.Id), (.int .i64 cap.Route.Start), (.slice A2 cap.Route.Fibers.length c2), (.int .i64 cap.Block.First), (.int .i64 cap.Block.Count)]) hp1
 refine en Tryz.func93 fun a hf => ?_
 rw [impl_IsValidPlan_c1] at hF
 refine bx hf H fun b3 a w hf H => ?_
 refine pz 1 hf fun a hf => ?_
 refine wr (lN 0 hf H TF.la73 fun a hf => ?_)
 refine oq hf (rq_loadIN hf H TF.la73 0 0 rfl rfl rfl rfl) fun a hf => ?_
 obtain ⟨y, hy, hF⟩ := bs_ hF
 refine oc hf TF.cl94 (impl_collide_ok (S := TT) (Light_mkv (x := own) (H.rt 2 rfl)) (Light_mkv (x := cap) (H.rt 1 rfl)) hy) fun v w a hp3 hf => ?_
 obtain ⟨hb, hp3⟩ := hp3
 obtain rfl := VR_bool hp3
 have H := H.keep hb
 refine pz 1 hf fun a hf => ?_
 refine wer ?_
 obtain rfl := oi hF
 refine rT hf ?_
 exact ⟨_, rfl, H.bel, mk_bool⟩
theorem slices_IndexFunc_impl_Light_impl_Light_of_IsValidPlan_c1_ok {S : Nat → Prop} {v0_ : Value} {b1_0 o1_0 : Nat} {cs1_0 : List Value} {s' : List Light} {cap : Light} {r : Int} (h0 : VR w0 S v0_ s') (hp1_0 : (MP.cells ⟨b1_0, o1_0, none⟩ cs1_0).pred w0 S) (hr1_0 : GoTy.rep w0 S cs1_0 cap) (hF : slices_IndexFunc_impl_Light_impl_Light_of_IsValidPlan_c1 fu s' cap = some r) :
    Calls Tryz.prog 160 [v0_, (.func (.func 93) #[] #[(.pointer (some ⟨b1_0, o1_0, none⟩))])].toArray w0 fun e w' => ∃ v, e = .returned v ∧ (Below w0.heap.size w0 w' ∧ VR w' (St ⟨w0, []⟩ S [] [] [] true) v r) := by
 obtain ⟨A, c, rfl, hl⟩ := VR_list h0
 obtain ⟨A2, c2, rfl, hl2⟩ := Light_cells hr1_0
 have H := Mem.start ⟨w0, []⟩ S
 have H := H.pA hl
 have H := H.pA hl2
 have H := H.pushArg (MP.cells ⟨b1_0, o1_0, none⟩ [(.int .i64 cap.Id), (.int .i64 cap.Route.Start), (.slice A2 cap.Route.Fibers.length c2), (.int .i64 cap.Block.First), (.int .i64 cap.Block.Count)]) hp1_0
 refine en Tryz.func160 fun a hf => ?_
 rw [slices_IndexFunc_impl_Light_impl_Light_of_IsValidPlan_c1] at hF
 refine sqz (pz 1 hf fun a hf => ?_)
 refine we (sqz (pz 3 hf fun a hf => ?_))
 refine wl_end (then_n ?_)
 obtain ⟨out', hB1, hF⟩ := bs_ hF
 have hf := hf.pn [0, 1, 7, 8]
 have H := H.lt_ [] [] [] [0, 1, 2]
 refine loopC (fun (s : Int) (a : Act) (w : World) => match s with | i => Fr a 19 [(0, (.slice A s'.length c)), (1, (.func (.func 93) #[] #[(.pointer (some ⟨b1_0, o1_0 + 0, none⟩))])), (7, (.int .i64 (s'.length : Int))), (8, (.int .i64 i))] ∧ Mem ⟨w0, []⟩ S [] [] [] [(false, MP.cells ⟨b1_0, o1_0, none⟩ [(.int .i64 cap.Id), (.int .i64 cap.Route.Start), (.slice A2 cap.Route.Fibers.length c2), (.int .i64 cap.Block.First), (.int .i64 cap.Block.Count)]), (false, MP.val [(.slice A2 cap.Route.Fibers.length c2)] (cap.Route.Fibers : List Int)), (false, MP.val [(.slice A s'.length c)] (s' : List Light))] w) (fun k (s : Int) => slices_IndexFunc_impl_Light_impl_Light_of_IsValidPlan_c1_L1 fu s' cap k s = some out') (fun s => out' = Out.next s) 0 fu hB1 ⟨hf, H⟩ (fun s h => by cases h) ?_ ?_
 ·rintro fk i a w hR1 hI
  replace hR1 : slices_IndexFunc_impl_Light_impl_Light_of_IsValidPlan_c1_L1 fu s' cap (fk + 1) i = some out' := hR1
  rw [slices_IndexFunc_impl_Light_impl_Light_of_IsValidPlan_c1_L1] at hR1
  obtain ⟨hf, H⟩ := hI
  refine sqz (pz 1 hf fun a hf => ?_)
  refine wl_end (then_n (sq (ib hR1 hf (fun hc hR1 => ?_) fun hc hR1 => ?_)))
  ·refine ws (pz 2 hf fun a hf => ?_)
   refine wr (pz 3 hf fun a hf => ?_)
   obtain ⟨e, he, hR1⟩ := bs_ hR1
   refine wl0 rfl (op_iaddr hf H Tryz.underlying35 TF.sz73 2 rfl rfl rfl he (by decide) fun p o3 cs3 a hf hr3 H => ?_)
   obtain ⟨A3, c3, rfl, hl3⟩ := Light_cells hr3
   have H := H.pF hl3
   refine oq hf (rq_loadIN hf H TF.la73 1 0 rfl rfl rfl rfl) fun a hf => ?_
   obtain ⟨y, hy, hR1⟩ := bs_ hR1
   refine wl0 rfl (op_callV hf TF.cl93 rfl rfl (by decide) (impl_IsValidPlan_c1_ok (S := TT) (Light_mkv (x := e) (H.rt 0 rfl)) (mp_true (H.get 2 rfl)) ((Light_mk (x := cap) (H.rt 3 rfl))) hy) fun v w a hp3 hf => ?_)
   obtain ⟨hb, hp3⟩ := hp3
   obtain rfl := VR_bool hp3
   have H := H.keep hb
   refine wl_end (then_n (ib hR1 hf (fun hc2 hR1 => ?_) fun hc2 hR1 => ?_))
   ·refine sqz (pz 2 hf fun a hf => ?_)
    have hf := hf.pn [4]
    refine wl_end (then_n (wp_ret (blk_r (then_r (then_r (blk_r (then_r (then_r (?_)))))))))
    obtain rfl := oi hR1
    replace hF := on_ret hF
    obtain rfl := oi hF
    refine rT hf ?_
    exact ⟨_, rfl, H.bel, mk_int⟩
   ·refine wp_skip (blk_n (then_n (reg (pz 2 hf fun a hf => ?_))))
    refine wl_end ?_
    have hf := hf.pn [0, 1, 7, 8]
    have H := H.lt_ [] [] [] [2, 3, 4]
    exact then_n ⟨w64 (i + 1), hR1, hf, H⟩
  ·refine wp_exit (then_x (then_x (blk_e (?_))))
   have hf := hf.pn [0, 1, 7, 8]
   have H := H.lt_ [] [] [] [0, 1, 2]
   exact ⟨i, (Option.some.inj hR1).symm, hf, H⟩
 rintro a w ⟨i2, rfl, hf, H⟩
 replace hF := on_next hF
 refine then_n (sqz (pz 1 hf fun a hf => ?_))
 refine wer ?_
 obtain rfl := oi hF
 refine rT hf ?_
 exact ⟨_, rfl, H.bel, mk_int⟩
theorem slices_ContainsFunc_impl_Light_impl_Light_of_IsValidPlan_c1_ok {S : Nat → Prop} {v0_ : Value} {b1_0 o1_0 : Nat} {cs1_0 : List Value} {s' : List Light} {cap : Light} {r : Bool} (h0 : VR w0 S v0_ s') (hp1_0 : (MP.cells ⟨b1_0, o1_0, none⟩ cs1_0).pred w0 S) (hr1_0 : GoTy.rep w0 S cs1_0 cap) (hF : slices_ContainsFunc_impl_Light_impl_Light_of_IsValidPlan_c1 fu s' cap = some r) :
    Calls Tryz.prog 92 [v0_, (.func (.func 93) #[] #[(.pointer (some ⟨b1_0, o1_0, none⟩))])].toArray w0 fun e w' => ∃ v, e = .returned v ∧ (Below w0.heap.size w0 w' ∧ VR w' (St ⟨w0, []⟩ S [] [] [] true) v r) := by
 obtain ⟨A, c, rfl, hl⟩ := VR_list h0
 obtain ⟨A2, c2, rfl, hl2⟩ := Light_cells hr1_0
 have H := Mem.start ⟨w0, []⟩ S
 have H := H.pA hl
 have H := H.pA hl2
 have H := H.pushArg (MP.cells ⟨b1_0, o1_0, none⟩ [(.int .i64 cap.Id), (.int .i64 cap.Route.Start), (.slice A2 cap.Route.Fibers.length c2), (.int .i64 cap.Block.First), (.int .i64 cap.Block.Count)]) hp1_0
 refine en Tryz.func92 fun a hf => ?_
 rw [slices_ContainsFunc_impl_Light_impl_Light_of_IsValidPlan_c1] at hF
 refine sqz (pz 1 hf fun a hf => ?_)
 refine wr (pz 2 hf fun a hf => ?_)
 obtain ⟨y, hy, hF⟩ := bs_ hF
 refine oc hf TF.cl160 (slices_IndexFunc_impl_Light_impl_Light_of_IsValidPlan_c1_ok (S := TT) (mk_list (H.rt 2 rfl)) (mp_true (H.get 0 rfl)) ((Light_mk (x := cap) (H.rt 1 rfl))) hy) fun v w a hp3 hf => ?_
 obtain ⟨hb, hp3⟩ := hp3
 obtain rfl := VR_int hp3
 have H := H.keep hb
 refine pz 2 hf fun a hf => ?_
 refine wer ?_
 obtain rfl := oi hF
 refine rT hf ?_
 exact ⟨_, rfl, H.bel, mk_bool⟩
theorem impl_IsValidPlan_ok {S : Nat → Prop} {v0_ : Value} {p : Plan} {r : Bool} (h0 : VR w0 S v0_ p) (hF : impl_IsValidPlan fu p = some r) :
    Calls Tryz.prog 34 [v0_].toArray w0 fun e w' => ∃ v, e = .returned v ∧ (Below w0.heap.size w0 w' ∧ VR w' (St ⟨w0, []⟩ S [] [] [] true) v r) := by
 obtain ⟨A, c, A2, c2, A3, c3, rfl, hl, hl2, hl3⟩ := Plan_open h0
 have H := Mem.start ⟨w0, []⟩ S
 have H := H.pA hl
 have H := H.pA hl2
 have H := H.pA hl3
 refine en Tryz.func34 fun a hf => ?_
 rw [impl_IsValidPlan] at hF
 refine bx hf H fun b' a w hf H => ?_
 refine pz 1 hf fun a hf => ?_
 refine wl_end (then_n (sq (sq ?_)))
 obtain ⟨c4, hGc4, hF⟩ := bs_ hF
 have fh := hf.prune [1] rfl
 have Hm := H.lt_ [true] [] [] [0, 1, 2]
 refine midF 14 (.bool c4) fh Hm ?_ fun a w hf H => ?_
 ·refine reg (pz 1 hf fun a hf => ?_)
  refine lN 0 hf H TF.la34 fun a hf => ?_
  obtain ⟨y, hy, hGc4⟩ := bs_ hGc4
  refine oc hf TF.cl90 (impl_IsValidNetwork_ok (S := TT) (Network_mkv (x := p.Network) (H.rt 2 rfl) (H.rt 1 rfl)) hy) fun v w a hp hf => ?_
  obtain ⟨hb, hp⟩ := hp
  obtain rfl := VR_bool hp
  have H := H.keep hb
  refine pz 2 hf fun a hf => ?_
  refine iteB hGc4 (fun hc hGc4 => ?_) fun hc hGc4 => ?_
  ·have hf := hf.lit 9 rfl hc
   refine pz 5 hf fun a hf => ?_
   obtain rfl := oi hGc4
   have hf := hf.pn [14, 1]
   have H := H.lt_ [true] [] [] [0, 1, 2]
   exact wl_end ⟨hf, H⟩
  ·have hf := hf.lit 9 rfl hc
   refine pz 1 hf fun a hf => ?_
   refine wlg hf rfl rfl rfl (op_q hf (rq_loadB hf H TF.ls35 0 rfl rfl rfl) rfl (by decide) fun a hf => ?_)
   refine pz 3 hf fun a hf => ?_
   obtain rfl := oi hGc4
   have hf := hf.pn [14, 1]
   have H := H.lt_ [true] [] [] [0, 1, 2]
   exact wl_end ⟨hf, H⟩
 refine then_n (ib hF hf (fun hc2 hF => ?_) fun hc2 hF => ?_)
 ·refine sqz (pz 1 hf fun a hf => ?_)
  refine wl_end (then_n (wp_ret (then_r (?_))))
  obtain rfl := oi hF
  refine rT hf ?_
  exact ⟨_, rfl, H.bel, mk_bool⟩
 ·refine wp_skip (then_n (sq (sqz (pz 1 hf fun a hf => ?_))))
  refine lB 0 hf H TF.ls35 fun a hf => ?_
  refine pz 2 hf fun a hf => ?_
  refine wl_end (then_n ?_)
  obtain ⟨out', hB1, hF⟩ := bs_ hF
  have hf := hf.pn [1, 16, 17, 18]
  have H := H.lt_ [true] [] [] [0, 1, 2]
  refine loopC (fun (s : Int) (a : Act) (w : World) => match s with | i => Fr a 53 [(1, (.pointer (some ⟨b', 0, none⟩))), (16, (.slice A3 p.Lights.length c3)), (17, (.int .i64 (p.Lights.length : Int))), (18, (.int .i64 i))] ∧ Mem ⟨w0, []⟩ S [⟨b', 37, [(.slice A p.Network.Nodes.length c), (.slice A2 p.Network.Fibers.length c2), (.slice A3 p.Lights.length c3)]⟩] [] [] [(false, MP.val [(.slice A3 p.Lights.length c3)] (p.Lights : List Light)), (false, MP.val [(.slice A2 p.Network.Fibers.length c2)] (p.Network.Fibers : List Fiber)), (false, MP.val [(.slice A p.Network.Nodes.length c)] (p.Network.Nodes : List ByteArray))] w) (fun k (s : Int) => impl_IsValidPlan_L1 fu p k s = some out') (fun s => out' = Out.next s) 0 fu hB1 ⟨hf, H⟩ (fun s h => by cases h) ?_ ?_
  ·rintro fk i a w hR1 hI
   replace hR1 : impl_IsValidPlan_L1 fu p (fk + 1) i = some out' := hR1
   rw [impl_IsValidPlan_L1] at hR1
   obtain ⟨hf, H⟩ := hI
   refine sqz (pz 1 hf fun a hf => ?_)
   refine wl_end (then_n (sq (ib hR1 hf (fun hc3 hR1 => ?_) fun hc3 hR1 => ?_)))
   ·refine ws (pz 1 hf fun a hf => ?_)
    obtain ⟨e, he, hR1⟩ := bs_ hR1
    refine wl0 rfl (op_iaddr hf H Tryz.underlying35 TF.sz73 0 rfl rfl rfl he (by decide) fun p2 o cs a hf hr H => ?_)
    obtain ⟨A4, c5, rfl, hl4⟩ := Light_cells hr
    have H := H.pF hl4
    refine oq hf (rq_loadIN hf H TF.la73 1 0 rfl rfl rfl rfl) fun a hf => ?_
    refine aL hf H TF.zv73 fun b2 a w hf H => ?_
    refine pz 1 hf fun a hf => ?_
    refine sB 0 hf H TF.sz73 fun w H => ?_
    refine wl_end (then_n (sq ?_))
    obtain ⟨c6, hGc6, hR1⟩ := bs_ hR1
    have fh2 := hf.prune [1, 16, 17, 18] rfl
    have Hm2 := H.lt_ [false, true] [] [] [2, 3, 4]
    refine midF 51 (.bool c6) fh2 Hm2 ?_ fun a w hf H => ?_
    ·refine dw [] 29 fun w hb => ?_
     have H := H.keep hb
     refine zp 0 hf trivial fun a hf => ?_
     refine strT (H.lt_ [false, true] [] [] []) (fun w H => trivial) fun hS => ?_
     refine zS 1 [] rfl rfl rfl rfl hf hS (fun w H => rq_loadBN hf H TF.la34 0 rfl rfl rfl rfl) fun a hf => ?_
     refine strT (H.lt_ [true, true] [] [] []) (fun w H => H.lt_ [false, true] [] [] []) fun hS => ?_
     refine zS 2 [] rfl rfl rfl rfl hf hS (fun w H => rq_loadBN hf H TF.la73 0 rfl rfl rfl rfl) fun a hf => ?_
     obtain ⟨y2, hy2, hGc6⟩ := bs_ hGc6
     refine nn 3 rfl (oC hf TF.cl91 (impl_isLight_ok (S := TT) (Network_mkv (x := p.Network) (H.rt 4 rfl) (H.rt 3 rfl)) (Light_mkv (x := e) (H.rt 0 rfl)) hy2) fun v2 w a hp2 hf => ?_)
     obtain ⟨hb2, hp2⟩ := hp2
     obtain rfl := VR_bool hp2
     have H := H.keep hb2
     have hS := H.lt_ [true, true] [] [] []
     refine aS hS ?_
     refine zp 4 hf hS fun a hf => ?_
     refine zp 5 hf hS fun a hf => ?_
     refine iteB hGc6 (fun hc4 hGc6 => ?_) fun hc4 hGc6 => ?_
     ·have hf := hf.lit 28 rfl hc4
      refine zU 6 hf hS fun a hf => ?_
      refine zU 7 hf hS fun a hf => ?_
      refine zU 8 hf hS fun a hf => ?_
      refine zV 9 hf hS fun a hf => ?_
      refine zV 10 hf hS fun a hf => ?_
      refine zV 11 hf hS fun a hf => ?_
      refine zV 12 hf hS fun a hf => ?_
      refine zV 13 hf hS fun a hf => ?_
      refine zV 14 hf hS fun a hf => ?_
      refine zV 15 hf hS fun a hf => ?_
      refine zV 16 hf hS fun a hf => ?_
      refine zV 17 hf hS fun a hf => ?_
      refine zV 18 hf hS fun a hf => ?_
      refine zU 19 hf hS fun a hf => ?_
      refine zp 20 hf hS fun a hf => ?_
      refine zp 21 hf hS fun a hf => ?_
      refine zU 22 hf hS fun a hf => ?_
      refine zU 23 hf hS fun a hf => ?_
      refine zU 24 hf hS fun a hf => ?_
      refine zU 25 hf hS fun a hf => ?_
      refine zU 26 hf hS fun a hf => ?_
      refine zU 27 hf hS fun a hf => ?_
      refine zp 28 hf hS fun a hf => ?_
      refine dk ?_
      obtain rfl := oi hGc6
      have hf := hf.pn [51, 1, 16, 17, 18]
      have H := H.lt_ [false, true] [] [] [2, 3, 4]
      exact ⟨hf, H⟩
     ·have hf := hf.lit 28 rfl hc4
      refine zg 6 hf hS fun a hf => ?_
      refine zg 7 hf hS fun a hf => ?_
      refine zg 8 hf hS fun a hf => ?_
      refine iteB hGc6 (fun hc5 hGc6 => ?_) fun hc5 hGc6 => ?_
      ·have hf := hf.lit 31 rfl hc5
       refine zg 9 hf hS fun a hf => ?_
       refine tSg 10 [] rfl rfl rfl rfl rfl rfl hf (by kernel_rfl) (by kernel_rfl) hS (fun w H => rq_loadB hf H TF.ls35 1 rfl rfl rfl) fun a hf => ?_
       refine zg 11 hf hS fun a hf => ?_
       refine zg 12 hf hS fun a hf => ?_
       obtain ⟨e2, he2, hGc6⟩ := bs_ hGc6
       obtain ⟨p3, o2, cs2, hx, hr2, H⟩ := pre_iaddr H Tryz.underlying35 TF.sz73 2 rfl he2
       refine tPg 13 rfl rfl rfl rfl rfl rfl hf (by kernel_rfl) (fun _ => hS) (fun w => rq_iaddrE hf rfl rfl rfl hx w) fun a hf => ?_
       obtain ⟨A5, c7, rfl, hl5⟩ := Light_cells hr2
       have H := H.pF hl5
       refine zg 14 hf hS fun a hf => ?_
       refine strT (H.lt_ [true, true] [] [] [1]) (fun w H => H.lt_ [true, true] [] [] []) fun hS => ?_
       refine tSg 15 [] rfl rfl rfl rfl rfl rfl hf (by kernel_rfl) (by kernel_rfl) hS (fun w H => rq_loadI hf H TF.ls3 0 0 rfl rfl rfl) fun a hf => ?_
       refine zg 16 hf hS fun a hf => ?_
       refine tSg 17 [] rfl rfl rfl rfl rfl rfl hf (by kernel_rfl) (by kernel_rfl) hS (fun w H => rq_loadB hf H TF.ls3 0 rfl rfl rfl) fun a hf => ?_
       refine zg 18 hf hS fun a hf => ?_
       refine zg 19 hf hS fun a hf => ?_
       refine zp 20 hf hS fun a hf => ?_
       refine zp 21 hf hS fun a hf => ?_
       refine iteB hGc6 (fun hc6 hGc6 => ?_) fun hc6 hGc6 => ?_
       ·have hf := hf.lit 44 rfl hc6
        refine zU 22 hf hS fun a hf => ?_
        refine zU 23 hf hS fun a hf => ?_
        refine zU 24 hf hS fun a hf => ?_
        refine zU 25 hf hS fun a hf => ?_
        refine zU 26 hf hS fun a hf => ?_
        refine zU 27 hf hS fun a hf => ?_
        refine zp 28 hf hS fun a hf => ?_
        refine dk ?_
        obtain rfl := oi hGc6
        have hf := hf.pn [51, 1, 16, 17, 18]
        have H := H.lt_ [false, true] [] [] [4, 5, 6]
        exact ⟨hf, H⟩
       ·have hf := hf.lit 44 rfl hc6
        refine zg 22 hf hS fun a hf => ?_
        refine tSg 23 [] rfl rfl rfl rfl rfl rfl hf (by kernel_rfl) (by kernel_rfl) hS (fun w H => rq_loadB hf H TF.ls35 1 rfl rfl rfl) fun a hf => ?_
        refine zg 24 hf hS fun a hf => ?_
        obtain ⟨l, hl_, hGc6⟩ := bs_ hGc6
        obtain ⟨A6, c8, hx2, H⟩ := pre_slice H Tryz.underlying35 TF.sz73 4 (lov := none) (hiv := some (.int .i64 i)) (.inl ⟨rfl, rfl⟩) (.inr rfl) rfl hl_
        refine tPg 25 rfl rfl rfl rfl rfl rfl hf (by kernel_rfl) (fun _ => hS) (fun w => rq_sliceE hf rfl rfl rfl hx2 w) fun a hf => ?_
        refine n1g 26 (by kernel_rfl) rfl rfl rfl rfl hf (op_q hf (rq_makeFunc hf rfl) rfl (by decide) fun a hf => ?_)
        have hS := H.lt_ [true, true] [] [] [2]
        refine aS hS ?_
        obtain ⟨y3, hy3, hGc6⟩ := bs_ hGc6
        refine n1g 27 (by kernel_rfl) rfl rfl rfl rfl hf (oC hf TF.cl92 (slices_ContainsFunc_impl_Light_impl_Light_of_IsValidPlan_c1_ok (S := TT) (mk_list (H.rt 0 rfl)) (H.boxTrue 0 rfl) ((Light_mk (x := e) (H.rt 3 rfl))) hy3) fun v3 w a hp3 hf => ?_)
        obtain ⟨hb3, hp3⟩ := hp3
        obtain rfl := VR_bool hp3
        have H := H.keep hb3
        have hS := H.lt_ [true, true] [] [] [2]
        refine aS hS ?_
        refine zp 28 hf hS fun a hf => ?_
        refine dk ?_
        obtain rfl := oi hGc6
        have hf := hf.pn [51, 1, 16, 17, 18]
        have H := H.lt_ [false, true] [] [] [5, 6, 7]
        exact ⟨hf, H⟩
      ·have hf := hf.lit 31 rfl hc5
       refine zU 9 hf hS fun a hf => ?_
       refine zU 10 hf hS fun a hf => ?_
       refine zU 11 hf hS fun a hf => ?_
       refine zU 12 hf hS fun a hf => ?_
       refine zU 13 hf hS fun a hf => ?_
       refine zU 14 hf hS fun a hf => ?_
       refine zU 15 hf hS fun a hf => ?_
       refine zU 16 hf hS fun a hf => ?_
       refine zU 17 hf hS fun a hf => ?_
       refine zU 18 hf hS fun a hf => ?_
       refine zg 19 hf hS fun a hf => ?_
       refine zp 20 hf hS fun a hf => ?_
       refine zp 21 hf hS fun a hf => ?_
       refine zg 22 hf hS fun a hf => ?_
       refine tSg 23 [] rfl rfl rfl rfl rfl rfl hf (by kernel_rfl) (by kernel_rfl) hS (fun w H => rq_loadB hf H TF.ls35 1 rfl rfl rfl) fun a hf => ?_
       refine zg 24 hf hS fun a hf => ?_
       obtain ⟨l2, hl2_, hGc6⟩ := bs_ hGc6
       obtain ⟨A7, c9, hx3, H⟩ := pre_slice H Tryz.underlying35 TF.sz73 2 (lov := none) (hiv := some (.int .i64 i)) (.inl ⟨rfl, rfl⟩) (.inr rfl) rfl hl2_
       refine tPg 25 rfl rfl rfl rfl rfl rfl hf (by kernel_rfl) (fun _ => hS) (fun w => rq_sliceE hf rfl rfl rfl hx3 w) fun a hf => ?_
       refine n1g 26 (by kernel_rfl) rfl rfl rfl rfl hf (op_q hf (rq_makeFunc hf rfl) rfl (by decide) fun a hf => ?_)
       have hS := H.lt_ [true, true] [] [] []
       refine aS hS ?_
       obtain ⟨y4, hy4, hGc6⟩ := bs_ hGc6
       refine n1g 27 (by kernel_rfl) rfl rfl rfl rfl hf (oC hf TF.cl92 (slices_ContainsFunc_impl_Light_impl_Light_of_IsValidPlan_c1_ok (S := TT) (mk_list (H.rt 0 rfl)) (H.boxTrue 0 rfl) ((Light_mk (x := e) (H.rt 1 rfl))) hy4) fun v4 w a hp4 hf => ?_)
       obtain ⟨hb4, hp4⟩ := hp4
       obtain rfl := VR_bool hp4
       have H := H.keep hb4
       have hS := H.lt_ [true, true] [] [] []
       refine aS hS ?_
       refine zp 28 hf hS fun a hf => ?_
       refine dk ?_
       obtain rfl := oi hGc6
       have hf := hf.pn [51, 1, 16, 17, 18]
       have H := H.lt_ [false, true] [] [] [3, 4, 5]
       exact ⟨hf, H⟩
    refine then_n (ib hR1 hf (fun hc7 hR1 => ?_) fun hc7 hR1 => ?_)
    ·refine sqz (pz 1 hf fun a hf => ?_)
     refine wl_end (then_n (wp_ret (blk_r (then_r (then_r (blk_r (then_r (then_r (?_)))))))))
     obtain rfl := oi hR1
     replace hF := on_ret hF
     obtain rfl := oi hF
     refine rT hf ?_
     exact ⟨_, rfl, H.bel, mk_bool⟩
    ·refine wp_skip (blk_n (then_n (reg (pz 2 hf fun a hf => ?_))))
     refine wl_end ?_
     have hf := hf.pn [1, 16, 17, 18]
     have H := H.lt_ [true] [] [] [0, 1, 2]
     exact then_n ⟨w64 (i + 1), hR1, hf, H⟩
   ·refine wp_exit (then_x (then_x (blk_e (?_))))
    have hf := hf.pn [1, 16, 17, 18]
    have H := H.lt_ [true] [] [] [0, 1, 2]
    exact ⟨i, (Option.some.inj hR1).symm, hf, H⟩
  rintro a w ⟨i2, rfl, hf, H⟩
  replace hF := on_next hF
  refine then_n (sqz (pz 1 hf fun a hf => ?_))
  refine wer ?_
  obtain rfl := oi hF
  refine rT hf ?_
  exact ⟨_, rfl, H.bel, mk_bool⟩
end AT
