/- The Go functions do what is told of them, by program (gen.py). -/
import Derived.Test.YtiedecncmihbeaaGreatWC2
set_option linter.unusedVariables false
set_option linter.unusedSimpArgs false
set_option maxRecDepth 100000
set_option maxHeartbeats 1000000
namespace AT
open Go Go.RowKit Go.Proofs
variable {fu : Nat} {w0 : World}
theorem laws_szStringS_ok {S : Nat → Prop} {v0_ : Value} {v1_ : Value} {a' : List ByteArray} {left : Int} {r : Int} (h0 : VR w0 S v0_ a') (h1 : VR w0 S v1_ left) (hF : laws_szStringS fu a' left = some r) :
    Calls Tryz.prog 114 [v0_, v1_].toArray w0 fun e w' => ∃ v, e = .returned v ∧ (Below w0.heap.size w0 w' ∧ VR w' (St ⟨w0, []⟩ S [] [] [] true) v r) := by
 obtain ⟨A, c, rfl, hl⟩ := VR_list h0
 obtain rfl := VR_int h1
 have H := Mem.start ⟨w0, []⟩ S
 have H := H.pA hl
 refine en Tryz.func114 fun a hf => ?_
 rw [laws_szStringS] at hF
 refine sqz (pz 1 hf fun a hf => ?_)
 refine wr (pz 5 hf fun a hf => ?_)
 refine we (sqz (pz 2 hf fun a hf => ?_))
 refine wl_end (then_n (ib hF hf (fun hc hF => ?_) fun hc hF => ?_))
 ·refine sqz (pz 1 hf fun a hf => ?_)
  refine wl_end (then_n (wp_ret (then_r (?_))))
  obtain rfl := oi hF
  refine rT hf ?_
  exact ⟨_, rfl, H.bel, mk_int⟩
 ·refine wp_skip (then_n (sq (sqz (pz 1 hf fun a hf => ?_))))
  refine wl_end (then_n ?_)
  obtain ⟨out', hB1, hF⟩ := bs_ hF
  have hf := hf.pn [0, 1, 5]
  have H := H.lt_ [] [] [] [0]
  refine loopC (fun (s : Int × Int) (a : Act) (w : World) => match s with | (left2, i) => Fr a 28 [(0, (.slice A a'.length c)), (1, (.int .i64 left2)), (5, (.int .i64 i))] ∧ Mem ⟨w0, []⟩ S [] [] [] [(false, MP.val [(.slice A a'.length c)] (a' : List ByteArray))] w) (fun k (s : Int × Int) => laws_szStringS_L1 fu a' k s.1 s.2 = some out') (fun s => out' = Out.next s) (w64 (left - (a'.length : Int)), 0) fu hB1 ⟨hf, H⟩ (fun s h => by cases h) ?_ ?_
  ·rintro fk ⟨left2, i⟩ a w hR1 hI
   replace hR1 : laws_szStringS_L1 fu a' (fk + 1) left2 i = some out' := hR1
   rw [laws_szStringS_L1] at hR1
   obtain ⟨hf, H⟩ := hI
   refine sq (sqz (pz 4 hf fun a hf => ?_))
   refine wl_end (then_n (ib hR1 hf (fun hc2 hR1 => ?_) fun hc2 hR1 => ?_))
   ·refine ws (pz 3 hf fun a hf => ?_)
    obtain ⟨e, he, hR1⟩ := bs_ hR1
    refine wl0 rfl (op_iaddr hf H Tryz.underlying22 TF.sz9 0 rfl rfl rfl he (by decide) fun p o cs a hf hr H => ?_)
    obtain rfl := hr
    refine oq hf (rq_loadI hf H TF.ls9 0 0 rfl rfl rfl) fun a hf => ?_
    refine pz 3 hf fun a hf => ?_
    refine wr (pz 2 hf fun a hf => ?_)
    refine wl_end (then_n (ib hR1 hf (fun hc3 hR1 => ?_) fun hc3 hR1 => ?_))
    ·refine sqz (pz 1 hf fun a hf => ?_)
     have hf := hf.pn [4]
     refine wl_end (then_n (wp_ret (blk_r (then_r (then_r (blk_r (then_r (then_r (?_)))))))))
     obtain rfl := oi hR1
     replace hF := on_ret hF
     obtain rfl := oi hF
     refine rT hf ?_
     exact ⟨_, rfl, H.bel, mk_int⟩
    ·refine wp_skip (blk_n (then_n (reg (pz 3 hf fun a hf => ?_))))
     have hf := hf.pn [0, 1, 5]
     refine wl_end ?_
     have hf := hf.pn [0, 1, 5]
     have H := H.lt_ [] [] [] [1]
     exact then_n ⟨(w64 (left2 - (e.size : Int)), w64 (i + 1)), hR1, hf, H⟩
   ·refine wp_exit (then_x (then_x (blk_e (?_))))
    have hf := hf.pn [0, 1, 5]
    have H := H.lt_ [] [] [] [0]
    exact ⟨(left2, i), (Option.some.inj hR1).symm, hf, H⟩
  rintro a w ⟨⟨left3, i2⟩, rfl, hf, H⟩
  replace hF := on_next hF
  try dsimp only at hF
  refine then_n (sqz (pz 2 hf fun a hf => ?_))
  refine wer ?_
  obtain rfl := oi hF
  refine rT hf ?_
  exact ⟨_, rfl, H.bel, mk_int⟩
theorem laws_szFiberS_ok {S : Nat → Prop} {v0_ : Value} {v1_ : Value} {a' : List Fiber} {left : Int} {r : Int} (h0 : VR w0 S v0_ a') (h1 : VR w0 S v1_ left) (hF : laws_szFiberS fu a' left = some r) :
    Calls Tryz.prog 115 [v0_, v1_].toArray w0 fun e w' => ∃ v, e = .returned v ∧ (Below w0.heap.size w0 w' ∧ VR w' (St ⟨w0, []⟩ S [] [] [] true) v r) := by
 obtain ⟨A, c, rfl, hl⟩ := VR_list h0
 obtain rfl := VR_int h1
 have H := Mem.start ⟨w0, []⟩ S
 have H := H.pA hl
 refine en Tryz.func115 fun a hf => ?_
 rw [laws_szFiberS] at hF
 refine sqz (pz 1 hf fun a hf => ?_)
 refine wr (pz 5 hf fun a hf => ?_)
 refine we (sqz (pz 2 hf fun a hf => ?_))
 refine wl_end (then_n (ib hF hf (fun hc hF => ?_) fun hc hF => ?_))
 ·refine sqz (pz 1 hf fun a hf => ?_)
  refine wl_end (then_n (wp_ret (then_r (?_))))
  obtain rfl := oi hF
  refine rT hf ?_
  exact ⟨_, rfl, H.bel, mk_int⟩
 ·refine wp_skip (then_n (sqz (pz 2 hf fun a hf => ?_)))
  refine wer ?_
  obtain rfl := oi hF
  refine rT hf ?_
  exact ⟨_, rfl, H.bel, mk_int⟩
theorem laws_szNetwork_ok {S : Nat → Prop} {v0_ : Value} {v1_ : Value} {a' : Network} {left : Int} {r : Int} (h0 : VR w0 S v0_ a') (h1 : VR w0 S v1_ left) (hF : laws_szNetwork fu a' left = some r) :
    Calls Tryz.prog 58 [v0_, v1_].toArray w0 fun e w' => ∃ v, e = .returned v ∧ (Below w0.heap.size w0 w' ∧ VR w' (St ⟨w0, []⟩ S [] [] [] true) v r) := by
 obtain ⟨A, c, A2, c2, rfl, hl, hl2⟩ := Network_open h0
 obtain rfl := VR_int h1
 have H := Mem.start ⟨w0, []⟩ S
 have H := H.pA hl
 have H := H.pA hl2
 refine en Tryz.func58 fun a hf => ?_
 rw [laws_szNetwork] at hF
 refine bx hf H fun b' a w hf H => ?_
 refine pz 1 hf fun a hf => ?_
 refine wr (pz 1 hf fun a hf => ?_)
 refine lB 0 hf H TF.ls22 fun a hf => ?_
 refine pz 1 hf fun a hf => ?_
 obtain ⟨y, hy, hF⟩ := bs_ hF
 refine oc hf TF.cl114 (laws_szStringS_ok (S := TT) (mk_list (H.rt 1 rfl)) mk_int hy) fun v w a hp hf => ?_
 obtain ⟨hb, hp⟩ := hp
 obtain rfl := VR_int hp
 have H := H.keep hb
 refine pz 1 hf fun a hf => ?_
 refine we (sqz (pz 2 hf fun a hf => ?_))
 refine wl_end (then_n (ib hF hf (fun hc hF => ?_) fun hc hF => ?_))
 ·refine sqz (pz 1 hf fun a hf => ?_)
  refine wl_end (then_n (wp_ret (then_r (?_))))
  obtain rfl := oi hF
  refine rT hf ?_
  exact ⟨_, rfl, H.bel, mk_int⟩
 ·refine wp_skip (then_n (sqz (pz 1 hf fun a hf => ?_)))
  refine lB 0 hf H TF.ls23 fun a hf => ?_
  refine pz 1 hf fun a hf => ?_
  obtain ⟨y2, hy2, hF⟩ := bs_ hF
  refine oc hf TF.cl115 (laws_szFiberS_ok (S := TT) (mk_list (H.rt 0 rfl)) mk_int hy2) fun v2 w a hp2 hf => ?_
  obtain ⟨hb2, hp2⟩ := hp2
  obtain rfl := VR_int hp2
  have H := H.keep hb2
  refine pz 1 hf fun a hf => ?_
  have hf := hf.pn [1]
  refine we (sqz (pz 2 hf fun a hf => ?_))
  refine wl_end (then_n (ib hF hf (fun hc2 hF => ?_) fun hc2 hF => ?_))
  ·refine sqz (pz 1 hf fun a hf => ?_)
   refine wl_end (then_n (wp_ret (then_r (?_))))
   obtain rfl := oi hF
   refine rT hf ?_
   exact ⟨_, rfl, H.bel, mk_int⟩
  ·refine wp_skip (then_n (sqz (pz 2 hf fun a hf => ?_)))
   refine wer ?_
   obtain rfl := oi hF
   refine rT hf ?_
   exact ⟨_, rfl, H.bel, mk_int⟩
theorem laws_szIntS_ok {S : Nat → Prop} {v0_ : Value} {v1_ : Value} {a' : List Int} {left : Int} {r : Int} (h0 : VR w0 S v0_ a') (h1 : VR w0 S v1_ left) (hF : laws_szIntS fu a' left = some r) :
    Calls Tryz.prog 163 [v0_, v1_].toArray w0 fun e w' => ∃ v, e = .returned v ∧ (Below w0.heap.size w0 w' ∧ VR w' (St ⟨w0, []⟩ S [] [] [] true) v r) := by
 obtain ⟨A, c, rfl, hl⟩ := VR_list h0
 obtain rfl := VR_int h1
 have H := Mem.start ⟨w0, []⟩ S
 have H := H.pA hl
 refine en Tryz.func163 fun a hf => ?_
 rw [laws_szIntS] at hF
 refine sqz (pz 1 hf fun a hf => ?_)
 refine wr (pz 5 hf fun a hf => ?_)
 refine we (sqz (pz 2 hf fun a hf => ?_))
 refine wl_end (then_n (ib hF hf (fun hc hF => ?_) fun hc hF => ?_))
 ·refine sqz (pz 1 hf fun a hf => ?_)
  refine wl_end (then_n (wp_ret (then_r (?_))))
  obtain rfl := oi hF
  refine rT hf ?_
  exact ⟨_, rfl, H.bel, mk_int⟩
 ·refine wp_skip (then_n (sqz (pz 2 hf fun a hf => ?_)))
  refine wer ?_
  obtain rfl := oi hF
  refine rT hf ?_
  exact ⟨_, rfl, H.bel, mk_int⟩
theorem laws_szRoute_ok {S : Nat → Prop} {v0_ : Value} {v1_ : Value} {a' : Route} {left : Int} {r : Int} (h0 : VR w0 S v0_ a') (h1 : VR w0 S v1_ left) (hF : laws_szRoute fu a' left = some r) :
    Calls Tryz.prog 116 [v0_, v1_].toArray w0 fun e w' => ∃ v, e = .returned v ∧ (Below w0.heap.size w0 w' ∧ VR w' (St ⟨w0, []⟩ S [] [] [] true) v r) := by
 obtain ⟨A, c, rfl, hl⟩ := Route_open h0
 obtain rfl := VR_int h1
 have H := Mem.start ⟨w0, []⟩ S
 have H := H.pA hl
 refine en Tryz.func116 fun a hf => ?_
 rw [laws_szRoute] at hF
 refine bx hf H fun b' a w hf H => ?_
 refine pz 1 hf fun a hf => ?_
 refine wr (pz 1 hf fun a hf => ?_)
 refine lB 0 hf H TF.ls29 fun a hf => ?_
 refine pz 1 hf fun a hf => ?_
 obtain ⟨y, hy, hF⟩ := bs_ hF
 refine oc hf TF.cl163 (laws_szIntS_ok (S := TT) (mk_list (H.rt 0 rfl)) mk_int hy) fun v w a hp hf => ?_
 obtain ⟨hb, hp⟩ := hp
 obtain rfl := VR_int hp
 have H := H.keep hb
 refine pz 1 hf fun a hf => ?_
 refine we (sqz (pz 2 hf fun a hf => ?_))
 refine wl_end (then_n (ib hF hf (fun hc hF => ?_) fun hc hF => ?_))
 ·refine sqz (pz 1 hf fun a hf => ?_)
  refine wl_end (then_n (wp_ret (then_r (?_))))
  obtain rfl := oi hF
  refine rT hf ?_
  exact ⟨_, rfl, H.bel, mk_int⟩
 ·refine wp_skip (then_n (sqz (pz 2 hf fun a hf => ?_)))
  refine wer ?_
  obtain rfl := oi hF
  refine rT hf ?_
  exact ⟨_, rfl, H.bel, mk_int⟩
theorem laws_szLight_ok {S : Nat → Prop} {v0_ : Value} {v1_ : Value} {a' : Light} {left : Int} {r : Int} (h0 : VR w0 S v0_ a') (h1 : VR w0 S v1_ left) (hF : laws_szLight fu a' left = some r) :
    Calls Tryz.prog 60 [v0_, v1_].toArray w0 fun e w' => ∃ v, e = .returned v ∧ (Below w0.heap.size w0 w' ∧ VR w' (St ⟨w0, []⟩ S [] [] [] true) v r) := by
 obtain ⟨A, c, rfl, hl⟩ := Light_open h0
 obtain rfl := VR_int h1
 have H := Mem.start ⟨w0, []⟩ S
 have H := H.pA hl
 refine en Tryz.func60 fun a hf => ?_
 rw [laws_szLight] at hF
 refine bx hf H fun b' a w hf H => ?_
 refine pz 1 hf fun a hf => ?_
 refine wr (pz 1 hf fun a hf => ?_)
 refine lN 0 hf H TF.la31 fun a hf => ?_
 refine pz 1 hf fun a hf => ?_
 obtain ⟨y, hy, hF⟩ := bs_ hF
 refine oc hf TF.cl116 (laws_szRoute_ok (S := TT) (Route_mkv (x := a'.Route) (H.rt 0 rfl)) mk_int hy) fun v w a hp hf => ?_
 obtain ⟨hb, hp⟩ := hp
 obtain rfl := VR_int hp
 have H := H.keep hb
 refine pz 1 hf fun a hf => ?_
 refine we (sqz (pz 2 hf fun a hf => ?_))
 refine wl_end (then_n (ib hF hf (fun hc hF => ?_) fun hc hF => ?_))
 ·refine sqz (pz 1 hf fun a hf => ?_)
  refine wl_end (then_n (wp_ret (then_r (?_))))
  obtain rfl := oi hF
  refine rT hf ?_
  exact ⟨_, rfl, H.bel, mk_int⟩
 ·refine wp_skip (then_n (sqz (pz 2 hf fun a hf => ?_)))
  refine wer ?_
  obtain rfl := oi hF
  refine rT hf ?_
  exact ⟨_, rfl, H.bel, mk_int⟩
theorem laws_szLightS_ok {S : Nat → Prop} {v0_ : Value} {v1_ : Value} {a' : List Light} {left : Int} {r : Int} (h0 : VR w0 S v0_ a') (h1 : VR w0 S v1_ left) (hF : laws_szLightS fu a' left = some r) :
    Calls Tryz.prog 59 [v0_, v1_].toArray w0 fun e w' => ∃ v, e = .returned v ∧ (Below w0.heap.size w0 w' ∧ VR w' (St ⟨w0, []⟩ S [] [] [] true) v r) := by
 obtain ⟨A, c, rfl, hl⟩ := VR_list h0
 obtain rfl := VR_int h1
 have H := Mem.start ⟨w0, []⟩ S
 have H := H.pA hl
 refine en Tryz.func59 fun a hf => ?_
 rw [laws_szLightS] at hF
 refine sqz (pz 1 hf fun a hf => ?_)
 refine wr (pz 5 hf fun a hf => ?_)
 refine we (sqz (pz 2 hf fun a hf => ?_))
 refine wl_end (then_n (ib hF hf (fun hc hF => ?_) fun hc hF => ?_))
 ·refine sqz (pz 1 hf fun a hf => ?_)
  refine wl_end (then_n (wp_ret (then_r (?_))))
  obtain rfl := oi hF
  refine rT hf ?_
  exact ⟨_, rfl, H.bel, mk_int⟩
 ·refine wp_skip (then_n (sq (sqz (pz 1 hf fun a hf => ?_))))
  refine wl_end (then_n ?_)
  obtain ⟨out', hB1, hF⟩ := bs_ hF
  have hf := hf.pn [0, 1, 5]
  have H := H.lt_ [] [] [] [0]
  refine loopC (fun (s : Int × Int) (a : Act) (w : World) => match s with | (left2, i) => Fr a 27 [(0, (.slice A a'.length c)), (1, (.int .i64 left2)), (5, (.int .i64 i))] ∧ Mem ⟨w0, []⟩ S [] [] [] [(false, MP.val [(.slice A a'.length c)] (a' : List Light))] w) (fun k (s : Int × Int) => laws_szLightS_L1 fu a' k s.1 s.2 = some out') (fun s => out' = Out.next s) (w64 (left - (a'.length : Int)), 0) fu hB1 ⟨hf, H⟩ (fun s h => by cases h) ?_ ?_
  ·rintro fk ⟨left2, i⟩ a w hR1 hI
   replace hR1 : laws_szLightS_L1 fu a' (fk + 1) left2 i = some out' := hR1
   rw [laws_szLightS_L1] at hR1
   obtain ⟨hf, H⟩ := hI
   refine sq (sqz (pz 4 hf fun a hf => ?_))
   refine wl_end (then_n (ib hR1 hf (fun hc2 hR1 => ?_) fun hc2 hR1 => ?_))
   ·refine ws (pz 2 hf fun a hf => ?_)
    obtain ⟨e, he, hR1⟩ := bs_ hR1
    refine wl0 rfl (op_iaddr hf H Tryz.underlying26 TF.sz35 0 rfl rfl rfl he (by decide) fun p o cs a hf hr H => ?_)
    obtain ⟨A2, c2, rfl, hl2⟩ := Light_cells hr
    have H := H.pF hl2
    refine oq hf (rq_loadIN hf H TF.la35 1 0 rfl rfl rfl rfl) fun a hf => ?_
    refine pz 1 hf fun a hf => ?_
    obtain ⟨y, hy, hR1⟩ := bs_ hR1
    refine oc hf TF.cl60 (laws_szLight_ok (S := TT) (Light_mkv (x := e) (H.rt 0 rfl)) mk_int hy) fun v w a hp hf => ?_
    obtain ⟨hb, hp⟩ := hp
    obtain rfl := VR_int hp
    have H := H.keep hb
    refine pz 1 hf fun a hf => ?_
    refine wr (pz 2 hf fun a hf => ?_)
    refine wl_end (then_n (ib hR1 hf (fun hc3 hR1 => ?_) fun hc3 hR1 => ?_))
    ·refine sqz (pz 1 hf fun a hf => ?_)
     have hf := hf.pn [4]
     refine wl_end (then_n (wp_ret (blk_r (then_r (then_r (blk_r (then_r (then_r (?_)))))))))
     obtain rfl := oi hR1
     replace hF := on_ret hF
     obtain rfl := oi hF
     refine rT hf ?_
     exact ⟨_, rfl, H.bel, mk_int⟩
    ·refine wp_skip (blk_n (then_n (reg (pz 3 hf fun a hf => ?_))))
     have hf := hf.pn [0, 1, 5]
     refine wl_end ?_
     have hf := hf.pn [0, 1, 5]
     have H := H.lt_ [] [] [] [2]
     exact then_n ⟨(y, w64 (i + 1)), hR1, hf, H⟩
   ·refine wp_exit (then_x (then_x (blk_e (?_))))
    have hf := hf.pn [0, 1, 5]
    have H := H.lt_ [] [] [] [0]
    exact ⟨(left2, i), (Option.some.inj hR1).symm, hf, H⟩
  rintro a w ⟨⟨left3, i2⟩, rfl, hf, H⟩
  replace hF := on_next hF
  try dsimp only at hF
  refine then_n (sqz (pz 2 hf fun a hf => ?_))
  refine wer ?_
  obtain rfl := oi hF
  refine rT hf ?_
  exact ⟨_, rfl, H.bel, mk_int⟩
theorem laws_szPlan_ok {S : Nat → Prop} {v0_ : Value} {v1_ : Value} {a' : Plan} {left : Int} {r : Int} (h0 : VR w0 S v0_ a') (h1 : VR w0 S v1_ left) (hF : laws_szPlan fu a' left = some r) :
    Calls Tryz.prog 11 [v0_, v1_].toArray w0 fun e w' => ∃ v, e = .returned v ∧ (Below w0.heap.size w0 w' ∧ VR w' (St ⟨w0, []⟩ S [] [] [] true) v r) := by
 obtain ⟨A, c, A2, c2, A3, c3, rfl, hl, hl2, hl3⟩ := Plan_open h0
 obtain rfl := VR_int h1
 have H := Mem.start ⟨w0, []⟩ S
 have H := H.pA hl
 have H := H.pA hl2
 have H := H.pA hl3
 refine en Tryz.func11 fun a hf => ?_
 rw [laws_szPlan] at hF
 refine bx hf H fun b' a w hf H => ?_
 refine pz 1 hf fun a hf => ?_
 refine wr (pz 1 hf fun a hf => ?_)
 refine lN 0 hf H TF.la25 fun a hf => ?_
 refine pz 1 hf fun a hf => ?_
 obtain ⟨y, hy, hF⟩ := bs_ hF
 refine oc hf TF.cl58 (laws_szNetwork_ok (S := TT) (Network_mkv (x := a'.Network) (H.rt 2 rfl) (H.rt 1 rfl)) mk_int hy) fun v w a hp hf => ?_
 obtain ⟨hb, hp⟩ := hp
 obtain rfl := VR_int hp
 have H := H.keep hb
 refine pz 1 hf fun a hf => ?_
 refine we (sqz (pz 2 hf fun a hf => ?_))
 refine wl_end (then_n (ib hF hf (fun hc hF => ?_) fun hc hF => ?_))
 ·refine sqz (pz 1 hf fun a hf => ?_)
  refine wl_end (then_n (wp_ret (then_r (?_))))
  obtain rfl := oi hF
  refine rT hf ?_
  exact ⟨_, rfl, H.bel, mk_int⟩
 ·refine wp_skip (then_n (sqz (pz 1 hf fun a hf => ?_)))
  refine lB 0 hf H TF.ls26 fun a hf => ?_
  refine pz 1 hf fun a hf => ?_
  obtain ⟨y2, hy2, hF⟩ := bs_ hF
  refine oc hf TF.cl59 (laws_szLightS_ok (S := TT) (mk_list (H.rt 0 rfl)) mk_int hy2) fun v2 w a hp2 hf => ?_
  obtain ⟨hb2, hp2⟩ := hp2
  obtain rfl := VR_int hp2
  have H := H.keep hb2
  refine pz 1 hf fun a hf => ?_
  have hf := hf.pn [1]
  refine we (sqz (pz 2 hf fun a hf => ?_))
  refine wl_end (then_n (ib hF hf (fun hc2 hF => ?_) fun hc2 hF => ?_))
  ·refine sqz (pz 1 hf fun a hf => ?_)
   refine wl_end (then_n (wp_ret (then_r (?_))))
   obtain rfl := oi hF
   refine rT hf ?_
   exact ⟨_, rfl, H.bel, mk_int⟩
  ·refine wp_skip (then_n (sqz (pz 2 hf fun a hf => ?_)))
   refine wer ?_
   obtain rfl := oi hF
   refine rT hf ?_
   exact ⟨_, rfl, H.bel, mk_int⟩
theorem laws_szAction_ok {S : Nat → Prop} {v0_ : Value} {v1_ : Value} {a' : Action} {left : Int} {r : Int} (h0 : VR w0 S v0_ a') (h1 : VR w0 S v1_ left) (hF : laws_szAction fu a' left = some r) :
    Calls Tryz.prog 12 [v0_, v1_].toArray w0 fun e w' => ∃ v, e = .returned v ∧ (Below w0.heap.size w0 w' ∧ VR w' (St ⟨w0, []⟩ S [] [] [] true) v r) := by
 obtain ⟨A, c, rfl, hl⟩ := Action_open h0
 obtain rfl := VR_int h1
 have H := Mem.start ⟨w0, []⟩ S
 have H := H.pA hl
 refine en Tryz.func12 fun a hf => ?_
 rw [laws_szAction] at hF
 refine bx hf H fun b' a w hf H => ?_
 refine pz 1 hf fun a hf => ?_
 refine wr (pz 1 hf fun a hf => ?_)
 refine lN 0 hf H TF.la35 fun a hf => ?_
 refine pz 1 hf fun a hf => ?_
 obtain ⟨y, hy, hF⟩ := bs_ hF
 refine oc hf TF.cl60 (laws_szLight_ok (S := TT) (Light_mkv (x := a'.Light) (H.rt 0 rfl)) mk_int hy) fun v w a hp hf => ?_
 obtain ⟨hb, hp⟩ := hp
 obtain rfl := VR_int hp
 have H := H.keep hb
 refine pz 1 hf fun a hf => ?_
 refine we (sqz (pz 2 hf fun a hf => ?_))
 refine wl_end (then_n (ib hF hf (fun hc hF => ?_) fun hc hF => ?_))
 ·refine sqz (pz 1 hf fun a hf => ?_)
  refine wl_end (then_n (wp_ret (then_r (?_))))
  obtain rfl := oi hF
  refine rT hf ?_
  exact ⟨_, rfl, H.bel, mk_int⟩
 ·refine wp_skip (then_n (sqz (pz 2 hf fun a hf => ?_)))
  refine wer ?_
  obtain rfl := oi hF
  refine rT hf ?_
  exact ⟨_, rfl, H.bel, mk_int⟩
theorem laws_toStringS_ok {S : Nat → Prop} {v0_ : Value} {a' : List ByteArray} {r : List ByteArray} (h0 : VR w0 S v0_ a') (hF : laws_toStringS fu a' = some r) :
    Calls Tryz.prog 122 [v0_].toArray w0 fun e w' => ∃ v, e = .returned v ∧ (Below w0.heap.size w0 w' ∧ ∃ F0, VO w' F0 v r ∧ New w0 w' F0) := by
 obtain ⟨A, c, rfl, hl⟩ := VR_list h0
 have H := Mem.start ⟨w0, []⟩ S
 have H := H.pA hl
 refine en Tryz.func122 fun a hf => ?_
 rw [laws_toStringS] at hF
 refine sqz (pz 1 hf fun a hf => ?_)
 refine wr (pz 2 hf fun a hf => ?_)
 obtain ⟨l, hl, hF⟩ := bs_ hF
 refine wl0 rfl (op_make (z0 := (ByteArray.empty : ByteArray)) hf H Tryz.underlying22 TF.ai9 rfl (by decide) rfl rfl rfl hl (by decide) fun A2 c2 a w hf H => ?_)
 refine pz 1 hf fun a hf => ?_
 refine we (sqz (pz 1 hf fun a hf => ?_))
 refine wl_end (then_n ?_)
 obtain ⟨out2, hB1, hF⟩ := bs_ hF
 have hf := hf.pn [0, 3, 4]
 have H := H.lt_ [] [true] [] [0]
 refine loopC (fun (s : List ByteArray × Int) (a : Act) (w : World) => match s with | (out', i) => ∃ (A3 : Option Addr) (c3 : Nat) (E : Go.TypeId), Fr a 22 [(0, (.slice A a'.length c)), (3, (.slice A3 out'.length c3)), (4, (.int .i64 i))] ∧ Mem ⟨w0, []⟩ S [] [⟨.sh true, E, A3, c3, (out' : List ByteArray)⟩] [] [(false, MP.val [(.slice A a'.length c)] (a' : List ByteArray))] w) (fun k (s : List ByteArray × Int) => laws_toStringS_L1 fu a' k s.1 s.2 = some out2) (fun s => out2 = s) (l, 0) fu hB1 ⟨A2, c2, 9, hf, H⟩ (fun s h => by cases h) ?_ ?_
 ·rintro fk ⟨out', i⟩ a w hR1 hI
  replace hR1 : laws_toStringS_L1 fu a' (fk + 1) out' i = some out2 := hR1
  rw [laws_toStringS_L1] at hR1
  obtain ⟨A3, c3, E, hf, H⟩ := hI
  refine sq (sqz (pz 4 hf fun a hf => ?_))
  refine wl_end (then_n (ib hR1 hf (fun hc hR1 => ?_) fun hc hR1 => ?_))
  ·refine wp_skip (then_n (sq (wp_block (reg (pz 4 hf fun a hf => ?_)))))
   obtain ⟨e, he, hR1⟩ := bs_ hR1
   refine wl0 rfl (op_iaddr hf H Tryz.underlying22 TF.sz9 0 rfl rfl rfl he (by decide) fun p o cs a hf hr H => ?_)
   obtain rfl := hr
   refine oq hf (rq_loadI hf H TF.ls9 0 0 rfl rfl rfl) fun a hf => ?_
   obtain ⟨e2, he2, hR1⟩ := bs_ hR1
   refine wl0 rfl (op_iaddrR hf H Tryz.underlying22 TF.sz9 0 rfl rfl rfl he2 (by decide) fun p2 o2 cs2 a hf hA hr2 hk => ?_)
   obtain rfl := hr2
   refine wl0 rfl (op_storeR (e' := e) (o := o2) (off := 0) hf H TF.sz9 0 rfl rfl rfl rfl rfl (nle rfl) rfl hA he2 (st_full rfl) fun w H => ?_)
   replace hf : Fr a 22 [(0, (.slice A a'.length c)), (3, (.slice A3 out'.length c3)), (4, (.int .i64 i)), (14, (.slice A3 out'.length c3)), (15, (.int .i64 i)), (16, (.slice A a'.length c)), (17, (.int .i64 i)), (18, (.pointer (some ⟨p, o + 0, none⟩))), (19, (.string e)), (20, (.pointer (some ⟨p2, o2 + 0, none⟩)))] := hf.prune [0, 3, 4, 14, 15, 16, 17, 18, 19, 20] rfl
   replace hf : Fr a 22 [(0, (.slice A a'.length c)), (3, (.slice A3 (out'.set (i : Int).toNat e).length c3)), (4, (.int .i64 i)), (14, (.slice A3 (out'.set (i : Int).toNat e).length c3)), (15, (.int .i64 i)), (16, (.slice A a'.length c)), (17, (.int .i64 i)), (18, (.pointer (some ⟨p, o + 0, none⟩))), (19, (.string e)), (20, (.pointer (some ⟨p2, o2 + 0, none⟩)))] := by simpa only [List.length_set, Nat.add_zero] using hf
   refine wl_end (blk_n (then_n (reg (pz 3 hf fun a hf => ?_))))
   refine wl_end ?_
   have hf := hf.pn [0, 3, 4]
   have H := H.lt_ [] [true] [] [1]
   exact then_n ⟨(out'.set (i : Int).toNat e, w64 (i + 1)), hR1, A3, c3, E, hf, H⟩
  ·refine wp_exit (then_x (then_x (blk_e (?_))))
   have hf := hf.pn [0, 3, 4]
   have H := H.lt_ [] [true] [] [0]
   exact ⟨(out', i), (Option.some.inj hR1).symm, A3, c3, E, hf, H⟩
 rintro a w ⟨⟨out3, i2⟩, rfl, A4, c4, E2, hf, H⟩
 try dsimp only at hF
 refine then_n (sqz (pz 2 hf fun a hf => ?_))
 refine wer ?_
 have H := H.rowOwn 0 rfl rfl
 obtain ⟨F, H⟩ := H.freezeOwn 0 rfl
 have H := H.lend 0 rfl
 obtain rfl := oi hF
 refine rT hf ?_
 have hN := H.ends1
 exact ⟨_, rfl, H.bel, F, (mko_list (H.ownAt 0 rfl)), hN⟩
theorem laws_toFiber_ok {S : Nat → Prop} {v0_ : Value} {a' : Fiber} {r : Fiber} (h0 : VR w0 S v0_ a') (hF : laws_toFiber fu a' = some r) :
    Calls Tryz.prog 171 [v0_].toArray w0 fun e w' => ∃ v, e = .returned v ∧ (Below w0.heap.size w0 w' ∧ VR w' (St ⟨w0, []⟩ S [] [] [] true) v r) := by
 obtain rfl := Fiber_open h0
 have H := Mem.start ⟨w0, []⟩ S
 refine en Tryz.func171 fun a hf => ?_
 rw [laws_toFiber] at hF
 refine bx hf H fun b' a w hf H => ?_
 refine aL hf H TF.zv164 fun b2 a w hf H => ?_
 refine wr (aL hf H TF.zv164 fun b3 a w hf H => ?_)
 refine wr (pz 1 hf fun a hf => ?_)
 refine lB 2 hf H TF.ls3 fun a hf => ?_
 refine pz 1 hf fun a hf => ?_
 refine sB 0 hf H TF.sz3 fun w H => ?_
 refine wr (pz 1 hf fun a hf => ?_)
 refine lB 2 hf H TF.ls3 fun a hf => ?_
 refine pz 1 hf fun a hf => ?_
 refine sB 0 hf H TF.sz3 fun w H => ?_
 refine wr (pz 1 hf fun a hf => ?_)
 refine lB 2 hf H TF.ls3 fun a hf => ?_
 refine pz 1 hf fun a hf => ?_
 refine sB 0 hf H TF.sz3 fun w H => ?_
 refine wr (pz 1 hf fun a hf => ?_)
 refine lB 2 hf H TF.ls3 fun a hf => ?_
 refine pz 1 hf fun a hf => ?_
 refine sB 0 hf H TF.sz3 fun w H => ?_
 have hf := hf.pn [2, 3]
 refine wr (lN 0 hf H TF.la164 fun a hf => ?_)
 refine sB 1 hf H TF.sz164 fun w H => ?_
 refine wer ?_
 obtain rfl := oi hF
 refine ret_1 hf rfl (rv_cellN hf H 1 TF.la164 rfl rfl rfl) ?_
 exact ⟨_, rfl, H.bel, Fiber_mkv⟩
theorem laws_toFiberS_ok {S : Nat → Prop} {v0_ : Value} {a' : List Fiber} {r : List Fiber} (h0 : VR w0 S v0_ a') (hF : laws_toFiberS fu a' = some r) :
    Calls Tryz.prog 123 [v0_].toArray w0 fun e w' => ∃ v, e = .returned v ∧ (Below w0.heap.size w0 w' ∧ ∃ F0, VO w' F0 v r ∧ New w0 w' F0) := by
 obtain ⟨A, c, rfl, hl⟩ := VR_list h0
 have H := Mem.start ⟨w0, []⟩ S
 have H := H.pA hl
 refine en Tryz.func123 fun a hf => ?_
 rw [laws_toFiberS] at hF
 refine sqz (pz 1 hf fun a hf => ?_)
 refine wr (pz 2 hf fun a hf => ?_)
 obtain ⟨l, hl, hF⟩ := bs_ hF
 refine wl0 rfl (op_make (z0 := (({ A := 0, B := 0, Length := 0, Risk := 0 } : Fiber) : Fiber)) hf H Tryz.underlying40 TF.ai164 rfl (by decide) rfl rfl (Fiber_mk (x := ({ A := 0, B := 0, Length := 0, Risk := 0 } : Fiber))) hl (by decide) fun A2 c2 a w hf H => ?_)
 refine pz 1 hf fun a hf => ?_
 refine we (sqz (pz 1 hf fun a hf => ?_))
 refine wl_end (then_n ?_)
 obtain ⟨out2, hB1, hF⟩ := bs_ hF
 have hf := hf.pn [0, 3, 4]
 have H := H.lt_ [] [true] [] [0]
 refine loopC (fun (s : List Fiber × Int) (a : Act) (w : World) => match s with | (out', i) => ∃ (A3 : Option Addr) (c3 : Nat) (E : Go.TypeId), Fr a 23 [(0, (.slice A a'.length c)), (3, (.slice A3 out'.length c3)), (4, (.int .i64 i))] ∧ Mem ⟨w0, []⟩ S [] [⟨.sh true, E, A3, c3, (out' : List Fiber)⟩] [] [(false, MP.val [(.slice A a'.length c)] (a' : List Fiber))] w) (fun k (s : List Fiber × Int) => laws_toFiberS_L1 fu a' k s.1 s.2 = some out2) (fun s => out2 = s) (l, 0) fu hB1 ⟨A2, c2, 164, hf, H⟩ (fun s h => by cases h) ?_ ?_
 ·rintro fk ⟨out', i⟩ a w hR1 hI
  replace hR1 : laws_toFiberS_L1 fu a' (fk + 1) out' i = some out2 := hR1
  rw [laws_toFiberS_L1] at hR1
  obtain ⟨A3, c3, E, hf, H⟩ := hI
  refine sq (sqz (pz 4 hf fun a hf => ?_))
  refine wl_end (then_n (ib hR1 hf (fun hc hR1 => ?_) fun hc hR1 => ?_))
  ·refine wp_skip (then_n (sq (wp_block (reg (pz 4 hf fun a hf => ?_)))))
   obtain ⟨e, he, hR1⟩ := bs_ hR1
   refine wl0 rfl (op_iaddr hf H Tryz.underlying23 TF.sz184 0 rfl rfl rfl he (by decide) fun p o cs a hf hr H => ?_)
   obtain rfl := Fiber_cells hr
   refine oq hf (rq_loadIN hf H TF.la184 0 0 rfl rfl rfl rfl) fun a hf => ?_
   obtain ⟨y, hy, hR1⟩ := bs_ hR1
   refine oc hf TF.cl171 (laws_toFiber_ok (S := TT) Fiber_mkv hy) fun v w a hp hf => ?_
   obtain ⟨hb, hp⟩ := hp
   obtain rfl := Fiber_open hp
   have H := H.keep hb
   obtain ⟨e2, he2, hR1⟩ := bs_ hR1
   refine wl0 rfl (op_iaddrR hf H Tryz.underlying40 TF.sz164 0 rfl rfl rfl he2 (by decide) fun p2 o2 cs2 a hf hA hr2 hk => ?_)
   obtain rfl := Fiber_cells hr2
   refine wl0 rfl (op_storeR (e' := y) (o := o2) (off := 0) hf H TF.sz164 0 rfl rfl rfl rfl rfl (nle rfl) rfl hA he2 (st_full (Fiber_mk (x := y))) fun w H => ?_)
   replace hf : Fr a 23 [(0, (.slice A a'.length c)), (3, (.slice A3 out'.length c3)), (4, (.int .i64 i)), (14, (.slice A3 out'.length c3)), (15, (.int .i64 i)), (16, (.slice A a'.length c)), (17, (.int .i64 i)), (18, (.pointer (some ⟨p, o + 0, none⟩))), (19, (.agg #[(.int .i64 e.A), (.int .i64 e.B), (.int .i64 e.Length), (.int .i64 e.Risk)])), (20, (.agg #[(.int .i64 y.A), (.int .i64 y.B), (.int .i64 y.Length), (.int .i64 y.Risk)])), (21, (.pointer (some ⟨p2, o2 + 0, none⟩)))] := hf.prune [0, 3, 4, 14, 15, 16, 17, 18, 19, 20, 21] rfl
   replace hf : Fr a 23 [(0, (.slice A a'.length c)), (3, (.slice A3 (out'.set (i : Int).toNat y).length c3)), (4, (.int .i64 i)), (14, (.slice A3 (out'.set (i : Int).toNat y).length c3)), (15, (.int .i64 i)), (16, (.slice A a'.length c)), (17, (.int .i64 i)), (18, (.pointer (some ⟨p, o + 0, none⟩))), (19, (.agg #[(.int .i64 e.A), (.int .i64 e.B), (.int .i64 e.Length), (.int .i64 e.Risk)])), (20, (.agg #[(.int .i64 y.A), (.int .i64 y.B), (.int .i64 y.Length), (.int .i64 y.Risk)])), (21, (.pointer (some ⟨p2, o2 + 0, none⟩)))] := by simpa only [List.length_set, Nat.add_zero] using hf
   refine wl_end (blk_n (then_n (reg (pz 3 hf fun a hf => ?_))))
   refine wl_end ?_
   have hf := hf.pn [0, 3, 4]
   have H := H.lt_ [] [true] [] [1]
   exact then_n ⟨(out'.set (i : Int).toNat y, w64 (i + 1)), hR1, A3, c3, E, hf, H⟩
  ·refine wp_exit (then_x (then_x (blk_e (?_))))
   have hf := hf.pn [0, 3, 4]
   have H := H.lt_ [] [true] [] [0]
   exact ⟨(out', i), (Option.some.inj hR1).symm, A3, c3, E, hf, H⟩
 rintro a w ⟨⟨out3, i2⟩, rfl, A4, c4, E2, hf, H⟩
 try dsimp only at hF
 refine then_n (sqz (pz 2 hf fun a hf => ?_))
 refine wer ?_
 have H := H.rowOwn 0 rfl rfl
 obtain ⟨F, H⟩ := H.freezeOwn 0 rfl
 have H := H.lend 0 rfl
 obtain rfl := oi hF
 refine rT hf ?_
 have hN := H.ends1
 exact ⟨_, rfl, H.bel, F, (mko_list (H.ownAt 0 rfl)), hN⟩
theorem laws_toNetwork_ok {S : Nat → Prop} {v0_ : Value} {a' : Network} {r : Network} (h0 : VR w0 S v0_ a') (hF : laws_toNetwork fu a' = some r) :
    Calls Tryz.prog 63 [v0_].toArray w0 fun e w' => ∃ v, e = .returned v ∧ (Below w0.heap.size w0 w' ∧ ∃ F0, VO w' F0 v r ∧ New w0 w' F0) := by
 obtain ⟨A, c, A2, c2, rfl, hl, hl2⟩ := Network_open h0
 have H := Mem.start ⟨w0, []⟩ S
 have H := H.pA hl
 have H := H.pA hl2
 refine en Tryz.func63 fun a hf => ?_
 rw [laws_toNetwork] at hF
 refine bx hf H fun b' a w hf H => ?_
 refine aL hf H TF.zv42 fun b2 a w hf H => ?_
 refine wr (aL hf H TF.zv42 fun b3 a w hf H => ?_)
 refine wr (pz 1 hf fun a hf => ?_)
 refine lB 2 hf H TF.ls22 fun a hf => ?_
 obtain ⟨y, hy, hF⟩ := bs_ hF
 refine oc hf TF.cl122 (laws_toStringS_ok (S := TT) (mk_list (H.rt 1 rfl)) hy) fun v w a hp hf => ?_
 obtain ⟨hb, F, hp2, hN⟩ := hp
 obtain ⟨A3, c3, rfl, hl3⟩ := VO_list hp2
 have H := H.aO1 hb hN hl3
 have H := H.lend 0 rfl
 refine pz 1 hf fun a hf => ?_
 refine sB 0 hf H TF.sz22 fun w H => ?_
 refine wr (pz 1 hf fun a hf => ?_)
 refine lB 2 hf H TF.ls23 fun a hf => ?_
 obtain ⟨y2, hy2, hF⟩ := bs_ hF
 refine oc hf TF.cl123 (laws_toFiberS_ok (S := TT) (mk_list (H.rt 1 rfl)) hy2) fun v2 w a hp3 hf => ?_
 obtain ⟨hb2, F3, hp4, hN2⟩ := hp3
 obtain ⟨A4, c4, rfl, hl4⟩ := VO_list hp4
 have H := H.aO1 hb2 hN2 hl4
 have H := H.lend 0 rfl
 refine pz 1 hf fun a hf => ?_
 refine sB 0 hf H TF.sz40 fun w H => ?_
 refine wr (lN 0 hf H TF.la42 fun a hf => ?_)
 refine sB 1 hf H TF.sz42 fun w H => ?_
 refine wer ?_
 have H := H.frontD 1 rfl
 obtain rfl := oi hF
 refine ret_1 hf rfl (rv_cellN hf H 1 TF.la42 rfl rfl rfl) ?_
 have hN := H.ends2
 exact ⟨_, rfl, H.bel, (F ++ F3), ⟨_, Network_ownmk (x := ({ Nodes := y, Fibers := y2 } : Network)) (H.ownAt 0 rfl) (H.ownAt 1 rfl), rfl⟩, hN⟩
theorem laws_toIntS_ok {S : Nat → Prop} {v0_ : Value} {a' : List Int} {r : List Int} (h0 : VR w0 S v0_ a') (hF : laws_toIntS fu a' = some r) :
    Calls Tryz.prog 172 [v0_].toArray w0 fun e w' => ∃ v, e = .returned v ∧ (Below w0.heap.size w0 w' ∧ ∃ F0, VO w' F0 v r ∧ New w0 w' F0) := by
 obtain ⟨A, c, rfl, hl⟩ := VR_list h0
 have H := Mem.start ⟨w0, []⟩ S
 have H := H.pA hl
 refine en Tryz.func172 fun a hf => ?_
 rw [laws_toIntS] at hF
 refine sqz (pz 1 hf fun a hf => ?_)
 refine wr (pz 2 hf fun a hf => ?_)
 obtain ⟨l, hl, hF⟩ := bs_ hF
 refine wl0 rfl (op_make (z0 := (0 : Int)) hf H Tryz.underlying29 TF.ai3 rfl (by decide) rfl rfl rfl hl (by decide) fun A2 c2 a w hf H => ?_)
 refine pz 1 hf fun a hf => ?_
 refine we (sqz (pz 1 hf fun a hf => ?_))
 refine wl_end (then_n ?_)
 obtain ⟨out2, hB1, hF⟩ := bs_ hF
 have hf := hf.pn [0, 3, 4]
 have H := H.lt_ [] [true] [] [0]
 refine loopC (fun (s : List Int × Int) (a : Act) (w : World) => match s with | (out', i) => ∃ (A3 : Option Addr) (c3 : Nat) (E : Go.TypeId), Fr a 22 [(0, (.slice A a'.length c)), (3, (.slice A3 out'.length c3)), (4, (.int .i64 i))] ∧ Mem ⟨w0, []⟩ S [] [⟨.sh true, E, A3, c3, (out' : List Int)⟩] [] [(false, MP.val [(.slice A a'.length c)] (a' : List Int))] w) (fun k (s : List Int × Int) => laws_toIntS_L1 fu a' k s.1 s.2 = some out2) (fun s => out2 = s) (l, 0) fu hB1 ⟨A2, c2, 3, hf, H⟩ (fun s h => by cases h) ?_ ?_
 ·rintro fk ⟨out', i⟩ a w hR1 hI
  replace hR1 : laws_toIntS_L1 fu a' (fk + 1) out' i = some out2 := hR1
  rw [laws_toIntS_L1] at hR1
  obtain ⟨A3, c3, E, hf, H⟩ := hI
  refine sq (sqz (pz 4 hf fun a hf => ?_))
  refine wl_end (then_n (ib hR1 hf (fun hc hR1 => ?_) fun hc hR1 => ?_))
  ·refine wp_skip (then_n (sq (wp_block (reg (pz 4 hf fun a hf => ?_)))))
   obtain ⟨e, he, hR1⟩ := bs_ hR1
   refine wl0 rfl (op_iaddr hf H Tryz.underlying29 TF.sz3 0 rfl rfl rfl he (by decide) fun p o cs a hf hr H => ?_)
   obtain rfl := hr
   refine oq hf (rq_loadI hf H TF.ls3 0 0 rfl rfl rfl) fun a hf => ?_
   obtain ⟨e2, he2, hR1⟩ := bs_ hR1
   refine wl0 rfl (op_iaddrR hf H Tryz.underlying29 TF.sz3 0 rfl rfl rfl he2 (by decide) fun p2 o2 cs2 a hf hA hr2 hk => ?_)
   obtain rfl := hr2
   refine wl0 rfl (op_storeR (e' := e) (o := o2) (off := 0) hf H TF.sz3 0 rfl rfl rfl rfl rfl (nle rfl) rfl hA he2 (st_full rfl) fun w H => ?_)
   replace hf : Fr a 22 [(0, (.slice A a'.length c)), (3, (.slice A3 out'.length c3)), (4, (.int .i64 i)), (14, (.slice A3 out'.length c3)), (15, (.int .i64 i)), (16, (.slice A a'.length c)), (17, (.int .i64 i)), (18, (.pointer (some ⟨p, o + 0, none⟩))), (19, (.int .i64 e)), (20, (.pointer (some ⟨p2, o2 + 0, none⟩)))] := hf.prune [0, 3, 4, 14, 15, 16, 17, 18, 19, 20] rfl
   replace hf : Fr a 22 [(0, (.slice A a'.length c)), (3, (.slice A3 (out'.set (i : Int).toNat e).length c3)), (4, (.int .i64 i)), (14, (.slice A3 (out'.set (i : Int).toNat e).length c3)), (15, (.int .i64 i)), (16, (.slice A a'.length c)), (17, (.int .i64 i)), (18, (.pointer (some ⟨p, o + 0, none⟩))), (19, (.int .i64 e)), (20, (.pointer (some ⟨p2, o2 + 0, none⟩)))] := by simpa only [List.length_set, Nat.add_zero] using hf
   refine wl_end (blk_n (then_n (reg (pz 3 hf fun a hf => ?_))))
   refine wl_end ?_
   have hf := hf.pn [0, 3, 4]
   have H := H.lt_ [] [true] [] [1]
   exact then_n ⟨(out'.set (i : Int).toNat e, w64 (i + 1)), hR1, A3, c3, E, hf, H⟩
  ·refine wp_exit (then_x (then_x (blk_e (?_))))
   have hf := hf.pn [0, 3, 4]
   have H := H.lt_ [] [true] [] [0]
   exact ⟨(out', i), (Option.some.inj hR1).symm, A3, c3, E, hf, H⟩
 rintro a w ⟨⟨out3, i2⟩, rfl, A4, c4, E2, hf, H⟩
 try dsimp only at hF
 refine then_n (sqz (pz 2 hf fun a hf => ?_))
 refine wer ?_
 have H := H.rowOwn 0 rfl rfl
 obtain ⟨F, H⟩ := H.freezeOwn 0 rfl
 have H := H.lend 0 rfl
 obtain rfl := oi hF
 refine rT hf ?_
 have hN := H.ends1
 exact ⟨_, rfl, H.bel, F, (mko_list (H.ownAt 0 rfl)), hN⟩
theorem laws_toRoute_ok {S : Nat → Prop} {v0_ : Value} {a' : Route} {r : Route} (h0 : VR w0 S v0_ a') (hF : laws_toRoute fu a' = some r) :
    Calls Tryz.prog 124 [v0_].toArray w0 fun e w' => ∃ v, e = .returned v ∧ (Below w0.heap.size w0 w' ∧ ∃ F0, VO w' F0 v r ∧ New w0 w' F0) := by
 obtain ⟨A, c, rfl, hl⟩ := Route_open h0
 have H := Mem.start ⟨w0, []⟩ S
 have H := H.pA hl
 refine en Tryz.func124 fun a hf => ?_
 rw [laws_toRoute] at hF
 refine bx hf H fun b' a w hf H => ?_
 refine aL hf H TF.zv49 fun b2 a w hf H => ?_
 refine wr (aL hf H TF.zv49 fun b3 a w hf H => ?_)
 refine wr (pz 1 hf fun a hf => ?_)
 refine lB 2 hf H TF.ls3 fun a hf => ?_
 refine pz 1 hf fun a hf => ?_
 refine sB 0 hf H TF.sz3 fun w H => ?_
 refine wr (pz 1 hf fun a hf => ?_)
 refine lB 2 hf H TF.ls29 fun a hf => ?_
 obtain ⟨y, hy, hF⟩ := bs_ hF
 refine oc hf TF.cl172 (laws_toIntS_ok (S := TT) (mk_list (H.rt 0 rfl)) hy) fun v w a hp hf => ?_
 obtain ⟨hb, F, hp2, hN⟩ := hp
 obtain ⟨A2, c2, rfl, hl2⟩ := VO_list hp2
 have H := H.aO1 hb hN hl2
 have H := H.lend 0 rfl
 refine pz 1 hf fun a hf => ?_
 refine sB 0 hf H TF.sz29 fun w H => ?_
 refine wr (lN 0 hf H TF.la49 fun a hf => ?_)
 refine sB 1 hf H TF.sz49 fun w H => ?_
 refine wer ?_
 obtain rfl := oi hF
 refine ret_1 hf rfl (rv_cellN hf H 1 TF.la49 rfl rfl rfl) ?_
 have hN := H.ends1
 exact ⟨_, rfl, H.bel, F, ⟨_, Route_ownmk (x := ({ Start := a'.Start, Fibers := y } : Route)) (H.ownAt 0 rfl), rfl⟩, hN⟩
theorem laws_toBlock_ok {S : Nat → Prop} {v0_ : Value} {a' : Block} {r : Block} (h0 : VR w0 S v0_ a') (hF : laws_toBlock fu a' = some r) :
    Calls Tryz.prog 125 [v0_].toArray w0 fun e w' => ∃ v, e = .returned v ∧ (Below w0.heap.size w0 w' ∧ VR w' (St ⟨w0, []⟩ S [] [] [] true) v r) := by
 obtain rfl := Block_open h0
 have H := Mem.start ⟨w0, []⟩ S
 refine en Tryz.func125 fun a hf => ?_
 rw [laws_toBlock] at hF
 refine bx hf H fun b' a w hf H => ?_
 refine aL hf H TF.zv50 fun b2 a w hf H => ?_
 refine wr (aL hf H TF.zv50 fun b3 a w hf H => ?_)
 refine wr (pz 1 hf fun a hf => ?_)
 refine lB 2 hf H TF.ls3 fun a hf => ?_
 refine pz 1 hf fun a hf => ?_
 refine sB 0 hf H TF.sz3 fun w H => ?_
 refine wr (pz 1 hf fun a hf => ?_)
 refine lB 2 hf H TF.ls3 fun a hf => ?_
 refine pz 1 hf fun a hf => ?_
 refine sB 0 hf H TF.sz3 fun w H => ?_
 refine wr (lN 0 hf H TF.la50 fun a hf => ?_)
 refine sB 1 hf H TF.sz50 fun w H => ?_
 refine wer ?_
 obtain rfl := oi hF
 refine ret_1 hf rfl (rv_cellN hf H 1 TF.la50 rfl rfl rfl) ?_
 exact ⟨_, rfl, H.bel, Block_mkv⟩
theorem laws_toLight_ok {S : Nat → Prop} {v0_ : Value} {a' : Light} {r : Light} (h0 : VR w0 S v0_ a') (hF : laws_toLight fu a' = some r) :
    Calls Tryz.prog 65 [v0_].toArray w0 fun e w' => ∃ v, e = .returned v ∧ (Below w0.heap.size w0 w' ∧ ∃ F0, VO w' F0 v r ∧ New w0 w' F0) := by
 obtain ⟨A, c, rfl, hl⟩ := Light_open h0
 have H := Mem.start ⟨w0, []⟩ S
 have H := H.pA hl
 refine en Tryz.func65 fun a hf => ?_
 rw [laws_toLight] at hF
 refine bx hf H fun b' a w hf H => ?_
 refine aL hf H TF.zv52 fun b2 a w hf H => ?_
 refine wr (aL hf H TF.zv52 fun b3 a w hf H => ?_)
 refine wr (pz 1 hf fun a hf => ?_)
 refine lB 2 hf H TF.ls3 fun a hf => ?_
 refine pz 1 hf fun a hf => ?_
 refine sB 0 hf H TF.sz3 fun w H => ?_
 refine wr (pz 1 hf fun a hf => ?_)
 refine lN 2 hf H TF.la31 fun a hf => ?_
 obtain ⟨y, hy, hF⟩ := bs_ hF
 refine oc hf TF.cl124 (laws_toRoute_ok (S := TT) (Route_mkv (x := a'.Route) (H.rt 0 rfl)) hy) fun v w a hp hf => ?_
 obtain ⟨hb, F, hp2, hN⟩ := hp
 obtain ⟨A2, c2, F2, rfl, rfl, hl2⟩ := Route_vo hp2
 have H := H.aO1 hb hN hl2
 have H := H.lend 0 rfl
 refine pz 1 hf fun a hf => ?_
 refine sB 0 hf H TF.sz49 fun w H => ?_
 refine wr (pz 1 hf fun a hf => ?_)
 refine lN 2 hf H TF.la33 fun a hf => ?_
 obtain ⟨y2, hy2, hF⟩ := bs_ hF
 refine oc hf TF.cl125 (laws_toBlock_ok (S := TT) Block_mkv hy2) fun v2 w a hp3 hf => ?_
 obtain ⟨hb2, hp3⟩ := hp3
 obtain rfl := Block_open hp3
 have H := H.keep hb2
 refine pz 1 hf fun a hf => ?_
 refine sB 0 hf H TF.sz50 fun w H => ?_
 have hf := hf.pn [2, 3]
 refine wr (lN 0 hf H TF.la52 fun a hf => ?_)
 refine sB 1 hf H TF.sz52 fun w H => ?_
 refine wer ?_
 obtain rfl := oi hF
 refine ret_1 hf rfl (rv_cellN hf H 1 TF.la52 rfl rfl rfl) ?_
 have hN := H.ends1
 exact ⟨_, rfl, H.bel, F2, ⟨_, Light_ownmk (x := ({ Id := a'.Id, Route := y, Block := y2 } : Light)) (H.ownAt 0 rfl), rfl⟩, hN⟩
theorem laws_toLightS_ok {S : Nat → Prop} {v0_ : Value} {a' : List Light} {r : List Light} (h0 : VR w0 S v0_ a') (hF : laws_toLightS fu a' = some r) :
    Calls Tryz.prog 64 [v0_].toArray w0 fun e w' => ∃ v, e = .returned v ∧ (Below w0.heap.size w0 w' ∧ ∃ F0, VO w' F0 v r ∧ New w0 w' F0) := by
 obtain ⟨A, c, rfl, hl⟩ := VR_list h0
 have H := Mem.start ⟨w0, []⟩ S
 have H := H.pA hl
 refine en Tryz.func64 fun a hf => ?_
 rw [laws_toLightS] at hF
 refine sqz (pz 1 hf fun a hf => ?_)
 refine wr (pz 2 hf fun a hf => ?_)
 obtain ⟨l, hl, hF⟩ := bs_ hF
 refine wl0 rfl (op_makeO (z0 := (({ Id := 0, Route := ({ Start := 0, Fibers := [] } : Route), Block := ({ First := 0, Count := 0 } : Block) } : Light) : Light)) hf H Tryz.underlying43 TF.ai52 rfl (by decide) rfl rfl (fun w => Light_ownmk (x := ({ Id := 0, Route := ({ Start := 0, Fibers := [] } : Route), Block := ({ First := 0, Count := 0 } : Block) } : Light)) lown_nil) hl (by decide) fun A2 c2 Fs a w hf H => ?_)
 refine pz 1 hf fun a hf => ?_
 refine we (sqz (pz 1 hf fun a hf => ?_))
 refine wl_end (then_n ?_)
 obtain ⟨out2, hB1, hF⟩ := bs_ hF
 have hf := hf.pn [0, 3, 4]
 have H := H.lt_ [] [true] [] [0]
 refine loopC (fun (s : List Light × Int) (a : Act) (w : World) => match s with | (out', i) => ∃ (A3 : Option Addr) (c3 : Nat) (E : Go.TypeId) (Fs2 : List (List Nat)), Fr a 23 [(0, (.slice A a'.length c)), (3, (.slice A3 out'.length c3)), (4, (.int .i64 i))] ∧ Mem ⟨w0, []⟩ S [] [⟨.ow Fs2, E, A3, c3, (out' : List Light)⟩] [] [(false, MP.val [(.slice A a'.length c)] (a' : List Light))] w) (fun k (s : List Light × Int) => laws_toLightS_L1 fu a' k s.1 s.2 = some out2) (fun s => out2 = s) (l, 0) fu hB1 ⟨A2, c2, 52, Fs, hf, H⟩ (fun s h => by cases h) ?_ ?_
 ·rintro fk ⟨out', i⟩ a w hR1 hI
  replace hR1 : laws_toLightS_L1 fu a' (fk + 1) out' i = some out2 := hR1
  rw [laws_toLightS_L1] at hR1
  obtain ⟨A3, c3, E, Fs2, hf, H⟩ := hI
  refine sq (sqz (pz 4 hf fun a hf => ?_))
  refine wl_end (then_n (ib hR1 hf (fun hc hR1 => ?_) fun hc hR1 => ?_))
  ·refine wp_skip (then_n (sq (wp_block (reg (pz 4 hf fun a hf => ?_)))))
   obtain ⟨e, he, hR1⟩ := bs_ hR1
   refine wl0 rfl (op_iaddr hf H Tryz.underlying26 TF.sz35 0 rfl rfl rfl he (by decide) fun p o cs a hf hr H => ?_)
   obtain ⟨A4, c4, rfl, hl2⟩ := Light_cells hr
   have H := H.pF hl2
   refine oq hf (rq_loadIN hf H TF.la35 1 0 rfl rfl rfl rfl) fun a hf => ?_
   obtain ⟨y, hy, hR1⟩ := bs_ hR1
   refine oc hf TF.cl65 (laws_toLight_ok (S := TT) (Light_mkv (x := e) (H.rt 0 rfl)) hy) fun v w a hp hf => ?_
   obtain ⟨hb, F, hp2, hN⟩ := hp
   obtain ⟨A5, c5, F2, rfl, rfl, hl3⟩ := Light_vo hp2
   have H := H.aO1 hb hN hl3
   have H := H.lend 0 rfl
   obtain ⟨e2, he2, hR1⟩ := bs_ hR1
   refine wl0 rfl (op_iaddrR hf H Tryz.underlying43 TF.sz52 0 rfl rfl rfl he2 (by decide) fun p2 o2 cs2 a hf hA hr2 hk => ?_)
   have hrk := hr2
   obtain ⟨A6, c6, rfl, hl4⟩ := Light_cells hr2
   have H := H.pT hl4
   have H := H.recast (X := [(⟨F2, MP.own F2 [(.slice A5 y.Route.Fibers.length c5)] (y.Route.Fibers : List Int)⟩ : DI)]) (Y := [(⟨F2, MP.own F2 [(.int .i64 y.Id), (.int .i64 y.Route.Start), (.slice A5 y.Route.Fibers.length c5), (.int .i64 y.Block.First), (.int .i64 y.Block.Count)] (y : Light)⟩ : DI)]) (List.Perm.of_eq (by simp)) fun _ => ps1 (Light_ownmk (x := y) (H.ownAt 0 rfl)) ps0
   refine wl0 rfl (op_storeO hf H TF.sz52 rfl rfl rfl rfl rfl rfl hA he2 fun w H => ?_)
   replace hf : Fr a 23 [(0, (.slice A a'.length c)), (3, (.slice A3 out'.length c3)), (4, (.int .i64 i)), (14, (.slice A3 out'.length c3)), (15, (.int .i64 i)), (16, (.slice A a'.length c)), (17, (.int .i64 i)), (18, (.pointer (some ⟨p, o + 0, none⟩))), (19, (.agg #[(.int .i64 e.Id), (.int .i64 e.Route.Start), (.slice A4 e.Route.Fibers.length c4), (.int .i64 e.Block.First), (.int .i64 e.Block.Count)])), (20, (.agg #[(.int .i64 y.Id), (.int .i64 y.Route.Start), (.slice A5 y.Route.Fibers.length c5), (.int .i64 y.Block.First), (.int .i64 y.Block.Count)])), (21, (.pointer (some ⟨p2, o2 + 0, none⟩)))] := hf.prune [0, 3, 4, 14, 15, 16, 17, 18, 19, 20, 21] rfl
   replace hf : Fr a 23 [(0, (.slice A a'.length c)), (3, (.slice A3 (out'.set (i : Int).toNat y).length c3)), (4, (.int .i64 i)), (14, (.slice A3 (out'.set (i : Int).toNat y).length c3)), (15, (.int .i64 i)), (16, (.slice A a'.length c)), (17, (.int .i64 i)), (18, (.pointer (some ⟨p, o + 0, none⟩))), (19, (.agg #[(.int .i64 e.Id), (.int .i64 e.Route.Start), (.slice A4 e.Route.Fibers.length c4), (.int .i64 e.Block.First), (.int .i64 e.Block.Count)])), (20, (.agg #[(.int .i64 y.Id), (.int .i64 y.Route.Start), (.slice A5 y.Route.Fibers.length c5), (.int .i64 y.Block.First), (.int .i64 y.Block.Count)])), (21, (.pointer (some ⟨p2, o2 + 0, none⟩)))] := by simpa only [List.length_set, Nat.add_zero] using hf
   refine wl_end (blk_n (then_n (reg (pz 3 hf fun a hf => ?_))))
   refine wl_end ?_
   have hf := hf.pn [0, 3, 4]
   have H := H.lt_ [] [true] [] [4]
   exact then_n ⟨(out'.set (i : Int).toNat y, w64 (i + 1)), hR1, A3, c3, E, Fs2.set (i : Int).toNat F2, hf, H⟩
  ·refine wp_exit (then_x (then_x (blk_e (?_))))
   have hf := hf.pn [0, 3, 4]
   have H := H.lt_ [] [true] [] [0]
   exact ⟨(out', i), (Option.some.inj hR1).symm, A3, c3, E, Fs2, hf, H⟩
 rintro a w ⟨⟨out3, i2⟩, rfl, A7, c7, E2, Fs3, hf, H⟩
 try dsimp only at hF
 refine then_n (sqz (pz 2 hf fun a hf => ?_))
 refine wer ?_
 obtain ⟨F3, H⟩ := H.freezeOwn 0 rfl
 have H := H.lend 0 rfl
 obtain rfl := oi hF
 refine rT hf ?_
 have hN := H.ends1
 exact ⟨_, rfl, H.bel, F3, (mko_list (H.ownAt 0 rfl)), hN⟩
theorem laws_toPlan_ok {S : Nat → Prop} {v0_ : Value} {a' : Plan} {r : Plan} (h0 : VR w0 S v0_ a') (hF : laws_toPlan fu a' = some r) :
    Calls Tryz.prog 14 [v0_].toArray w0 fun e w' => ∃ v, e = .returned v ∧ (Below w0.heap.size w0 w' ∧ ∃ F0, VO w' F0 v r ∧ New w0 w' F0) := by
 obtain ⟨A, c, A2, c2, A3, c3, rfl, hl, hl2, hl3⟩ := Plan_open h0
 have H := Mem.start ⟨w0, []⟩ S
 have H := H.pA hl
 have H := H.pA hl2
 have H := H.pA hl3
 refine en Tryz.func14 fun a hf => ?_
 rw [laws_toPlan] at hF
 refine bx hf H fun b' a w hf H => ?_
 refine aL hf H TF.zv45 fun b2 a w hf H => ?_
 refine wr (aL hf H TF.zv45 fun b3 a w hf H => ?_)
 refine wr (pz 1 hf fun a hf => ?_)
 refine lN 2 hf H TF.la25 fun a hf => ?_
 obtain ⟨y, hy, hF⟩ := bs_ hF
 refine oc hf TF.cl63 (laws_toNetwork_ok (S := TT) (Network_mkv (x := a'.Network) (H.rt 2 rfl) (H.rt 1 rfl)) hy) fun v w a hp hf => ?_
 obtain ⟨hb, F, hp2, hN⟩ := hp
 obtain ⟨A4, c4, F2, A5, c5, F3, rfl, rfl, hl4, hl5⟩ := Network_vo hp2
 have H := H.aO2 hb hN hl4 hl5
 have H := H.lend 0 rfl
 have H := H.lend 1 rfl
 refine pz 1 hf fun a hf => ?_
 refine sB 0 hf H TF.sz42 fun w H => ?_
 refine wr (pz 1 hf fun a hf => ?_)
 refine lB 2 hf H TF.ls26 fun a hf => ?_
 obtain ⟨y2, hy2, hF⟩ := bs_ hF
 refine oc hf TF.cl64 (laws_toLightS_ok (S := TT) (mk_list (H.rt 2 rfl)) hy2) fun v2 w a hp3 hf => ?_
 obtain ⟨hb2, F4, hp4, hN2⟩ := hp3
 obtain ⟨A6, c6, rfl, hl6⟩ := VO_list hp4
 have H := H.aO1 hb2 hN2 hl6
 have H := H.lend 0 rfl
 refine pz 1 hf fun a hf => ?_
 refine sB 0 hf H TF.sz43 fun w H => ?_
 refine wr (lN 0 hf H TF.la45 fun a hf => ?_)
 refine sB 1 hf H TF.sz45 fun w H => ?_
 refine wer ?_
 have H := H.frontD 2 rfl
 have H := H.frontD 2 rfl
 obtain rfl := oi hF
 refine ret_1 hf rfl (rv_cellN hf H 1 TF.la45 rfl rfl rfl) ?_
 have hN := H.ends3
 exact ⟨_, rfl, H.bel, (F2 ++ (F3 ++ F4)), ⟨_, Plan_ownmk (x := ({ Network := y, Lights := y2 } : Plan)) (H.ownAt 0 rfl) (H.ownAt 1 rfl) (H.ownAt 2 rfl), rfl⟩, hN⟩
theorem laws_toAction_ok {S : Nat → Prop} {v0_ : Value} {a' : Action} {r : Action} (h0 : VR w0 S v0_ a') (hF : laws_toAction fu a' = some r) :
    Calls Tryz.prog 15 [v0_].toArray w0 fun e w' => ∃ v, e = .returned v ∧ (Below w0.heap.size w0 w' ∧ ∃ F0, VO w' F0 v r ∧ New w0 w' F0) := by
 obtain ⟨A, c, rfl, hl⟩ := Action_open h0
 have H := Mem.start ⟨w0, []⟩ S
 have H := H.pA hl
 refine en Tryz.func15 fun a hf => ?_
 rw [laws_toAction] at hF
 refine bx hf H fun b' a w hf H => ?_
 refine aL hf H TF.zv54 fun b2 a w hf H => ?_
 refine wr (aL hf H TF.zv54 fun b3 a w hf H => ?_)
 refine wr (pz 1 hf fun a hf => ?_)
 refine lB 2 hf H TF.ls3 fun a hf => ?_
 refine pz 1 hf fun a hf => ?_
 refine sB 0 hf H TF.sz3 fun w H => ?_
 refine wr (pz 1 hf fun a hf => ?_)
 refine lN 2 hf H TF.la35 fun a hf => ?_
 obtain ⟨y, hy, hF⟩ := bs_ hF
 refine oc hf TF.cl65 (laws_toLight_ok (S := TT) (Light_mkv (x := a'.Light) (H.rt 0 rfl)) hy) fun v w a hp hf => ?_
 obtain ⟨hb, F, hp2, hN⟩ := hp
 obtain ⟨A2, c2, F2, rfl, rfl, hl2⟩ := Light_vo hp2
 have H := H.aO1 hb hN hl2
 have H := H.lend 0 rfl
 refine pz 1 hf fun a hf => ?_
 refine sB 0 hf H TF.sz52 fun w H => ?_
 refine wr (lN 0 hf H TF.la54 fun a hf => ?_)
 refine sB 1 hf H TF.sz54 fun w H => ?_
 refine wer ?_
 obtain rfl := oi hF
 refine ret_1 hf rfl (rv_cellN hf H 1 TF.la54 rfl rfl rfl) ?_
 have hN := H.ends1
 exact ⟨_, rfl, H.bel, F2, ⟨_, Action_ownmk (x := ({ Kind := a'.Kind, Light := y } : Action)) (H.ownAt 0 rfl), rfl⟩, hN⟩
theorem spec_l9Find_ok {S : Nat → Prop} {v0_ : Value} {v1_ : Value} {p : Plan} {id : Int} {r : Int} (h0 : VR w0 S v0_ p) (h1 : VR w0 S v1_ id) (hF : spec_l9Find fu p id = some r) :
    Calls Tryz.prog 101 [v0_, v1_].toArray w0 fun e w' => ∃ v, e = .returned v ∧ (Below w0.heap.size w0 w' ∧ VR w' (St ⟨w0, []⟩ S [] [] [] true) v r) := by
 obtain ⟨A, c, A2, c2, A3, c3, rfl, hl, hl2, hl3⟩ := Plan_open h0
 obtain rfl := VR_int h1
 have H := Mem.start ⟨w0, []⟩ S
 have H := H.pA hl
 have H := H.pA hl2
 have H := H.pA hl3
 refine en Tryz.func101 fun a hf => ?_
 rw [spec_l9Find] at hF
 refine bx hf H fun b' a w hf H => ?_
 refine pz 1 hf fun a hf => ?_
 refine we (sqz (pz 1 hf fun a hf => ?_))
 refine wl_end (then_n ?_)
 obtain ⟨out', hB1, hF⟩ := bs_ hF
 have hf := hf.pn [1, 2, 5]
 have H := H.lt_ [true] [] [] [0, 1, 2]
 refine loopC (fun (s : Int) (a : Act) (w : World) => match s with | i => Fr a 22 [(1, (.int .i64 id)), (2, (.pointer (some ⟨b', 0, none⟩))), (5, (.int .i64 i))] ∧ Mem ⟨w0, []⟩ S [⟨b', 45, [(.slice A p.Network.Nodes.length c), (.slice A2 p.Network.Fibers.length c2), (.slice A3 p.Lights.length c3)]⟩] [] [] [(false, MP.val [(.slice A3 p.Lights.length c3)] (p.Lights : List Light)), (false, MP.val [(.slice A2 p.Network.Fibers.length c2)] (p.Network.Fibers : List Fiber)), (false, MP.val [(.slice A p.Network.Nodes.length c)] (p.Network.Nodes : List ByteArray))] w) (fun k (s : Int) => spec_l9Find_L1 fu p id k s = some out') (fun s => out' = Out.next s) 0 fu hB1 ⟨hf, H⟩ (fun s h => by cases h) ?_ ?_
 ·rintro fk i a w hR1 hI
  replace hR1 : spec_l9Find_L1 fu p id (fk + 1) i = some out' := hR1
  rw [spec_l9Find_L1] at hR1
  obtain ⟨hf, H⟩ := hI
  refine sq (sqz (pz 2 hf fun a hf => ?_))
  refine lB 0 hf H TF.ls43 fun a hf => ?_
  refine pz 2 hf fun a hf => ?_
  refine wl_end (then_n (ib hR1 hf (fun hc hR1 => ?_) fun hc hR1 => ?_))
  ·refine ws (pz 1 hf fun a hf => ?_)
   refine lB 0 hf H TF.ls43 fun a hf => ?_
   refine pz 1 hf fun a hf => ?_
   obtain ⟨e, he, hR1⟩ := bs_ hR1
   refine wl0 rfl (op_iaddr hf H Tryz.underlying43 TF.sz52 0 rfl rfl rfl he (by decide) fun p2 o cs a hf hr H => ?_)
   obtain ⟨A4, c4, rfl, hl4⟩ := Light_cells hr
   have H := H.pF hl4
   refine pz 1 hf fun a hf => ?_
   refine oq hf (rq_loadI hf H TF.ls3 1 0 rfl rfl rfl) fun a hf => ?_
   refine pz 2 hf fun a hf => ?_
   refine wl_end (then_n (ib hR1 hf (fun hc2 hR1 => ?_) fun hc2 hR1 => ?_))
   ·refine sqz (pz 2 hf fun a hf => ?_)
    have hf := hf.pn [4]
    refine wl_end (then_n (wp_ret (blk_r (then_r (then_r (blk_r (then_r (then_r (?_)))))))))
    obtain rfl := oi hR1
    replace hF := on_ret hF
    obtain rfl := oi hF
    refine rT hf ?_
    exact ⟨_, rfl, H.bel, mk_int⟩
   ·refine wp_skip (blk_n (then_n (reg (pz 3 hf fun a hf => ?_))))
    have hf := hf.pn [1, 2, 5]
    refine wl_end ?_
    have hf := hf.pn [1, 2, 5]
    have H := H.lt_ [true] [] [] [2, 3, 4]
    exact then_n ⟨w64 (i + 1), hR1, hf, H⟩
  ·refine wp_exit (then_x (then_x (blk_e (?_))))
   have hf := hf.pn [1, 2, 5]
   have H := H.lt_ [true] [] [] [0, 1, 2]
   exact ⟨i, (Option.some.inj hR1).symm, hf, H⟩
 rintro a w ⟨i2, rfl, hf, H⟩
 replace hF := on_next hF
 refine then_n (sqz (pz 1 hf fun a hf => ?_))
 refine wer ?_
 obtain rfl := oi hF
 refine rT hf ?_
 exact ⟨_, rfl, H.bel, mk_int⟩
theorem spec_l1Same_ok {S : Nat → Prop} {v0_ : Value} {v1_ : Value} {a' : List Int} {b' : List Int} {r : Bool} (h0 : VR w0 S v0_ a') (h1 : VR w0 S v1_ b') (hF : spec_l1Same fu a' b' = some r) :
    Calls Tryz.prog 199 [v0_, v1_].toArray w0 fun e w' => ∃ v, e = .returned v ∧ (Below w0.heap.size w0 w' ∧ VR w' (St ⟨w0, []⟩ S [] [] [] true) v r) := by
 obtain ⟨A, c, rfl, hl⟩ := VR_list h0
 obtain ⟨A2, c2, rfl, hl2⟩ := VR_list h1
 have H := Mem.start ⟨w0, []⟩ S
 have H := H.pA hl
 have H := H.pA hl2
 refine en Tryz.func199 fun a hf => ?_
 rw [spec_l1Same] at hF
 refine sqz (pz 1 hf fun a hf => ?_)
 refine we (sqz (pz 5 hf fun a hf => ?_))
 refine wl_end (then_n (ib hF hf (fun hc hF => ?_) fun hc hF => ?_))
 ·refine sqz (pz 1 hf fun a hf => ?_)
  refine wl_end (then_n (wp_ret (then_r (?_))))
  obtain rfl := oi hF
  refine rT hf ?_
  exact ⟨_, rfl, H.bel, mk_bool⟩
 ·refine wp_skip (then_n (sq (sqz (pz 1 hf fun a hf => ?_))))
  refine wl_end (then_n ?_)
  obtain ⟨out', hB1, hF⟩ := bs_ hF
  have hf := hf.pn [0, 1, 5]
  have H := H.lt_ [] [] [] [0, 1]
  refine loopC (fun (s : Int) (a : Act) (w : World) => match s with | i => Fr a 26 [(0, (.slice A a'.length c)), (1, (.slice A2 b'.length c2)), (5, (.int .i64 i))] ∧ Mem ⟨w0, []⟩ S [] [] [] [(false, MP.val [(.slice A2 b'.length c2)] (b' : List Int)), (false, MP.val [(.slice A a'.length c)] (a' : List Int))] w) (fun k (s : Int) => spec_l1Same_L1 fu a' b' k s = some out') (fun s => out' = Out.next s) 0 fu hB1 ⟨hf, H⟩ (fun s h => by cases h) ?_ ?_
  ·rintro fk i a w hR1 hI
   replace hR1 : spec_l1Same_L1 fu a' b' (fk + 1) i = some out' := hR1
   rw [spec_l1Same_L1] at hR1
   obtain ⟨hf, H⟩ := hI
   refine sq (sqz (pz 4 hf fun a hf => ?_))
   refine wl_end (then_n (ib hR1 hf (fun hc2 hR1 => ?_) fun hc2 hR1 => ?_))
   ·refine wp_skip (then_n (sq (wp_block (sq (dw [] 9 fun w hb => ?_)))))
    have H := H.keep hb
    refine zp 0 hf trivial fun a hf => ?_
    refine zp 1 hf trivial fun a hf => ?_
    obtain ⟨e, he, hR1⟩ := bs_ hR1
    obtain ⟨p, o, cs, hx, hr, H⟩ := pre_iaddr H Tryz.underlying29 TF.sz3 1 rfl he
    refine tP 2 rfl rfl rfl rfl hf (by kernel_rfl) (fun _ => trivial) (fun w => rq_iaddrE hf rfl rfl rfl hx w) fun a hf => ?_
    obtain rfl := hr
    refine strT (H.lt_ [] [] [] [0]) (fun w H => trivial) fun hS => ?_
    refine zS 3 [] rfl rfl rfl rfl hf hS (fun w H => rq_loadI hf H TF.ls3 0 0 rfl rfl rfl) fun a hf => ?_
    refine zp 4 hf hS fun a hf => ?_
    refine zp 5 hf hS fun a hf => ?_
    obtain ⟨e2, he2, hR1⟩ := bs_ hR1
    obtain ⟨p2, o2, cs2, hx2, hr2, H⟩ := pre_iaddr H Tryz.underlying29 TF.sz3 1 rfl he2
    refine zP 6 rfl rfl rfl rfl hf hS (fun w => rq_iaddrE hf rfl rfl rfl hx2 w) fun a hf => ?_
    obtain rfl := hr2
    refine strT (H.lt_ [] [] [] [0, 1]) (fun w H => H.lt_ [] [] [] [1]) fun hS => ?_
    refine zS 7 [] rfl rfl rfl rfl hf hS (fun w H => rq_loadI hf H TF.ls3 0 0 rfl rfl rfl) fun a hf => ?_
    refine zp 8 hf hS fun a hf => ?_
    refine dk ?_
    refine then_n (ib hR1 hf (fun hc3 hR1 => ?_) fun hc3 hR1 => ?_)
    ·refine sqz (pz 1 hf fun a hf => ?_)
     have hf := hf.pn [4]
     refine wl_end (then_n (wp_ret (blk_r (then_r (then_r (blk_r (then_r (then_r (?_)))))))))
     obtain rfl := oi hR1
     replace hF := on_ret hF
     obtain rfl := oi hF
     refine rT hf ?_
     exact ⟨_, rfl, H.bel, mk_bool⟩
    ·refine wp_skip (blk_n (then_n (reg (pz 3 hf fun a hf => ?_))))
     have hf := hf.pn [0, 1, 5]
     refine wl_end ?_
     have hf := hf.pn [0, 1, 5]
     have H := H.lt_ [] [] [] [2, 3]
     exact then_n ⟨w64 (i + 1), hR1, hf, H⟩
   ·refine wp_exit (then_x (then_x (blk_e (?_))))
    have hf := hf.pn [0, 1, 5]
    have H := H.lt_ [] [] [] [0, 1]
    exact ⟨i, (Option.some.inj hR1).symm, hf, H⟩
  rintro a w ⟨i2, rfl, hf, H⟩
  replace hF := on_next hF
  refine then_n (sqz (pz 1 hf fun a hf => ?_))
  refine wer ?_
  obtain rfl := oi hF
  refine rT hf ?_
  exact ⟨_, rfl, H.bel, mk_bool⟩
theorem spec_l4Same_ok {S : Nat → Prop} {v0_ : Value} {v1_ : Value} {a' : Route} {b' : Route} {r : Bool} (h0 : VR w0 S v0_ a') (h1 : VR w0 S v1_ b') (hF : spec_l4Same fu a' b' = some r) :
    Calls Tryz.prog 170 [v0_, v1_].toArray w0 fun e w' => ∃ v, e = .returned v ∧ (Below w0.heap.size w0 w' ∧ VR w' (St ⟨w0, []⟩ S [] [] [] true) v r) := by
 obtain ⟨A, c, rfl, hl⟩ := Route_open h0
 obtain ⟨A2, c2, rfl, hl2⟩ := Route_open h1
 have H := Mem.start ⟨w0, []⟩ S
 have H := H.pA hl
 have H := H.pA hl2
 refine en Tryz.func170 fun a hf => ?_
 rw [spec_l4Same] at hF
 refine bx hf H fun b2 a w hf H => ?_
 refine wl0 rfl (op_box hf H rfl rfl (by decide) fun b3 a w hf H => ?_)
 refine pz 1 hf fun a hf => ?_
 refine wl_end (then_n (sq ?_))
 obtain ⟨c3, hGc3, hF⟩ := bs_ hF
 have fh := hf.prune [] rfl
 have Hm := H.lt_ [false, false] [] [] []
 refine midF 4 (.bool c3) fh Hm ?_ fun a w hf H => ?_
 ·refine reg (pz 1 hf fun a hf => ?_)
  refine lB 1 hf H TF.ls3 fun a hf => ?_
  refine pz 1 hf fun a hf => ?_
  refine lB 0 hf H TF.ls3 fun a hf => ?_
  refine pz 2 hf fun a hf => ?_
  refine iteB hGc3 (fun hc hGc3 => ?_) fun hc hGc3 => ?_
  ·have hf := hf.lit 10 rfl hc
   refine pz 1 hf fun a hf => ?_
   refine wlg hf rfl rfl rfl (op_q hf (rq_loadB hf H TF.ls29 1 rfl rfl rfl) rfl (by decide) fun a hf => ?_)
   refine pz 1 hf fun a hf => ?_
   refine wlg hf rfl rfl rfl (op_q hf (rq_loadB hf H TF.ls29 0 rfl rfl rfl) rfl (by decide) fun a hf => ?_)
   obtain ⟨y, hy, hGc3⟩ := bs_ hGc3
   refine wlg hf rfl rfl rfl (oC hf TF.cl199 (spec_l1Same_ok (S := TT) (mk_list (H.rt 1 rfl)) (mk_list (H.rt 0 rfl)) hy) fun v w a hp hf => ?_)
   obtain ⟨hb, hp⟩ := hp
   obtain rfl := VR_bool hp
   have H := H.keep hb
   refine pz 2 hf fun a hf => ?_
   obtain rfl := oi hGc3
   have hf := hf.pn [4]
   have H := H.lt_ [false, false] [] [] []
   exact wl_end ⟨hf, H⟩
  ·have hf := hf.lit 10 rfl hc
   refine pz 7 hf fun a hf => ?_
   obtain rfl := oi hGc3
   have hf := hf.pn [4]
   have H := H.lt_ [false, false] [] [] []
   exact wl_end ⟨hf, H⟩
 refine then_n (wp_ret (?_))
 obtain rfl := oi hF
 refine rT hf ?_
 exact ⟨_, rfl, H.bel, mk_bool⟩
theorem spec_l20Same_ok {S : Nat → Prop} {v0_ : Value} {v1_ : Value} {x1 : Light} {y : Light} {r : Bool} (h0 : VR w0 S v0_ x1) (h1 : VR w0 S v1_ y) (hF : spec_l20Same fu x1 y = some r) :
    Calls Tryz.prog 119 [v0_, v1_].toArray w0 fun e w' => ∃ v, e = .returned v ∧ (Below w0.heap.size w0 w' ∧ VR w' (St ⟨w0, []⟩ S [] [] [] true) v r) := by
 obtain ⟨A, c, rfl, hl⟩ := Light_open h0
 obtain ⟨A2, c2, rfl, hl2⟩ := Light_open h1
 have H := Mem.start ⟨w0, []⟩ S
 have H := H.pA hl
 have H := H.pA hl2
 refine en Tryz.func119 fun a hf => ?_
 rw [spec_l20Same] at hF
 refine bx hf H fun b' a w hf H => ?_
 refine wl0 rfl (op_box hf H rfl rfl (by decide) fun b2 a w hf H => ?_)
 refine pz 1 hf fun a hf => ?_
 refine wl_end (then_n (sq ?_))
 obtain ⟨c3, hGc3, hF⟩ := bs_ hF
 have fh := hf.prune [] rfl
 have Hm := H.lt_ [false, false] [] [] []
 refine midF 4 (.bool c3) fh Hm ?_ fun a w hf H => ?_
 ·refine reg (pz 1 hf fun a hf => ?_)
  refine lB 1 hf H TF.ls3 fun a hf => ?_
  refine pz 1 hf fun a hf => ?_
  refine lB 0 hf H TF.ls3 fun a hf => ?_
  refine pz 2 hf fun a hf => ?_
  refine iteB hGc3 (fun hc hGc3 => ?_) fun hc hGc3 => ?_
  ·have hf := hf.lit 10 rfl hc
   refine pz 1 hf fun a hf => ?_
   refine wlg hf rfl rfl rfl (op_q hf (rq_loadBN hf H TF.la50 1 rfl rfl rfl rfl) rfl (by decide) fun a hf => ?_)
   refine pz 1 hf fun a hf => ?_
   refine wlg hf rfl rfl rfl (op_q hf (rq_loadBN hf H TF.la50 0 rfl rfl rfl rfl) rfl (by decide) fun a hf => ?_)
   refine wlg hf rfl rfl rfl (op_q hf (rq_eqT hf TF.qeqt50 ([x1.Block.First, x1.Block.Count] : List Int) ([y.Block.First, y.Block.Count] : List Int) rfl rfl rfl rfl rfl rfl) rfl (by decide) fun a hf => ?_)
   refine pz 2 hf fun a hf => ?_
   refine iteB hGc3 (fun hc2 hGc3 => ?_) fun hc2 hGc3 => ?_
   ·have hf := hf.lit 17 rfl hc2
    refine pz 1 hf fun a hf => ?_
    refine wlg hf rfl rfl rfl (op_q hf (rq_loadBN hf H TF.la49 1 rfl rfl rfl rfl) rfl (by decide) fun a hf => ?_)
    refine pz 1 hf fun a hf => ?_
    refine wlg hf rfl rfl rfl (op_q hf (rq_loadBN hf H TF.la49 0 rfl rfl rfl rfl) rfl (by decide) fun a hf => ?_)
    obtain ⟨y2, hy2, hGc3⟩ := bs_ hGc3
    refine wlg hf rfl rfl rfl (oC hf TF.cl170 (spec_l4Same_ok (S := TT) (Route_mkv (x := x1.Route) (H.rt 1 rfl)) (Route_mkv (x := y.Route) (H.rt 0 rfl)) hy2) fun v w a hp hf => ?_)
    obtain ⟨hb, hp⟩ := hp
    obtain rfl := VR_bool hp
    have H := H.keep hb
    refine pz 2 hf fun a hf => ?_
    obtain rfl := oi hGc3
    have hf := hf.pn [4]
    have H := H.lt_ [false, false] [] [] []
    exact wl_end ⟨hf, H⟩
   ·have hf := hf.lit 17 rfl hc2
    refine pz 7 hf fun a hf => ?_
    obtain rfl := oi hGc3
    have hf := hf.pn [4]
    have H := H.lt_ [false, false] [] [] []
    exact wl_end ⟨hf, H⟩
  ·have hf := hf.lit 10 rfl hc
   refine pz 14 hf fun a hf => ?_
   obtain rfl := oi hGc3
   have hf := hf.pn [4]
   have H := H.lt_ [false, false] [] [] []
   exact wl_end ⟨hf, H⟩
 refine then_n (wp_ret (?_))
 obtain rfl := oi hF
 refine rT hf ?_
 exact ⟨_, rfl, H.bel, mk_bool⟩
theorem spec_l9Without_ok {S : Nat → Prop} {v0_ : Value} {v1_ : Value} {p : Plan} {i : Int} {r : Plan} (h0 : VR w0 S v0_ p) (h1 : VR w0 S v1_ i) (hF : spec_l9Without fu p i = some r) :
    Calls Tryz.prog 120 [v0_, v1_].toArray w0 fun e w' => ∃ v, e = .returned v ∧ (Below w0.heap.size w0 w' ∧ VR w' (St ⟨w0, []⟩ S [] [] [] true) v r) := by
 obtain ⟨A, c, A2, c2, A3, c3, rfl, hl, hl2, hl3⟩ := Plan_open h0
 obtain rfl := VR_int h1
 have H := Mem.start ⟨w0, []⟩ S
 have H := H.pA hl
 have H := H.pA hl2
 have H := H.pA hl3
 refine en Tryz.func120 fun a hf => ?_
 rw [spec_l9Without] at hF
 refine bx hf H fun b' a w hf H => ?_
 refine aL hf H TF.zv45 fun b2 a w hf H => ?_
 refine wr (lN 1 hf H TF.la45 fun a hf => ?_)
 obtain ⟨y, hy, hF⟩ := bs_ hF
 refine oc hf TF.cl81 (spec_l9Own_ok (S := TT) (Plan_mkv (x := p) (H.rt 2 rfl) (H.rt 1 rfl) (H.rt 0 rfl)) hy) fun v w a hp hf => ?_
 obtain ⟨hb, F, hp2, hN⟩ := hp
 obtain ⟨A4, c4, F2, A5, c5, F3, A6, c6, F4, rfl, rfl, hl4, hl5, hl6⟩ := Plan_vo hp2
 have H := H.aO3 hb hN hl4 hl5 hl6
 have H := H.lend 0 rfl
 have H := H.lend 1 rfl
 have H := H.lend 2 rfl
 refine aL hf H TF.zv45 fun b3 a w hf H => ?_
 refine sB 0 hf H TF.sz45 fun w H => ?_
 refine wl_end (then_n (sq (dw [13] 14 fun w hb => ?_)))
 have H := H.keep hb
 refine zp 1 hf trivial fun a hf => ?_
 refine strT (H.lt_ [true, false, false] [] [false, false, false] []) (fun w H => trivial) fun hS => ?_
 refine zS 2 [2, 4, 5, 11, 12, 13] rfl rfl rfl rfl hf hS (fun w H => rq_loadB hf H TF.ls43 0 rfl rfl rfl) fun a hf => ?_
 refine zp 3 hf hS fun a hf => ?_
 obtain ⟨l, hl, hF⟩ := bs_ hF
 obtain ⟨A7, c7, hx, H⟩ := pre_slice H Tryz.underlying43 TF.sz52 0 (lov := none) (hiv := some (.int .i64 i)) (.inl ⟨rfl, rfl⟩) (.inr rfl) rfl hl
 refine zP 4 rfl rfl rfl rfl hf hS (fun w => rq_sliceE hf rfl rfl rfl hx w) fun a hf => ?_
 refine zp 6 hf hS fun a hf => ?_
 refine zS 7 [7, 10, 11, 12, 13] rfl rfl rfl rfl hf hS (fun w H => rq_loadB hf H TF.ls43 0 rfl rfl rfl) fun a hf => ?_
 refine zp 8 hf hS fun a hf => ?_
 refine zp 9 hf hS fun a hf => ?_
 obtain ⟨l2, hl2, hF⟩ := bs_ hF
 obtain ⟨A8, c8, hx2, H⟩ := pre_slice H Tryz.underlying43 TF.sz52 1 (lov := some (.int .i64 (w64 (i + 1)))) (hiv := none) (.inr rfl) (.inl ⟨rfl, rfl⟩) rfl hl2
 refine zP 10 rfl rfl rfl rfl hf hS (fun w => rq_sliceE hf rfl rfl rfl hx2 w) fun a hf => ?_
 refine nn 0 rfl (bl hf H 52 ([] : List Light) [] el0 fun A9 a w hf H => ?_)
 have hS := H.lt_ [true, false, false] [false] [false, false, false] []
 refine aS hS ?_
 obtain ⟨l3, hl3, hF⟩ := bs_ hF
 refine nn 5 rfl (op_appI hf H Tryz.underlying43 TF.ai52 rfl (by decide) 0 1 rfl rfl rfl rfl (.inr rfl) hl3 (by decide) fun E A10 c9 a w hf H => ?_)
 have hS := H.lt_ [true, false, false] [false] [false, false, false] []
 refine aS hS ?_
 obtain ⟨l4, hl4, hF⟩ := bs_ hF
 refine nn 11 rfl (op_appI hf H Tryz.underlying43 TF.ai52 rfl (by decide) 0 0 rfl rfl rfl rfl (.inr rfl) hl4 (by decide) fun E2 A11 c10 a w hf H => ?_)
 have hS := H.lt_ [true, false, false] [false] [false, false, false] []
 refine aS hS ?_
 refine zp 12 hf hS fun a hf => ?_
 refine nn 13 rfl (op_storeB hf H 0 TF.sz43 rfl rfl rfl rfl rfl rfl (nle rfl) fun w H => ?_)
 refine ⟨fun h => absurd h (by decide), ?_⟩
 refine dk ?_
 have hf := hf.pn [4, 5]
 refine then_n (sq (reg (lN 0 hf H TF.la45 fun a hf => ?_)))
 refine sB 1 hf H TF.sz45 fun w H => ?_
 refine wer ?_
 have H := H.freeze 0 rfl
 obtain rfl := oi hF
 refine ret_1 hf rfl (rv_cellN hf H 1 TF.la45 rfl rfl rfl) ?_
 exact ⟨_, rfl, H.bel, (Plan_mkv (x := ({ Network := y.Network, Lights := l4 } : Plan)) (rep_end (α := List ByteArray) (H.get 5 rfl)) (rep_end (α := List Fiber) (H.get 4 rfl)) (rep_end (α := List Light) (H.get 0 rfl)))⟩
theorem spec_MoveLight_ok {S : Nat → Prop} {v0_ : Value} {v1_ : Value} {v2_ : Value} {v3_ : Value} {p : Plan} {id : Int} {r' : Route} {b' : Block} {r : Plan × Bool} (h0 : VR w0 S v0_ p) (h1 : VR w0 S v1_ id) (h2 : VR w0 S v2_ r') (h3 : VR w0 S v3_ b') (hF : spec_MoveLight fu p id r' b' = some r) :
    Calls Tryz.prog 121 [v0_, v1_, v2_, v3_].toArray w0 fun e w' => ∃ v, e = .returned v ∧ (Below w0.heap.size w0 w' ∧ ∃ u0 u1, v = .tuple #[u0, u1] ∧ VR w' (St ⟨w0, []⟩ S [] [] [] true) u0 r.1 ∧ VR w' (St ⟨w0, []⟩ S [] [] [] true) u1 r.2) := by
 obtain ⟨A, c, A2, c2, A3, c3, rfl, hl, hl2, hl3⟩ := Plan_open h0
 obtain rfl := VR_int h1
 obtain ⟨A4, c4, rfl, hl4⟩ := Route_open h2
 obtain rfl := Block_open h3
 have H := Mem.start ⟨w0, []⟩ S
 have H := H.pA hl
 have H := H.pA hl2
 have H := H.pA hl3
 have H := H.pA hl4
 refine en Tryz.func121 fun a hf => ?_
 rw [spec_MoveLight] at hF
 refine bx hf H fun b2 a w hf H => ?_
 refine wl0 rfl (op_box hf H rfl rfl (by decide) fun b3 a w hf H => ?_)
 refine wl0 rfl (op_box hf H rfl rfl (by decide) fun b4 a w hf H => ?_)
 refine aL hf H TF.zv45 fun b5 a w hf H => ?_
 refine pz 1 hf fun a hf => ?_
 refine wl_end (then_n (sq (sq ?_)))
 obtain ⟨c5, hGc5, hF⟩ := bs_ hF
 have fh := hf.prune [1, 4, 6, 7, 8] rfl
 have Hm := H.lt_ [true, true, true, true] [] [] [0, 1, 2, 3]
 refine midF 19 (.bool c5) fh Hm ?_ fun a w hf H => ?_
 ·refine reg (lN 3 hf H TF.la45 fun a hf => ?_)
  obtain ⟨y, hy, hGc5⟩ := bs_ hGc5
  refine oc hf TF.cl61 (spec_l9Good_ok (S := TT) (Plan_mkv (x := p) (H.rt 3 rfl) (H.rt 2 rfl) (H.rt 1 rfl)) hy) fun v w a hp hf => ?_
  obtain ⟨hb, hp⟩ := hp
  obtain rfl := VR_bool hp
  have H := H.keep hb
  refine pz 2 hf fun a hf => ?_
  refine iteB hGc5 (fun hc hGc5 => ?_) fun hc hGc5 => ?_
  ·have hf := hf.lit 14 rfl hc
   refine pz 5 hf fun a hf => ?_
   obtain rfl := oi hGc5
   have hf := hf.pn [19, 1, 4, 6, 7, 8]
   have H := H.lt_ [true, true, true, true] [] [] [0, 1, 2, 3]
   exact wl_end ⟨hf, H⟩
  ·have hf := hf.lit 14 rfl hc
   refine wlg hf rfl rfl rfl (op_q hf (rq_loadBN hf H TF.la45 3 rfl rfl rfl rfl) rfl (by decide) fun a hf => ?_)
   refine pz 1 hf fun a hf => ?_
   obtain ⟨y2, hy2, hGc5⟩ := bs_ hGc5
   refine wlg hf rfl rfl rfl (oC hf TF.cl101 (spec_l9Find_ok (S := TT) (Plan_mkv (x := p) (H.rt 3 rfl) (H.rt 2 rfl) (H.rt 1 rfl)) mk_int hy2) fun v2 w a hp2 hf => ?_)
   obtain ⟨hb2, hp2⟩ := hp2
   obtain rfl := VR_int hp2
   have H := H.keep hb2
   refine pz 2 hf fun a hf => ?_
   obtain rfl := oi hGc5
   have hf := hf.pn [19, 1, 4, 6, 7, 8]
   have H := H.lt_ [true, true, true, true] [] [] [0, 1, 2, 3]
   exact wl_end ⟨hf, H⟩
 refine then_n (ib hF hf (fun hc2 hF => ?_) fun hc2 hF => ?_)
 ·refine sq (reg (oq hf (rq_build hf (cs := [(.slice none 0 0), (.slice none 0 0), (.slice none 0 0)]) rfl (fun w => by kernel_rfl)) fun a hf => ?_))
  refine sB 0 hf H TF.sz45 fun w H => ?_
  refine pz 1 hf fun a hf => ?_
  refine wl_end (then_n (wp_ret (then_r (?_))))
  have H := H.pushNil (ByteArray) true
  have H := H.pushNil (Fiber) true
  have H := H.pushNil (Light) true
  obtain rfl := oi hF
  refine ret_2 hf rfl (rv_cellN hf H 0 TF.la45 rfl rfl rfl) (rv_tmp hf rfl) ?_
  exact ⟨_, rfl, H.bel, _, _, rfl, (Plan_mkv (x := ({ Network := ({ Nodes := [], Fibers := [] } : Network), Lights := [] } : Plan)) (rep_end (α := List ByteArray) (H.get 2 rfl)) (rep_end (α := List Fiber) (H.get 1 rfl)) (rep_end (α := List Light) (H.get 0 rfl))), mk_bool⟩
 ·refine wp_skip (then_n (sq ?_))
  obtain ⟨y3, hy3, hF⟩ := bs_ hF
  obtain ⟨y4, hy4, hF⟩ := bs_ hF
  obtain ⟨y5, hy5, hF⟩ := bs_ hF
  refine mid (fun a w => ∃ (b6 : Nat) (A8 : Option Addr) (c9 : Nat) (A9 : Option Addr) (c10 : Nat) (A10 : Option Addr) (c11 : Nat), Fr a 36 [(8, (.pointer (some ⟨b5, 0, none⟩))), (10, (.pointer (some ⟨b6, 0, none⟩)))] ∧ Mem ⟨w0, []⟩ S [⟨b6, 45, [(.slice A8 y5.Network.Nodes.length c9), (.slice A9 y5.Network.Fibers.length c10), (.slice A10 y5.Lights.length c11)]⟩, ⟨b5, 45, [(.slice none 0 0), (.slice none 0 0), (.slice none 0 0)]⟩] [] [] [(true, MP.val [(.slice A10 y5.Lights.length c11)] (y5.Lights : List Light)), (true, MP.val [(.slice A9 y5.Network.Fibers.length c10)] (y5.Network.Fibers : List Fiber)), (true, MP.val [(.slice A8 y5.Network.Nodes.length c9)] (y5.Network.Nodes : List ByteArray))] w) ?_ ?_
  ·refine dw [11] 12 fun w hb => ?_
   have H := H.keep hb
   refine strT (H.lt_ [false, false, false, true] [] [] []) (fun w H => trivial) fun hS => ?_
   refine zS 0 [0, 4, 9, 11] rfl rfl rfl rfl hf hS (fun w H => rq_loadBN hf H TF.la45 0 rfl rfl rfl rfl) fun a hf => ?_
   refine zS 1 [1, 3, 4, 9, 11] rfl rfl rfl rfl hf hS (fun w H => rq_loadBN hf H TF.la45 0 rfl rfl rfl rfl) fun a hf => ?_
   refine zp 2 hf hS fun a hf => ?_
   refine zp 5 hf hS fun a hf => ?_
   refine strT (H.lt_ [false, false, true, true] [] [] []) (fun w H => H.lt_ [false, true] [] [] []) fun hS => ?_
   refine zS 6 [6, 8, 9, 11] rfl rfl rfl rfl hf hS (fun w H => rq_loadBN hf H TF.la49 0 rfl rfl rfl rfl) fun a hf => ?_
   refine strT (H.lt_ [false, true, true, true] [] [] []) (fun w H => H.lt_ [false, true, true] [] [] []) fun hS => ?_
   refine zS 7 [7, 8, 9, 11] rfl rfl rfl rfl hf hS (fun w H => rq_loadBN hf H TF.la50 0 rfl rfl rfl rfl) fun a hf => ?_
   refine zP 8 rfl rfl rfl rfl hf hS (fun w => rq_build hf (cs := [(.int .i64 id), (.int .i64 r'.Start), (.slice A4 r'.Fibers.length c4), (.int .i64 b'.First), (.int .i64 b'.Count)]) rfl (fun w => by kernel_rfl)) fun a hf => ?_
   refine on2 (i := 3) (j := 10) (bi := [true, true, true, true, false, true, true, true, true, false, false, false]) (bj := [true, true, true, false, false, true, true, true, true, false, true, false]) (by kernel_rfl) rfl rfl rfl rfl rfl rfl ?_ ?_
   ·refine (oC hf TF.cl101 (spec_l9Find_ok (S := TT) (Plan_mkv (x := p) (H.rt 3 rfl) (H.rt 2 rfl) (H.rt 1 rfl)) mk_int hy3) fun v3 w a hp3 hf => ?_)
    obtain ⟨hb3, hp3⟩ := hp3
    obtain rfl := VR_int hp3
    have H := H.keep hb3
    have hS := H.lt_ [false, true, true, true] [] [] []
    refine aS hS ?_
    refine on2 (i := 4) (j := 10) (bi := [true, true, true, true, true, true, true, true, true, false, false, false]) (bj := [true, true, true, true, false, true, true, true, true, false, true, false]) (by kernel_rfl) rfl rfl rfl rfl rfl rfl ?_ ?_
    ·refine (oC hf TF.cl120 (spec_l9Without_ok (S := TT) (Plan_mkv (x := p) (H.rt 3 rfl) (H.rt 2 rfl) (H.rt 1 rfl)) mk_int hy4) fun v4 w a hp4 hf => ?_)
     obtain ⟨hb4, hp4⟩ := hp4
     obtain ⟨A5, c6, A6, c7, A7, c8, rfl, hl5, hl6, hl7⟩ := Plan_open hp4
     replace hl5 := H.rF hl5
     replace hl6 := H.rF hl6
     replace hl7 := H.rF hl7
     have H := H.keep hb4
     have H := H.pT hl5
     have H := H.pT hl6
     have H := H.pT hl7
     have hS := H.lt_ [false, true, true, true] [] [] []
     refine aS hS ?_
     refine on2 (i := 9) (j := 10) (bi := [true, true, true, true, true, true, true, true, true, true, false, false]) (bj := [true, true, true, true, true, true, true, true, true, false, true, false]) (by kernel_rfl) rfl rfl rfl rfl rfl rfl ?_ ?_
     ·refine (oC hf TF.cl109 (spec_l9Put_ok (S := TT) (Plan_mkv (x := y4) (H.rt 2 rfl) (H.rt 1 rfl) (H.rt 0 rfl)) (Light_mkv (x := ({ Id := id, Route := r', Block := b' } : Light)) (H.rt 3 rfl)) hy5) fun v5 w a hp5 hf => ?_)
      obtain ⟨hb5, hp5⟩ := hp5
      obtain ⟨A8, c9, A9, c10, A10, c11, rfl, hl8, hl9, hl10⟩ := Plan_open hp5
      replace hl8 := H.rF hl8
      replace hl9 := H.rF hl9
      replace hl10 := H.rF hl10
      have H := H.keep hb5
      have H := H.pT hl8
      have H := H.pT hl9
      have H := H.pT hl10
      have hS := H.lt_ [false, true, true, true] [] [] []
      refine aS hS ?_
      refine nn 10 rfl (op_alloc hf H TF.zv45 rfl (by decide) fun b6 a w hf H => ?_)
      have hS := H.lt_ [false, false, true, true, true] [] [] []
      refine aS hS ?_
      refine nn 11 rfl (op_storeB hf H 0 TF.sz45 rfl rfl rfl rfl rfl rfl (nle rfl) fun w H => ?_)
      refine ⟨fun h => absurd h (by decide), ?_⟩
      refine dk ?_
      have hf := hf.pn [8, 10]
      have H := H.lt_ [true, true, false, false, false] [] [] [0, 1, 2]
      exact ⟨b6, A8, c9, A9, c10, A10, c11, hf, H⟩
     ·refine (op_alloc hf H TF.zv45 rfl (by decide) fun b6 a w hf H => ?_)
      have hS := H.lt_ [false, false, true, true, true] [] [] []
      refine aS hS ?_
      refine nn 9 rfl (oC hf TF.cl109 (spec_l9Put_ok (S := TT) (Plan_mkv (x := y4) (H.rt 2 rfl) (H.rt 1 rfl) (H.rt 0 rfl)) (Light_mkv (x := ({ Id := id, Route := r', Block := b' } : Light)) (H.rt 3 rfl)) hy5) fun v5 w a hp5 hf => ?_)
      obtain ⟨hb5, hp5⟩ := hp5
      obtain ⟨A8, c9, A9, c10, A10, c11, rfl, hl8, hl9, hl10⟩ := Plan_open hp5
      replace hl8 := H.rF hl8
      replace hl9 := H.rF hl9
      replace hl10 := H.rF hl10
      have H := H.keep hb5
      have H := H.pT hl8
      have H := H.pT hl9
      have H := H.pT hl10
      have hS := H.lt_ [false, false, true, true, true] [] [] []
      refine aS hS ?_
      refine nn 11 rfl (op_storeB hf H 0 TF.sz45 rfl rfl rfl rfl rfl rfl (nle rfl) fun w H => ?_)
      refine ⟨fun h => absurd h (by decide), ?_⟩
      refine dk ?_
      have hf := hf.pn [8, 10]
      have H := H.lt_ [true, true, false, false, false] [] [] [0, 1, 2]
      exact ⟨b6, A8, c9, A9, c10, A10, c11, hf, H⟩
    ·refine (op_alloc hf H TF.zv45 rfl (by decide) fun b6 a w hf H => ?_)
     have hS := H.lt_ [false, false, true, true, true] [] [] []
     refine aS hS ?_
     refine nn 4 rfl (oC hf TF.cl120 (spec_l9Without_ok (S := TT) (Plan_mkv (x := p) (H.rt 3 rfl) (H.rt 2 rfl) (H.rt 1 rfl)) mk_int hy4) fun v4 w a hp4 hf => ?_)
     obtain ⟨hb4, hp4⟩ := hp4
     obtain ⟨A5, c6, A6, c7, A7, c8, rfl, hl5, hl6, hl7⟩ := Plan_open hp4
     replace hl5 := H.rF hl5
     replace hl6 := H.rF hl6
     replace hl7 := H.rF hl7
     have H := H.keep hb4
     have H := H.pT hl5
     have H := H.pT hl6
     have H := H.pT hl7
     have hS := H.lt_ [false, false, true, true, true] [] [] []
     refine aS hS ?_
     refine nn 9 rfl (oC hf TF.cl109 (spec_l9Put_ok (S := TT) (Plan_mkv (x := y4) (H.rt 2 rfl) (H.rt 1 rfl) (H.rt 0 rfl)) (Light_mkv (x := ({ Id := id, Route := r', Block := b' } : Light)) (H.rt 3 rfl)) hy5) fun v5 w a hp5 hf => ?_)
     obtain ⟨hb5, hp5⟩ := hp5
     obtain ⟨A8, c9, A9, c10, A10, c11, rfl, hl8, hl9, hl10⟩ := Plan_open hp5
     replace hl8 := H.rF hl8
     replace hl9 := H.rF hl9
     replace hl10 := H.rF hl10
     have H := H.keep hb5
     have H := H.pT hl8
     have H := H.pT hl9
     have H := H.pT hl10
     have hS := H.lt_ [false, false, true, true, true] [] [] []
     refine aS hS ?_
     refine nn 11 rfl (op_storeB hf H 0 TF.sz45 rfl rfl rfl rfl rfl rfl (nle rfl) fun w H => ?_)
     refine ⟨fun h => absurd h (by decide), ?_⟩
     refine dk ?_
     have hf := hf.pn [8, 10]
     have H := H.lt_ [true, true, false, false, false] [] [] [0, 1, 2]
     exact ⟨b6, A8, c9, A9, c10, A10, c11, hf, H⟩
   ·refine (op_alloc hf H TF.zv45 rfl (by decide) fun b6 a w hf H => ?_)
    have hS := H.lt_ [false, false, true, true, true] [] [] []
    refine aS hS ?_
    refine nn 3 rfl (oC hf TF.cl101 (spec_l9Find_ok (S := TT) (Plan_mkv (x := p) (H.rt 3 rfl) (H.rt 2 rfl) (H.rt 1 rfl)) mk_int hy3) fun v3 w a hp3 hf => ?_)
    obtain ⟨hb3, hp3⟩ := hp3
    obtain rfl := VR_int hp3
    have H := H.keep hb3
    have hS := H.lt_ [false, false, true, true, true] [] [] []
    refine aS hS ?_
    refine nn 4 rfl (oC hf TF.cl120 (spec_l9Without_ok (S := TT) (Plan_mkv (x := p) (H.rt 3 rfl) (H.rt 2 rfl) (H.rt 1 rfl)) mk_int hy4) fun v4 w a hp4 hf => ?_)
    obtain ⟨hb4, hp4⟩ := hp4
    obtain ⟨A5, c6, A6, c7, A7, c8, rfl, hl5, hl6, hl7⟩ := Plan_open hp4
    replace hl5 := H.rF hl5
    replace hl6 := H.rF hl6
    replace hl7 := H.rF hl7
    have H := H.keep hb4
    have H := H.pT hl5
    have H := H.pT hl6
    have H := H.pT hl7
    have hS := H.lt_ [false, false, true, true, true] [] [] []
    refine aS hS ?_
    refine nn 9 rfl (oC hf TF.cl109 (spec_l9Put_ok (S := TT) (Plan_mkv (x := y4) (H.rt 2 rfl) (H.rt 1 rfl) (H.rt 0 rfl)) (Light_mkv (x := ({ Id := id, Route := r', Block := b' } : Light)) (H.rt 3 rfl)) hy5) fun v5 w a hp5 hf => ?_)
    obtain ⟨hb5, hp5⟩ := hp5
    obtain ⟨A8, c9, A9, c10, A10, c11, rfl, hl8, hl9, hl10⟩ := Plan_open hp5
    replace hl8 := H.rF hl8
    replace hl9 := H.rF hl9
    replace hl10 := H.rF hl10
    have H := H.keep hb5
    have H := H.pT hl8
    have H := H.pT hl9
    have H := H.pT hl10
    have hS := H.lt_ [false, false, true, true, true] [] [] []
    refine aS hS ?_
    refine nn 11 rfl (op_storeB hf H 0 TF.sz45 rfl rfl rfl rfl rfl rfl (nle rfl) fun w H => ?_)
    refine ⟨fun h => absurd h (by decide), ?_⟩
    refine dk ?_
    have hf := hf.pn [8, 10]
    have H := H.lt_ [true, true, false, false, false] [] [] [0, 1, 2]
    exact ⟨b6, A8, c9, A9, c10, A10, c11, hf, H⟩
  rintro a w ⟨b6, A8, c9, A9, c10, A10, c11, hf, H⟩
  refine then_n (sq (sq (reg (lN 0 hf H TF.la45 fun a hf => ?_))))
  obtain ⟨y6, hy6, hF⟩ := bs_ hF
  refine oc hf TF.cl61 (spec_l9Good_ok (S := TT) (Plan_mkv (x := y5) (H.rt 2 rfl) (H.rt 1 rfl) (H.rt 0 rfl)) hy6) fun v6 w a hp6 hf => ?_
  obtain ⟨hb6, hp6⟩ := hp6
  obtain rfl := VR_bool hp6
  have H := H.keep hb6
  refine pz 1 hf fun a hf => ?_
  refine wl_end (then_n (ib hF hf (fun hc3 hF => ?_) fun hc3 hF => ?_))
  ·refine sq (reg (oq hf (rq_build hf (cs := [(.slice none 0 0), (.slice none 0 0), (.slice none 0 0)]) rfl (fun w => by kernel_rfl)) fun a hf => ?_))
   refine sB 1 hf H TF.sz45 fun w H => ?_
   refine pz 1 hf fun a hf => ?_
   refine wl_end (then_n (wp_ret (then_r (?_))))
   have H := H.pushNil (ByteArray) true
   have H := H.pushNil (Fiber) true
   have H := H.pushNil (Light) true
   obtain rfl := oi hF
   refine ret_2 hf rfl (rv_cellN hf H 1 TF.la45 rfl rfl rfl) (rv_tmp hf rfl) ?_
   exact ⟨_, rfl, H.bel, _, _, rfl, (Plan_mkv (x := ({ Network := ({ Nodes := [], Fibers := [] } : Network), Lights := [] } : Plan)) (rep_end (α := List ByteArray) (H.get 2 rfl)) (rep_end (α := List Fiber) (H.get 1 rfl)) (rep_end (α := List Light) (H.get 0 rfl))), mk_bool⟩
  ·refine wp_skip (then_n (sq (reg (lN 0 hf H TF.la45 fun a hf => ?_))))
   refine sB 1 hf H TF.sz45 fun w H => ?_
   refine pz 1 hf fun a hf => ?_
   refine wer ?_
   obtain rfl := oi hF
   refine ret_2 hf rfl (rv_cellN hf H 1 TF.la45 rfl rfl rfl) (rv_tmp hf rfl) ?_
   exact ⟨_, rfl, H.bel, _, _, rfl, (Plan_mkv (x := y5) (rep_end (α := List ByteArray) (H.get 2 rfl)) (rep_end (α := List Fiber) (H.get 1 rfl)) (rep_end (α := List Light) (H.get 0 rfl))), mk_bool⟩
theorem spec_l20Apply_ok {S : Nat → Prop} {v0_ : Value} {v1_ : Value} {p : Plan} {a' : Action} {r : Plan × Bool} (h0 : VR w0 S v0_ p) (h1 : VR w0 S v1_ a') (hF : spec_l20Apply fu p a' = some r) :
    Calls Tryz.prog 62 [v0_, v1_].toArray w0 fun e w' => ∃ v, e = .returned v ∧ (Below w0.heap.size w0 w' ∧ ∃ u0 u1, v = .tuple #[u0, u1] ∧ VR w' (St ⟨w0, []⟩ S [] [] [] true) u0 r.1 ∧ VR w' (St ⟨w0, []⟩ S [] [] [] true) u1 r.2) := by
 obtain ⟨A, c, A2, c2, A3, c3, rfl, hl, hl2, hl3⟩ := Plan_open h0
 obtain ⟨A4, c4, rfl, hl4⟩ := Action_open h1
 have H := Mem.start ⟨w0, []⟩ S
 have H := H.pA hl
 have H := H.pA hl2
 have H := H.pA hl3
 have H := H.pA hl4
 refine en Tryz.func62 fun a hf => ?_
 rw [spec_l20Apply] at hF
 refine bx hf H fun b' a w hf H => ?_
 refine wl0 rfl (op_box hf H rfl rfl (by decide) fun b2 a w hf H => ?_)
 refine aL hf H TF.zv45 fun b3 a w hf H => ?_
 refine pz 1 hf fun a hf => ?_
 refine wr (lN 2 hf H TF.la45 fun a hf => ?_)
 refine pz 2 hf fun a hf => ?_
 refine lB 1 hf H TF.ls3 fun a hf => ?_
 obtain ⟨y, hy, hF⟩ := bs_ hF
 refine oc hf TF.cl101 (spec_l9Find_ok (S := TT) (Plan_mkv (x := p) (H.rt 3 rfl) (H.rt 2 rfl) (H.rt 1 rfl)) mk_int hy) fun v w a hp hf => ?_
 obtain ⟨hb, hp⟩ := hp
 obtain rfl := VR_int hp
 have H := H.keep hb
 refine pz 1 hf fun a hf => ?_
 refine we (sqz (pz 1 hf fun a hf => ?_))
 refine lB 1 hf H TF.ls3 fun a hf => ?_
 refine wl_end (then_n (wp_block (sqz (pz 2 hf fun a hf => ?_))))
 refine wl_end (then_n (ib hF hf (fun hc hF => ?_) fun hc hF => ?_))
 ·refine sq (reg (lN 2 hf H TF.la45 fun a hf => ?_))
  refine pz 1 hf fun a hf => ?_
  refine lN 1 hf H TF.la52 fun a hf => ?_
  obtain ⟨y2, hy2, hF⟩ := bs_ hF
  refine oc hf TF.cl53 (spec_AddLight_ok (S := TT) (Plan_mkv (x := p) (H.rt 3 rfl) (H.rt 2 rfl) (H.rt 1 rfl)) (Light_mkv (x := a'.Light) (H.rt 0 rfl)) hy2) fun v2 w a hp2 hf => ?_
  obtain ⟨hb2, v3, v4, rfl, hp3, hp4⟩ := hp2
  obtain ⟨A5, c5, A6, c6, A7, c7, rfl, hl5, hl6, hl7⟩ := Plan_open hp3
  replace hl5 := H.rF hl5
  replace hl6 := H.rF hl6
  replace hl7 := H.rF hl7
  obtain rfl := VR_bool hp4
  have H := H.keep hb2
  have H := H.pT hl5
  have H := H.pT hl6
  have H := H.pT hl7
  refine pz 2 hf fun a hf => ?_
  refine sB 0 hf H TF.sz45 fun w H => ?_
  refine pz 1 hf fun a hf => ?_
  have hf := hf.pn [4, 5]
  refine wl_end (then_n (wp_ret (blk_r (then_r (?_)))))
  obtain rfl := oi hF
  refine ret_2 hf rfl (rv_cellN hf H 0 TF.la45 rfl rfl rfl) (rv_tmp hf rfl) ?_
  exact ⟨_, rfl, H.bel, _, _, rfl, (Plan_mkv (x := y2.1) (rep_end (α := List ByteArray) (H.get 2 rfl)) (rep_end (α := List Fiber) (H.get 1 rfl)) (rep_end (α := List Light) (H.get 0 rfl))), mk_bool⟩
 ·refine sqz (pz 2 hf fun a hf => ?_)
  refine wl_end (then_n (ib hF hf (fun hc2 hF => ?_) fun hc2 hF => ?_))
  ·refine sq ?_
   obtain ⟨c8, hGc8, hF⟩ := bs_ hF
   have fh := hf.prune [2, 4, 6] rfl
   have Hm := H.lt_ [true, false, true] [] [] [1, 2, 3]
   refine midF 35 (.bool c8) fh Hm ?_ fun a w hf H => ?_
   ·refine dw [] 12 fun w hb => ?_
    have H := H.keep hb
    refine zp 0 hf trivial fun a hf => ?_
    refine zp 1 hf trivial fun a hf => ?_
    refine zp 2 hf trivial fun a hf => ?_
    refine iteB hGc8 (fun hc3 hGc8 => ?_) fun hc3 hGc8 => ?_
    ·have hf := hf.lit 26 rfl hc3
     refine zg 3 hf trivial fun a hf => ?_
     refine strT (H.lt_ [false, false, true] [] [] []) (fun w H => trivial) fun hS => ?_
     refine tSg 4 [] rfl rfl rfl rfl rfl rfl hf (by kernel_rfl) (by kernel_rfl) hS (fun w H => rq_loadB hf H TF.ls43 0 rfl rfl rfl) fun a hf => ?_
     refine zg 5 hf hS fun a hf => ?_
     obtain ⟨e, he, hGc8⟩ := bs_ hGc8
     obtain ⟨p2, o, cs, hx, hr, H⟩ := pre_iaddr H Tryz.underlying43 TF.sz52 1 rfl he
     refine tPg 6 rfl rfl rfl rfl rfl rfl hf (by kernel_rfl) (fun _ => hS) (fun w => rq_iaddrE hf rfl rfl rfl hx w) fun a hf => ?_
     obtain ⟨A8, c9, rfl, hl8⟩ := Light_cells hr
     have H := H.pF hl8
     refine strT (H.lt_ [false, false, true] [] [] [1]) (fun w H => H.lt_ [true] [] [] []) fun hS => ?_
     refine tSg 7 [] rfl rfl rfl rfl rfl rfl hf (by kernel_rfl) (by kernel_rfl) hS (fun w H => rq_loadIN hf H TF.la52 0 0 rfl rfl rfl rfl) fun a hf => ?_
     refine zg 8 hf hS fun a hf => ?_
     refine strT (H.lt_ [false, true, true] [] [] [1]) (fun w H => H.lt_ [false, true] [] [] [0]) fun hS => ?_
     refine tSg 9 [] rfl rfl rfl rfl rfl rfl hf (by kernel_rfl) (by kernel_rfl) hS (fun w H => rq_loadBN hf H TF.la52 0 rfl rfl rfl rfl) fun a hf => ?_
     obtain ⟨y3, hy3, hGc8⟩ := bs_ hGc8
     refine n1g 10 (by kernel_rfl) rfl rfl rfl rfl hf (oC hf TF.cl119 (spec_l20Same_ok (S := TT) (Light_mkv (x := e) (H.rt 0 rfl)) (Light_mkv (x := a'.Light) (H.rt 2 rfl)) hy3) fun v5 w a hp5 hf => ?_)
     obtain ⟨hb3, hp5⟩ := hp5
     obtain rfl := VR_bool hp5
     have H := H.keep hb3
     have hS := H.lt_ [false, true, true] [] [] [1]
     refine aS hS ?_
     refine zp 11 hf hS fun a hf => ?_
     refine dk ?_
     obtain rfl := oi hGc8
     have hf := hf.pn [35, 2, 4, 6]
     have H := H.lt_ [true, false, true] [] [] [3, 4, 5]
     exact ⟨hf, H⟩
    ·have hf := hf.lit 26 rfl hc3
     refine zU 3 hf trivial fun a hf => ?_
     refine zU 4 hf trivial fun a hf => ?_
     refine zU 5 hf trivial fun a hf => ?_
     refine zU 6 hf trivial fun a hf => ?_
     refine zU 7 hf trivial fun a hf => ?_
     refine zU 8 hf trivial fun a hf => ?_
     refine zU 9 hf trivial fun a hf => ?_
     refine zU 10 hf trivial fun a hf => ?_
     refine zp 11 hf trivial fun a hf => ?_
     refine dk ?_
     obtain rfl := oi hGc8
     have hf := hf.pn [35, 2, 4, 6]
     have H := H.lt_ [true, false, true] [] [] [1, 2, 3]
     exact ⟨hf, H⟩
   refine then_n (ib hF hf (fun hc4 hF => ?_) fun hc4 hF => ?_)
   ·refine sq (reg (lN 1 hf H TF.la45 fun a hf => ?_))
    refine pz 1 hf fun a hf => ?_
    obtain ⟨y4, hy4, hF⟩ := bs_ hF
    refine oc hf TF.cl120 (spec_l9Without_ok (S := TT) (Plan_mkv (x := p) (H.rt 2 rfl) (H.rt 1 rfl) (H.rt 0 rfl)) mk_int hy4) fun v6 w a hp6 hf => ?_
    obtain ⟨hb4, hp6⟩ := hp6
    obtain ⟨A9, c10, A10, c11, A11, c12, rfl, hl9, hl10, hl11⟩ := Plan_open hp6
    replace hl9 := H.rF hl9
    replace hl10 := H.rF hl10
    replace hl11 := H.rF hl11
    have H := H.keep hb4
    have H := H.pT hl9
    have H := H.pT hl10
    have H := H.pT hl11
    refine sB 0 hf H TF.sz45 fun w H => ?_
    refine pz 1 hf fun a hf => ?_
    refine wl_end (then_n (wp_ret (blk_r (then_r (?_)))))
    obtain rfl := oi hF
    refine ret_2 hf rfl (rv_cellN hf H 0 TF.la45 rfl rfl rfl) (rv_tmp hf rfl) ?_
    exact ⟨_, rfl, H.bel, _, _, rfl, (Plan_mkv (x := y4) (rep_end (α := List ByteArray) (H.get 2 rfl)) (rep_end (α := List Fiber) (H.get 1 rfl)) (rep_end (α := List Light) (H.get 0 rfl))), mk_bool⟩
   ·refine wp_skip (blk_n (then_n (sq (reg (oq hf (rq_build hf (cs := [(.slice none 0 0), (.slice none 0 0), (.slice none 0 0)]) rfl (fun w => by kernel_rfl)) fun a hf => ?_)))))
    refine sB 0 hf H TF.sz45 fun w H => ?_
    refine pz 1 hf fun a hf => ?_
    refine wer ?_
    have H := H.pushNil (ByteArray) true
    have H := H.pushNil (Fiber) true
    have H := H.pushNil (Light) true
    obtain rfl := oi hF
    refine ret_2 hf rfl (rv_cellN hf H 0 TF.la45 rfl rfl rfl) (rv_tmp hf rfl) ?_
    exact ⟨_, rfl, H.bel, _, _, rfl, (Plan_mkv (x := ({ Network := ({ Nodes := [], Fibers := [] } : Network), Lights := [] } : Plan)) (rep_end (α := List ByteArray) (H.get 2 rfl)) (rep_end (α := List Fiber) (H.get 1 rfl)) (rep_end (α := List Light) (H.get 0 rfl))), mk_bool⟩
  ·refine sqz (pz 2 hf fun a hf => ?_)
   have hf := hf.pn [2, 3, 4, 39]
   refine wl_end (then_n (ib hF hf (fun hc5 hF => ?_) fun hc5 hF => ?_))
   ·refine sq (reg (lN 2 hf H TF.la45 fun a hf => ?_))
    refine pz 2 hf fun a hf => ?_
    refine lB 1 hf H TF.ls3 fun a hf => ?_
    refine pz 2 hf fun a hf => ?_
    refine lN 1 hf H TF.la49 fun a hf => ?_
    refine pz 2 hf fun a hf => ?_
    refine lN 1 hf H TF.la50 fun a hf => ?_
    obtain ⟨y5, hy5, hF⟩ := bs_ hF
    refine oc hf TF.cl121 (spec_MoveLight_ok (S := TT) (Plan_mkv (x := p) (H.rt 3 rfl) (H.rt 2 rfl) (H.rt 1 rfl)) mk_int (Route_mkv (x := a'.Light.Route) (H.rt 0 rfl)) Block_mkv hy5) fun v7 w a hp7 hf => ?_
    obtain ⟨hb5, v8, v9, rfl, hp8, hp9⟩ := hp7
    obtain ⟨A12, c13, A13, c14, A14, c15, rfl, hl12, hl13, hl14⟩ := Plan_open hp8
    replace hl12 := H.rF hl12
    replace hl13 := H.rF hl13
    replace hl14 := H.rF hl14
    obtain rfl := VR_bool hp9
    have H := H.keep hb5
    have H := H.pT hl12
    have H := H.pT hl13
    have H := H.pT hl14
    refine pz 2 hf fun a hf => ?_
    refine sB 0 hf H TF.sz45 fun w H => ?_
    refine pz 1 hf fun a hf => ?_
    have hf := hf.pn [4, 5]
    refine wl_end (then_n (wp_ret (blk_r (then_r (?_)))))
    obtain rfl := oi hF
    refine ret_2 hf rfl (rv_cellN hf H 0 TF.la45 rfl rfl rfl) (rv_tmp hf rfl) ?_
    exact ⟨_, rfl, H.bel, _, _, rfl, (Plan_mkv (x := y5.1) (rep_end (α := List ByteArray) (H.get 2 rfl)) (rep_end (α := List Fiber) (H.get 1 rfl)) (rep_end (α := List Light) (H.get 0 rfl))), mk_bool⟩
   ·refine wp_skip (blk_n (then_n (sq (reg (oq hf (rq_build hf (cs := [(.slice none 0 0), (.slice none 0 0), (.slice none 0 0)]) rfl (fun w => by kernel_rfl)) fun a hf => ?_)))))
    refine sB 0 hf H TF.sz45 fun w H => ?_
    refine pz 1 hf fun a hf => ?_
    refine wer ?_
    have H := H.pushNil (ByteArray) true
    have H := H.pushNil (Fiber) true
    have H := H.pushNil (Light) true
    obtain rfl := oi hF
    refine ret_2 hf rfl (rv_cellN hf H 0 TF.la45 rfl rfl rfl) (rv_tmp hf rfl) ?_
    exact ⟨_, rfl, H.bel, _, _, rfl, (Plan_mkv (x := ({ Network := ({ Nodes := [], Fibers := [] } : Network), Lights := [] } : Plan)) (rep_end (α := List ByteArray) (H.get 2 rfl)) (rep_end (α := List Fiber) (H.get 1 rfl)) (rep_end (α := List Light) (H.get 0 rfl))), mk_bool⟩
theorem slices_Equal_int_int_ok {S : Nat → Prop} {v0_ : Value} {v1_ : Value} {s1 : List Int} {s2 : List Int} {r : Bool} (h0 : VR w0 S v0_ s1) (h1 : VR w0 S v1_ s2) (hF : slices_Equal_int_int fu s1 s2 = some r) :
    Calls Tryz.prog 128 [v0_, v1_].toArray w0 fun e w' => ∃ v, e = .returned v ∧ (Below w0.heap.size w0 w' ∧ VR w' (St ⟨w0, []⟩ S [] [] [] true) v r) := by
 obtain ⟨A, c, rfl, hl⟩ := VR_list h0
 obtain ⟨A2, c2, rfl, hl2⟩ := VR_list h1
 have H := Mem.start ⟨w0, []⟩ S
 have H := H.pA hl
 have H := H.pA hl2
 refine en Tryz.func128 fun a hf => ?_
 rw [slices_Equal_int_int] at hF
 refine sqz (pz 1 hf fun a hf => ?_)
 refine we (sqz (pz 5 hf fun a hf => ?_))
 refine wl_end (then_n (ib hF hf (fun hc hF => ?_) fun hc hF => ?_))
 ·refine sqz (pz 1 hf fun a hf => ?_)
  refine wl_end (then_n (wp_ret (then_r (?_))))
  obtain rfl := oi hF
  refine rT hf ?_
  exact ⟨_, rfl, H.bel, mk_bool⟩
 ·refine wp_skip (then_n (sq (sqz (pz 3 hf fun a hf => ?_))))
  refine wl_end (then_n ?_)
  obtain ⟨out', hB1, hF⟩ := bs_ hF
  have hf := hf.pn [0, 1, 12, 13]
  have H := H.lt_ [] [] [] [0, 1]
  refine loopC (fun (s : Int) (a : Act) (w : World) => match s with | i => Fr a 26 [(0, (.slice A s1.length c)), (1, (.slice A2 s2.length c2)), (12, (.int .i64 (s1.length : Int))), (13, (.int .i64 i))] ∧ Mem ⟨w0, []⟩ S [] [] [] [(false, MP.val [(.slice A2 s2.length c2)] (s2 : List Int)), (false, MP.val [(.slice A s1.length c)] (s1 : List Int))] w) (fun k (s : Int) => slices_Equal_int_int_L1 fu s1 s2 k s = some out') (fun s => out' = Out.next s) 0 fu hB1 ⟨hf, H⟩ (fun s h => by cases h) ?_ ?_
  ·rintro fk i a w hR1 hI
   replace hR1 : slices_Equal_int_int_L1 fu s1 s2 (fk + 1) i = some out' := hR1
   rw [slices_Equal_int_int_L1] at hR1
   obtain ⟨hf, H⟩ := hI
   refine sqz (pz 1 hf fun a hf => ?_)
   refine wl_end (then_n (sq (ib hR1 hf (fun hc2 hR1 => ?_) fun hc2 hR1 => ?_)))
   ·refine ws (pz 2 hf fun a hf => ?_)
    refine wl_end (then_n (sq (dw [] 9 fun w hb => ?_)))
    have H := H.keep hb
    refine zp 0 hf trivial fun a hf => ?_
    refine zp 1 hf trivial fun a hf => ?_
    obtain ⟨e, he, hR1⟩ := bs_ hR1
    obtain ⟨p, o, cs, hx, hr, H⟩ := pre_iaddr H Tryz.underlying29 TF.sz3 1 rfl he
    refine tP 2 rfl rfl rfl rfl hf (by kernel_rfl) (fun _ => trivial) (fun w => rq_iaddrE hf rfl rfl rfl hx w) fun a hf => ?_
    obtain rfl := hr
    refine strT (H.lt_ [] [] [] [0]) (fun w H => trivial) fun hS => ?_
    refine zS 3 [] rfl rfl rfl rfl hf hS (fun w H => rq_loadI hf H TF.ls3 0 0 rfl rfl rfl) fun a hf => ?_
    refine zp 4 hf hS fun a hf => ?_
    refine zp 5 hf hS fun a hf => ?_
    obtain ⟨e2, he2, hR1⟩ := bs_ hR1
    obtain ⟨p2, o2, cs2, hx2, hr2, H⟩ := pre_iaddr H Tryz.underlying29 TF.sz3 1 rfl he2
    refine zP 6 rfl rfl rfl rfl hf hS (fun w => rq_iaddrE hf rfl rfl rfl hx2 w) fun a hf => ?_
    obtain rfl := hr2
    refine strT (H.lt_ [] [] [] [0, 1]) (fun w H => H.lt_ [] [] [] [1]) fun hS => ?_
    refine zS 7 [] rfl rfl rfl rfl hf hS (fun w H => rq_loadI hf H TF.ls3 0 0 rfl rfl rfl) fun a hf => ?_
    refine zp 8 hf hS fun a hf => ?_
    refine dk ?_
    refine then_n (ib hR1 hf (fun hc3 hR1 => ?_) fun hc3 hR1 => ?_)
    ·refine sqz (pz 1 hf fun a hf => ?_)
     have hf := hf.pn [4]
     refine wl_end (then_n (wp_ret (blk_r (then_r (then_r (blk_r (then_r (then_r (?_)))))))))
     obtain rfl := oi hR1
     replace hF := on_ret hF
     obtain rfl := oi hF
     refine rT hf ?_
     exact ⟨_, rfl, H.bel, mk_bool⟩
    ·refine wp_skip (blk_n (then_n (reg (pz 2 hf fun a hf => ?_))))
     have hf := hf.pn [0, 1, 12, 13]
     refine wl_end ?_
     have hf := hf.pn [0, 1, 12, 13]
     have H := H.lt_ [] [] [] [2, 3]
     exact then_n ⟨w64 (i + 1), hR1, hf, H⟩
   ·refine wp_exit (then_x (then_x (blk_e (?_))))
    have hf := hf.pn [0, 1, 12, 13]
    have H := H.lt_ [] [] [] [0, 1]
    exact ⟨i, (Option.some.inj hR1).symm, hf, H⟩
  rintro a w ⟨i2, rfl, hf, H⟩
  replace hF := on_next hF
  refine then_n (sqz (pz 1 hf fun a hf => ?_))
  refine wer ?_
  obtain rfl := oi hF
  refine rT hf ?_
  exact ⟨_, rfl, H.bel, mk_bool⟩
theorem impl_equalLights_ok {S : Nat → Prop} {v0_ : Value} {v1_ : Value} {a' : Light} {b' : Light} {r : Bool} (h0 : VR w0 S v0_ a') (h1 : VR w0 S v1_ b') (hF : impl_equalLights fu a' b' = some r) :
    Calls Tryz.prog 67 [v0_, v1_].toArray w0 fun e w' => ∃ v, e = .returned v ∧ (Below w0.heap.size w0 w' ∧ VR w' (St ⟨w0, []⟩ S [] [] [] true) v r) := by
 obtain ⟨A, c, rfl, hl⟩ := Light_open h0
 obtain ⟨A2, c2, rfl, hl2⟩ := Light_open h1
 have H := Mem.start ⟨w0, []⟩ S
 have H := H.pA hl
 have H := H.pA hl2
 refine en Tryz.func67 fun a hf => ?_
 rw [impl_equalLights] at hF
 refine bx hf H fun b2 a w hf H => ?_
 refine wl0 rfl (op_box hf H rfl rfl (by decide) fun b3 a w hf H => ?_)
 refine pz 1 hf fun a hf => ?_
 refine wl_end (then_n (sq ?_))
 obtain ⟨c3, hGc3, hF⟩ := bs_ hF
 have fh := hf.prune [] rfl
 have Hm := H.lt_ [false, false] [] [] []
 refine midF 4 (.bool c3) fh Hm ?_ fun a w hf H => ?_
 ·refine reg (pz 1 hf fun a hf => ?_)
  refine lB 1 hf H TF.ls3 fun a hf => ?_
  refine pz 1 hf fun a hf => ?_
  refine lB 0 hf H TF.ls3 fun a hf => ?_
  refine pz 2 hf fun a hf => ?_
  refine iteB hGc3 (fun hc hGc3 => ?_) fun hc hGc3 => ?_
  ·have hf := hf.lit 10 rfl hc
   refine pz 2 hf fun a hf => ?_
   refine wlg hf rfl rfl rfl (op_q hf (rq_loadB hf H TF.ls3 1 rfl rfl rfl) rfl (by decide) fun a hf => ?_)
   refine pz 2 hf fun a hf => ?_
   refine wlg hf rfl rfl rfl (op_q hf (rq_loadB hf H TF.ls3 0 rfl rfl rfl) rfl (by decide) fun a hf => ?_)
   refine pz 3 hf fun a hf => ?_
   refine iteB hGc3 (fun hc2 hGc3 => ?_) fun hc2 hGc3 => ?_
   ·have hf := hf.lit 19 rfl hc2
    refine pz 2 hf fun a hf => ?_
    refine wlg hf rfl rfl rfl (op_q hf (rq_loadB hf H TF.ls29 1 rfl rfl rfl) rfl (by decide) fun a hf => ?_)
    refine pz 2 hf fun a hf => ?_
    refine wlg hf rfl rfl rfl (op_q hf (rq_loadB hf H TF.ls29 0 rfl rfl rfl) rfl (by decide) fun a hf => ?_)
    obtain ⟨y, hy, hGc3⟩ := bs_ hGc3
    refine wlg hf rfl rfl rfl (oC hf TF.cl128 (slices_Equal_int_int_ok (S := TT) (mk_list (H.rt 1 rfl)) (mk_list (H.rt 0 rfl)) hy) fun v w a hp hf => ?_)
    obtain ⟨hb, hp⟩ := hp
    obtain rfl := VR_bool hp
    have H := H.keep hb
    refine pz 2 hf fun a hf => ?_
    refine iteB hGc3 (fun hc3 hGc3 => ?_) fun hc3 hGc3 => ?_
    ·have hf := hf.lit 28 rfl hc3
     refine pz 1 hf fun a hf => ?_
     refine wlg hf rfl rfl rfl (op_q hf (rq_loadBN hf H TF.la50 1 rfl rfl rfl rfl) rfl (by decide) fun a hf => ?_)
     refine pz 1 hf fun a hf => ?_
     refine wlg hf rfl rfl rfl (op_q hf (rq_loadBN hf H TF.la50 0 rfl rfl rfl rfl) rfl (by decide) fun a hf => ?_)
     refine wlg hf rfl rfl rfl (op_q hf (rq_eqT hf TF.qeqt50 ([a'.Block.First, a'.Block.Count] : List Int) ([b'.Block.First, b'.Block.Count] : List Int) rfl rfl rfl rfl rfl rfl) rfl (by decide) fun a hf => ?_)
     refine pz 2 hf fun a hf => ?_
     obtain rfl := oi hGc3
     have hf := hf.pn [4]
     have H := H.lt_ [false, false] [] [] []
     exact wl_end ⟨hf, H⟩
    ·have hf := hf.lit 28 rfl hc3
     refine pz 7 hf fun a hf => ?_
     obtain rfl := oi hGc3
     have hf := hf.pn [4]
     have H := H.lt_ [false, false] [] [] []
     exact wl_end ⟨hf, H⟩
   ·have hf := hf.lit 19 rfl hc2
    refine pz 16 hf fun a hf => ?_
    obtain rfl := oi hGc3
    have hf := hf.pn [4]
    have H := H.lt_ [false, false] [] [] []
    exact wl_end ⟨hf, H⟩
  ·have hf := hf.lit 10 rfl hc
   refine pz 25 hf fun a hf => ?_
   obtain rfl := oi hGc3
   have hf := hf.pn [4]
   have H := H.lt_ [false, false] [] [] []
   exact wl_end ⟨hf, H⟩
 refine then_n (wp_ret (?_))
 obtain rfl := oi hF
 refine rT hf ?_
 exact ⟨_, rfl, H.bel, mk_bool⟩
theorem impl_MoveLight_ok {S : Nat → Prop} {v0_ : Value} {v1_ : Value} {v2_ : Value} {v3_ : Value} {p : Plan} {id : Int} {r' : Route} {b' : Block} {r : Plan × Bool} (h0 : VR w0 S v0_ p) (h1 : VR w0 S v1_ id) (h2 : VR w0 S v2_ r') (h3 : VR w0 S v3_ b') (hF : impl_MoveLight fu p id r' b' = some r) :
    Calls Tryz.prog 68 [v0_, v1_, v2_, v3_].toArray w0 fun e w' => ∃ v, e = .returned v ∧ (Below w0.heap.size w0 w' ∧ ∃ F0, ∃ u0 u1, v = .tuple #[u0, u1] ∧ VO w' F0 u0 r.1 ∧ VR w' (St ⟨w0, []⟩ S [] [] [] true) u1 r.2 ∧ New w0 w' F0) := by
 obtain ⟨A, c, A2, c2, A3, c3, rfl, hl, hl2, hl3⟩ := Plan_open h0
 obtain rfl := VR_int h1
 obtain ⟨A4, c4, rfl, hl4⟩ := Route_open h2
 obtain rfl := Block_open h3
 have H := Mem.start ⟨w0, []⟩ S
 have H := H.pA hl
 have H := H.pA hl2
 have H := H.pA hl3
 have H := H.pA hl4
 refine en Tryz.func68 fun a hf => ?_
 rw [impl_MoveLight] at hF
 refine bx hf H fun b2 a w hf H => ?_
 refine wl0 rfl (op_box hf H rfl rfl (by decide) fun b3 a w hf H => ?_)
 refine wl0 rfl (op_box hf H rfl rfl (by decide) fun b4 a w hf H => ?_)
 refine aL hf H TF.zv45 fun b5 a w hf H => ?_
 refine pz 1 hf fun a hf => ?_
 refine wr (lN 3 hf H TF.la45 fun a hf => ?_)
 refine pz 1 hf fun a hf => ?_
 obtain ⟨y, hy, hF⟩ := bs_ hF
 refine oc hf TF.cl110 (impl_LightNumber_ok (S := TT) (Plan_mkv (x := p) (H.rt 3 rfl) (H.rt 2 rfl) (H.rt 1 rfl)) mk_int hy) fun v w a hp hf => ?_
 obtain ⟨hb, v2, v3, rfl, hp2, hp3⟩ := hp
 obtain rfl := VR_int hp2
 obtain rfl := VR_bool hp3
 have H := H.keep hb
 refine pz 5 hf fun a hf => ?_
 refine we (sqz (pz 2 hf fun a hf => ?_))
 refine wl_end (then_n (ib hF hf (fun hc hF => ?_) fun hc hF => ?_))
 ·refine sq (reg (oq hf (rq_build hf (cs := [(.slice none 0 0), (.slice none 0 0), (.slice none 0 0)]) rfl (fun w => by kernel_rfl)) fun a hf => ?_))
  refine sB 0 hf H TF.sz45 fun w H => ?_
  refine pz 1 hf fun a hf => ?_
  have hf := hf.pn [8, 9]
  refine wl_end (then_n (wp_ret (then_r (?_))))
  have H := H.ownNil (ByteArray)
  have H := H.lend 0 rfl
  have H := H.ownNil (Fiber)
  have H := H.lend 0 rfl
  have H := H.ownNil (Light)
  have H := H.lend 0 rfl
  have H := H.frontD 1 rfl
  have H := H.frontD 2 rfl
  obtain rfl := oi hF
  refine ret_2 hf rfl (rv_cellN hf H 0 TF.la45 rfl rfl rfl) (rv_tmp hf rfl) ?_
  have hN := H.ends3
  exact ⟨_, rfl, H.bel, ([] ++ ([] ++ [])), _, _, rfl, ⟨_, Plan_ownmk (x := ({ Network := ({ Nodes := [], Fibers := [] } : Network), Lights := [] } : Plan)) (H.ownAt 0 rfl) (H.ownAt 1 rfl) (H.ownAt 2 rfl), rfl⟩, mk_bool, hN⟩
 ·refine wp_skip (then_n (sq (reg (lN 3 hf H TF.la45 fun a hf => ?_))))
  obtain ⟨y2, hy2, hF⟩ := bs_ hF
  refine oc hf TF.cl83 (impl_copyPlan_ok (S := TT) (Plan_mkv (x := p) (H.rt 3 rfl) (H.rt 2 rfl) (H.rt 1 rfl)) hy2) fun v4 w a hp4 hf => ?_
  obtain ⟨hb2, F, hp5, hN⟩ := hp4
  obtain ⟨A5, c5, F2, A6, c6, F3, A7, c7, F4, rfl, rfl, hl5, hl6, hl7⟩ := Plan_vo hp5
  have H := H.aO3 hb2 hN hl5 hl6 hl7
  have H := H.lend 0 rfl
  have H := H.lend 1 rfl
  have H := H.lend 2 rfl
  have H := H.frontD 2 rfl
  obtain ⟨Fs, E, H, -⟩ := H.thaw rfl
  have H := H.pA hl
  have H := H.pA hl2
  have H := H.pA hl3
  have H := H.pA hl4
  have H := H.lend 0 rfl
  have H := H.lend 1 rfl
  refine aL hf H TF.zv45 fun b6 a w hf H => ?_
  refine sB 0 hf H TF.sz45 fun w H => ?_
  have hf := hf.pn [1, 6, 7, 8, 10, 12]
  refine wl_end (then_n (sq (dw [9] 10 fun w hb => ?_)))
  have H := H.keep hb
  refine zp 0 hf trivial fun a hf => ?_
  refine strT (H.lt_ [true, false, false, false, false] [false] [false, false] []) (fun w H => trivial) fun hS => ?_
  refine zS 1 [1, 8, 9] rfl rfl rfl rfl hf hS (fun w H => rq_loadB hf H TF.ls43 0 rfl rfl rfl) fun a hf => ?_
  refine zp 2 hf hS fun a hf => ?_
  refine zp 3 hf hS fun a hf => ?_
  refine strT (H.lt_ [true, false, false, true, false] [false] [false, false] []) (fun w H => H.lt_ [true, false] [] [] []) fun hS => ?_
  refine zS 4 [4, 5, 7, 8, 9] rfl rfl rfl rfl hf hS (fun w H => rq_loadBN hf H TF.la49 1 rfl rfl rfl rfl) fun a hf => ?_
  refine strT (H.lt_ [true, false, true, true, false] [false] [false, false] []) (fun w H => H.lt_ [true, false, true] [] [] []) fun hS => ?_
  refine zS 6 [6, 7, 8, 9] rfl rfl rfl rfl hf hS (fun w H => rq_loadBN hf H TF.la50 1 rfl rfl rfl rfl) fun a hf => ?_
  obtain ⟨y3, hy3, hF⟩ := bs_ hF
  refine nn 5 rfl (oC hf TF.cl129 (impl_copyRoute_ok (S := TT) (Route_mkv (x := r') (H.rt 2 rfl)) hy3) fun v5 w a hp6 hf => ?_)
  obtain ⟨hb3, F5, hp7, hN2⟩ := hp6
  obtain ⟨A8, c8, F6, rfl, rfl, hl8⟩ := Route_vo hp7
  have H := H.aO1 hb3 hN2 hl8
  have H := H.lend 0 rfl
  have hS := H.lt_ [true, false, true, true, false] [false] [false, false, false] []
  refine aS hS ?_
  refine zP 7 rfl rfl rfl rfl hf hS (fun w => rq_build hf (cs := [(.int .i64 id), (.int .i64 y3.Start), (.slice A8 y3.Fibers.length c8), (.int .i64 b'.First), (.int .i64 b'.Count)]) rfl (fun w => by kernel_rfl)) fun a hf => ?_
  obtain ⟨e, he, hF⟩ := bs_ hF
  refine nn 8 rfl (op_iaddrR hf H Tryz.underlying43 TF.sz52 0 rfl rfl rfl he (by decide) fun p2 o cs a hf hA hr hk => ?_)
  have hrk := hr
  obtain ⟨A9, c9, rfl, hl9⟩ := Light_cells hr
  have H := H.pT hl9
  have hS := H.lt_ [true, false, true, true, false] [false] [false, false, false] []
  refine aS hS ?_
  have H := H.recast (X := [(⟨F6, MP.own F6 [(.slice A8 y3.Fibers.length c8)] (y3.Fibers : List Int)⟩ : DI)]) (Y := [(⟨F6, MP.own F6 [(.int .i64 id), (.int .i64 y3.Start), (.slice A8 y3.Fibers.length c8), (.int .i64 b'.First), (.int .i64 b'.Count)] (({ Id := id, Route := y3, Block := b' } : Light) : Light)⟩ : DI)]) (List.Perm.of_eq (by simp)) fun _ => ps1 (Light_ownmk (x := ({ Id := id, Route := y3, Block := b' } : Light)) (H.ownAt 0 rfl)) ps0
  refine nn 9 rfl (op_storeO hf H TF.sz52 rfl rfl rfl rfl rfl rfl hA he fun w H => ?_)
  replace hf : Fr a 37 [(1, (.int .i64 id)), (6, (.pointer (some ⟨b3, 0, none⟩))), (7, (.pointer (some ⟨b4, 0, none⟩))), (8, (.pointer (some ⟨b5, 0, none⟩))), (10, (.int .i64 y.1)), (12, (.pointer (some ⟨b6, 0, none⟩))), (24, (.pointer (some ⟨b6, 2, none⟩))), (25, (.slice A7 y2.Lights.length c7)), (26, (.int .i64 y.1)), (27, (.int .i64 id)), (28, (.agg #[(.int .i64 r'.Start), (.slice A4 r'.Fibers.length c4)])), (29, (.agg #[(.int .i64 y3.Start), (.slice A8 y3.Fibers.length c8)])), (30, (.agg #[(.int .i64 b'.First), (.int .i64 b'.Count)])), (31, (.agg #[(.int .i64 id), (.int .i64 y3.Start), (.slice A8 y3.Fibers.length c8), (.int .i64 b'.First), (.int .i64 b'.Count)])), (32, (.pointer (some ⟨p2, o + 0, none⟩)))] := hf.prune [1, 6, 7, 8, 10, 12, 24, 25, 26, 27, 28, 29, 30, 31, 32] rfl
  replace hf : Fr a 37 [(1, (.int .i64 id)), (6, (.pointer (some ⟨b3, 0, none⟩))), (7, (.pointer (some ⟨b4, 0, none⟩))), (8, (.pointer (some ⟨b5, 0, none⟩))), (10, (.int .i64 y.1)), (12, (.pointer (some ⟨b6, 0, none⟩))), (24, (.pointer (some ⟨b6, 2, none⟩))), (25, (.slice A7 (y2.Lights.set (y.1 : Int).toNat ({ Id := id, Route := y3, Block := b' } : Light)).length c7)), (26, (.int .i64 y.1)), (27, (.int .i64 id)), (28, (.agg #[(.int .i64 r'.Start), (.slice A4 r'.Fibers.length c4)])), (29, (.agg #[(.int .i64 y3.Start), (.slice A8 y3.Fibers.length c8)])), (30, (.agg #[(.int .i64 b'.First), (.int .i64 b'.Count)])), (31, (.agg #[(.int .i64 id), (.int .i64 y3.Start), (.slice A8 y3.Fibers.length c8), (.int .i64 b'.First), (.int .i64 b'.Count)])), (32, (.pointer (some ⟨p2, o + 0, none⟩)))] := by simpa only [List.length_set, Nat.add_zero] using hf
  replace H : Mem ⟨w0, []⟩ S [⟨b6, 45, [(.slice A5 y2.Network.Nodes.length c5), (.slice A6 y2.Network.Fibers.length c6), (.slice A7 (y2.Lights.set (y.1 : Int).toNat ({ Id := id, Route := y3, Block := b' } : Light)).length c7)]⟩, ⟨b5, 45, [(.slice none 0 0), (.slice none 0 0), (.slice none 0 0)]⟩, ⟨b4, 50, [(.int .i64 b'.First), (.int .i64 b'.Count)]⟩, ⟨b3, 49, [(.int .i64 r'.Start), (.slice A4 r'.Fibers.length c4)]⟩, ⟨b2, 45, [(.slice A p.Network.Nodes.length c), (.slice A2 p.Network.Fibers.length c2), (.slice A3 p.Lights.length c3)]⟩] [⟨.ow (Fs.set (y.1 : Int).toNat F6), E, A7, c7, (y2.Lights.set (y.1 : Int).toNat ({ Id := id, Route := y3, Block := b' } : Light) : List Light)⟩] [⟨F2, MP.own F2 [(.slice A5 y2.Network.Nodes.length c5)] (y2.Network.Nodes : List ByteArray)⟩, ⟨F3, MP.own F3 [(.slice A6 y2.Network.Fibers.length c6)] (y2.Network.Fibers : List Fiber)⟩] [(true, MP.val [(.slice A9 e.Route.Fibers.length c9)] (e.Route.Fibers : List Int)), (true, MP.val [(.slice A8 y3.Fibers.length c8)] (y3.Fibers : List Int)), (true, MP.val [(.slice A6 y2.Network.Fibers.length c6)] (y2.Network.Fibers : List Fiber)), (true, MP.val [(.slice A5 y2.Network.Nodes.length c5)] (y2.Network.Nodes : List ByteArray)), (false, MP.val [(.slice A4 r'.Fibers.length c4)] (r'.Fibers : List Int)), (false, MP.val [(.slice A3 p.Lights.length c3)] (p.Lights : List Light)), (false, MP.val [(.slice A2 p.Network.Fibers.length c2)] (p.Network.Fibers : List Fiber)), (false, MP.val [(.slice A p.Network.Nodes.length c)] (p.Network.Nodes : List ByteArray))] w := by first | (simp only [List.length_set]; exact H) | (simp only [List.length_set] at H ⊢; exact H)
  refine ⟨fun h => absurd h (by decide), ?_⟩
  refine dk ?_
  have hf := hf.pn [8, 12]
  refine then_n (sq (reg (lN 0 hf H TF.la45 fun a hf => ?_)))
  refine oc hf TF.cl107 (impl_planIf_th (S := TT) (Plan_mkv (x := ({ Network := y2.Network, Lights := y2.Lights.set (y.1 : Int).toNat ({ Id := id, Route := y3, Block := b' } : Light) } : Plan)) (H.rt 3 rfl) (H.rt 2 rfl) (H.rowTrue 0 rfl)) hF) fun v6 w a hp8 hf => ?_
  obtain ⟨hb4, hp8⟩ := hp8
  have H := H.keep hb4
  rcases hp8 with ⟨hr, rfl⟩ | ⟨hr, rfl⟩
  ·have hF := (congrArg some hr).symm
   refine pz 2 hf fun a hf => ?_
   refine sB 1 hf H TF.sz45 fun w H => ?_
   refine pz 1 hf fun a hf => ?_
   refine wer ?_
   obtain ⟨F7, H⟩ := H.freezeOwn 0 rfl
   have H := H.lend 0 rfl
   have H := H.frontD 2 rfl
   have H := H.frontD 2 rfl
   obtain rfl := oi hF
   refine ret_2 hf rfl (rv_cellN hf H 1 TF.la45 rfl rfl rfl) (rv_tmp hf rfl) ?_
   have hN := H.ends3
   exact ⟨_, rfl, H.bel, (F2 ++ (F3 ++ F7)), _, _, rfl, ⟨_, Plan_ownmk (x := ({ Network := y2.Network, Lights := y2.Lights.set (y.1 : Int).toNat ({ Id := id, Route := y3, Block := b' } : Light) } : Plan)) (H.ownAt 0 rfl) (H.ownAt 1 rfl) (H.ownAt 2 rfl), rfl⟩, mk_bool, hN⟩
  ·have hF := (congrArg some hr).symm
   refine pz 2 hf fun a hf => ?_
   refine sB 1 hf H TF.sz45 fun w H => ?_
   refine pz 1 hf fun a hf => ?_
   refine wer ?_
   have H := H.ownNil (ByteArray)
   have H := H.lend 0 rfl
   have H := H.ownNil (Fiber)
   have H := H.lend 0 rfl
   have H := H.ownNil (Light)
   have H := H.lend 0 rfl
   have H := H.frontD 1 rfl
   have H := H.frontD 2 rfl
   obtain rfl := oi hF
   refine ret_2 hf rfl (rv_cellN hf H 1 TF.la45 rfl rfl rfl) (rv_tmp hf rfl) ?_
   have hN := H.ends3
   exact ⟨_, rfl, H.bel, ([] ++ ([] ++ [])), _, _, rfl, ⟨_, Plan_ownmk (x := ({ Network := ({ Nodes := [], Fibers := [] } : Network), Lights := [] } : Plan)) (H.ownAt 0 rfl) (H.ownAt 1 rfl) (H.ownAt 2 rfl), rfl⟩, mk_bool, hN⟩
theorem impl_ApplyAction_ok {S : Nat → Prop} {v0_ : Value} {v1_ : Value} {p : Plan} {a' : Action} {r : Plan × Bool} (h0 : VR w0 S v0_ p) (h1 : VR w0 S v1_ a') (hF : impl_ApplyAction fu p a' = some r) :
    Calls Tryz.prog 16 [v0_, v1_].toArray w0 fun e w' => ∃ v, e = .returned v ∧ (Below w0.heap.size w0 w' ∧ ∃ F0, ∃ u0 u1, v = .tuple #[u0, u1] ∧ VO w' F0 u0 r.1 ∧ VR w' (St ⟨w0, []⟩ S [] [] [] true) u1 r.2 ∧ New w0 w' F0) := by
 obtain ⟨A, c, A2, c2, A3, c3, rfl, hl, hl2, hl3⟩ := Plan_open h0
 obtain ⟨A4, c4, rfl, hl4⟩ := Action_open h1
 have H := Mem.start ⟨w0, []⟩ S
 have H := H.pA hl
 have H := H.pA hl2
 have H := H.pA hl3
 have H := H.pA hl4
 refine en Tryz.func16 fun a hf => ?_
 rw [impl_ApplyAction] at hF
 refine bx hf H fun b' a w hf H => ?_
 refine wl0 rfl (op_box hf H rfl rfl (by decide) fun b2 a w hf H => ?_)
 refine aL hf H TF.zv45 fun b3 a w hf H => ?_
 refine pz 1 hf fun a hf => ?_
 refine we (sqz (pz 1 hf fun a hf => ?_))
 refine lB 1 hf H TF.ls3 fun a hf => ?_
 refine wl_end (then_n (wp_block (sqz (pz 2 hf fun a hf => ?_))))
 refine wl_end (then_n (ib hF hf (fun hc hF => ?_) fun hc hF => ?_))
 ·refine sq (reg (lN 2 hf H TF.la45 fun a hf => ?_))
  refine pz 1 hf fun a hf => ?_
  refine lN 1 hf H TF.la52 fun a hf => ?_
  obtain ⟨y, hy, hF⟩ := bs_ hF
  refine oc hf TF.cl52 (impl_AddLight_ok (S := TT) (Plan_mkv (x := p) (H.rt 3 rfl) (H.rt 2 rfl) (H.rt 1 rfl)) (Light_mkv (x := a'.Light) (H.rt 0 rfl)) hy) fun v w a hp hf => ?_
  obtain ⟨hb, F, v2, v3, rfl, hp2, hp3, hN⟩ := hp
  obtain ⟨A5, c5, F2, A6, c6, F3, A7, c7, F4, rfl, rfl, hl5, hl6, hl7⟩ := Plan_vo hp2
  obtain rfl := VR_bool hp3
  have H := H.aO3 hb hN hl5 hl6 hl7
  have H := H.lend 0 rfl
  have H := H.lend 1 rfl
  have H := H.lend 2 rfl
  refine pz 2 hf fun a hf => ?_
  refine sB 0 hf H TF.sz45 fun w H => ?_
  refine pz 1 hf fun a hf => ?_
  have hf := hf.pn [4, 5]
  refine wl_end (then_n (wp_ret (blk_r (then_r (?_)))))
  have H := H.frontD 2 rfl
  have H := H.frontD 2 rfl
  have H := H.frontD 2 rfl
  obtain rfl := oi hF
  refine ret_2 hf rfl (rv_cellN hf H 0 TF.la45 rfl rfl rfl) (rv_tmp hf rfl) ?_
  have hN := H.ends3
  exact ⟨_, rfl, H.bel, (F2 ++ (F3 ++ F4)), _, _, rfl, ⟨_, Plan_ownmk (x := y.1) (H.ownAt 0 rfl) (H.ownAt 1 rfl) (H.ownAt 2 rfl), rfl⟩, mk_bool, hN⟩
 ·refine sqz (pz 2 hf fun a hf => ?_)
  refine wl_end (then_n (ib hF hf (fun hc2 hF => ?_) fun hc2 hF => ?_))
  ·refine sq (reg (lN 2 hf H TF.la45 fun a hf => ?_))
   refine pz 2 hf fun a hf => ?_
   refine lB 1 hf H TF.ls3 fun a hf => ?_
   obtain ⟨y2, hy2, hF⟩ := bs_ hF
   refine oc hf TF.cl66 (impl_lightAt_ok (S := TT) (Plan_mkv (x := p) (H.rt 3 rfl) (H.rt 2 rfl) (H.rt 1 rfl)) mk_int hy2) fun v4 w a hp4 hf => ?_
   obtain ⟨hb2, hp4⟩ := hp4
   obtain rfl := VR_int hp4
   have H := H.keep hb2
   refine pz 1 hf fun a hf => ?_
   have hf := hf.pn [2, 3, 4, 6]
   refine wl_end (then_n (sq ?_))
   obtain ⟨c8, hGc8, hF⟩ := bs_ hF
   have fh := hf.prune [2, 3, 4] rfl
   have Hm := H.lt_ [true, true, true] [] [] [0, 1, 2, 3]
   refine midF 35 (.bool c8) fh Hm ?_ fun a w hf H => ?_
   ·refine dw [] 12 fun w hb => ?_
    have H := H.keep hb
    refine zp 0 hf trivial fun a hf => ?_
    refine zp 1 hf trivial fun a hf => ?_
    refine zp 2 hf trivial fun a hf => ?_
    refine iteB hGc8 (fun hc3 hGc8 => ?_) fun hc3 hGc8 => ?_
    ·have hf := hf.lit 26 rfl hc3
     refine zg 3 hf trivial fun a hf => ?_
     refine strT (H.lt_ [false, false, true] [] [] []) (fun w H => trivial) fun hS => ?_
     refine tSg 4 [] rfl rfl rfl rfl rfl rfl hf (by kernel_rfl) (by kernel_rfl) hS (fun w H => rq_loadB hf H TF.ls43 0 rfl rfl rfl) fun a hf => ?_
     refine zg 5 hf hS fun a hf => ?_
     obtain ⟨e, he, hGc8⟩ := bs_ hGc8
     obtain ⟨p2, o, cs, hx, hr, H⟩ := pre_iaddr H Tryz.underlying43 TF.sz52 1 rfl he
     refine tPg 6 rfl rfl rfl rfl rfl rfl hf (by kernel_rfl) (fun _ => hS) (fun w => rq_iaddrE hf rfl rfl rfl hx w) fun a hf => ?_
     obtain ⟨A8, c9, rfl, hl8⟩ := Light_cells hr
     have H := H.pF hl8
     refine strT (H.lt_ [false, false, true] [] [] [1]) (fun w H => H.lt_ [true] [] [] []) fun hS => ?_
     refine tSg 7 [] rfl rfl rfl rfl rfl rfl hf (by kernel_rfl) (by kernel_rfl) hS (fun w H => rq_loadIN hf H TF.la52 0 0 rfl rfl rfl rfl) fun a hf => ?_
     refine zg 8 hf hS fun a hf => ?_
     refine strT (H.lt_ [false, true, true] [] [] [1]) (fun w H => H.lt_ [false, true] [] [] [0]) fun hS => ?_
     refine tSg 9 [] rfl rfl rfl rfl rfl rfl hf (by kernel_rfl) (by kernel_rfl) hS (fun w H => rq_loadBN hf H TF.la52 0 rfl rfl rfl rfl) fun a hf => ?_
     obtain ⟨y3, hy3, hGc8⟩ := bs_ hGc8
     refine n1g 10 (by kernel_rfl) rfl rfl rfl rfl hf (oC hf TF.cl67 (impl_equalLights_ok (S := TT) (Light_mkv (x := e) (H.rt 0 rfl)) (Light_mkv (x := a'.Light) (H.rt 2 rfl)) hy3) fun v5 w a hp5 hf => ?_)
     obtain ⟨hb3, hp5⟩ := hp5
     obtain rfl := VR_bool hp5
     have H := H.keep hb3
     have hS := H.lt_ [false, true, true] [] [] [1]
     refine aS hS ?_
     refine zp 11 hf hS fun a hf => ?_
     refine dk ?_
     obtain rfl := oi hGc8
     have hf := hf.pn [35, 2, 3, 4]
     have H := H.lt_ [true, true, true] [] [] [2, 3, 4, 5]
     exact ⟨hf, H⟩
    ·have hf := hf.lit 26 rfl hc3
     refine zU 3 hf trivial fun a hf => ?_
     refine zU 4 hf trivial fun a hf => ?_
     refine zU 5 hf trivial fun a hf => ?_
     refine zU 6 hf trivial fun a hf => ?_
     refine zU 7 hf trivial fun a hf => ?_
     refine zU 8 hf trivial fun a hf => ?_
     refine zU 9 hf trivial fun a hf => ?_
     refine zU 10 hf trivial fun a hf => ?_
     refine zp 11 hf trivial fun a hf => ?_
     refine dk ?_
     obtain rfl := oi hGc8
     have hf := hf.pn [35, 2, 3, 4]
     have H := H.lt_ [true, true, true] [] [] [0, 1, 2, 3]
     exact ⟨hf, H⟩
   refine then_n (ib hF hf (fun hc4 hF => ?_) fun hc4 hF => ?_)
   ·refine sq (reg (lN 2 hf H TF.la45 fun a hf => ?_))
    refine pz 2 hf fun a hf => ?_
    refine lB 1 hf H TF.ls3 fun a hf => ?_
    obtain ⟨y4, hy4, hF⟩ := bs_ hF
    refine oc hf TF.cl55 (impl_RemoveLight_ok (S := TT) (Plan_mkv (x := p) (H.rt 3 rfl) (H.rt 2 rfl) (H.rt 1 rfl)) mk_int hy4) fun v6 w a hp6 hf => ?_
    obtain ⟨hb4, F5, v7, v8, rfl, hp7, hp8, hN2⟩ := hp6
    obtain ⟨A9, c10, F6, A10, c11, F7, A11, c12, F8, rfl, rfl, hl9, hl10, hl11⟩ := Plan_vo hp7
    obtain rfl := VR_bool hp8
    have H := H.aO3 hb4 hN2 hl9 hl10 hl11
    have H := H.lend 0 rfl
    have H := H.lend 1 rfl
    have H := H.lend 2 rfl
    refine pz 2 hf fun a hf => ?_
    refine sB 0 hf H TF.sz45 fun w H => ?_
    refine pz 1 hf fun a hf => ?_
    refine wl_end (then_n (wp_ret (blk_r (then_r (?_)))))
    have H := H.frontD 2 rfl
    have H := H.frontD 2 rfl
    have H := H.frontD 2 rfl
    obtain rfl := oi hF
    refine ret_2 hf rfl (rv_cellN hf H 0 TF.la45 rfl rfl rfl) (rv_tmp hf rfl) ?_
    have hN := H.ends3
    exact ⟨_, rfl, H.bel, (F6 ++ (F7 ++ F8)), _, _, rfl, ⟨_, Plan_ownmk (x := y4.1) (H.ownAt 0 rfl) (H.ownAt 1 rfl) (H.ownAt 2 rfl), rfl⟩, mk_bool, hN⟩
   ·refine wp_skip (blk_n (then_n (sq (reg (oq hf (rq_build hf (cs := [(.slice none 0 0), (.slice none 0 0), (.slice none 0 0)]) rfl (fun w => by kernel_rfl)) fun a hf => ?_)))))
    refine sB 0 hf H TF.sz45 fun w H => ?_
    refine pz 1 hf fun a hf => ?_
    refine wer ?_
    have H := H.ownNil (ByteArray)
    have H := H.lend 0 rfl
    have H := H.ownNil (Fiber)
    have H := H.lend 0 rfl
    have H := H.ownNil (Light)
    have H := H.lend 0 rfl
    have H := H.frontD 1 rfl
    have H := H.frontD 2 rfl
    obtain rfl := oi hF
    refine ret_2 hf rfl (rv_cellN hf H 0 TF.la45 rfl rfl rfl) (rv_tmp hf rfl) ?_
    have hN := H.ends3
    exact ⟨_, rfl, H.bel, ([] ++ ([] ++ [])), _, _, rfl, ⟨_, Plan_ownmk (x := ({ Network := ({ Nodes := [], Fibers := [] } : Network), Lights := [] } : Plan)) (H.ownAt 0 rfl) (H.ownAt 1 rfl) (H.ownAt 2 rfl), rfl⟩, mk_bool, hN⟩
  ·refine sqz (pz 2 hf fun a hf => ?_)
   refine wl_end (then_n (ib hF hf (fun hc5 hF => ?_) fun hc5 hF => ?_))
   ·refine sq (reg (lN 2 hf H TF.la45 fun a hf => ?_))
    refine pz 2 hf fun a hf => ?_
    refine lB 1 hf H TF.ls3 fun a hf => ?_
    refine pz 2 hf fun a hf => ?_
    refine lN 1 hf H TF.la49 fun a hf => ?_
    refine pz 2 hf fun a hf => ?_
    refine lN 1 hf H TF.la50 fun a hf => ?_
    obtain ⟨y5, hy5, hF⟩ := bs_ hF
    refine oc hf TF.cl68 (impl_MoveLight_ok (S := TT) (Plan_mkv (x := p) (H.rt 3 rfl) (H.rt 2 rfl) (H.rt 1 rfl)) mk_int (Route_mkv (x := a'.Light.Route) (H.rt 0 rfl)) Block_mkv hy5) fun v9 w a hp9 hf => ?_
    obtain ⟨hb5, F9, v10, v11, rfl, hp10, hp11, hN3⟩ := hp9
    obtain ⟨A12, c13, F10, A13, c14, F11, A14, c15, F12, rfl, rfl, hl12, hl13, hl14⟩ := Plan_vo hp10
    obtain rfl := VR_bool hp11
    have H := H.aO3 hb5 hN3 hl12 hl13 hl14
    have H := H.lend 0 rfl
    have H := H.lend 1 rfl
    have H := H.lend 2 rfl
    refine pz 2 hf fun a hf => ?_
    refine sB 0 hf H TF.sz45 fun w H => ?_
    refine pz 1 hf fun a hf => ?_
    have hf := hf.pn [4, 5]
    refine wl_end (then_n (wp_ret (blk_r (then_r (?_)))))
    have H := H.frontD 2 rfl
    have H := H.frontD 2 rfl
    have H := H.frontD 2 rfl
    obtain rfl := oi hF
    refine ret_2 hf rfl (rv_cellN hf H 0 TF.la45 rfl rfl rfl) (rv_tmp hf rfl) ?_
    have hN := H.ends3
    exact ⟨_, rfl, H.bel, (F10 ++ (F11 ++ F12)), _, _, rfl, ⟨_, Plan_ownmk (x := y5.1) (H.ownAt 0 rfl) (H.ownAt 1 rfl) (H.ownAt 2 rfl), rfl⟩, mk_bool, hN⟩
   ·refine wp_skip (blk_n (then_n (sq (reg (oq hf (rq_build hf (cs := [(.slice none 0 0), (.slice none 0 0), (.slice none 0 0)]) rfl (fun w => by kernel_rfl)) fun a hf => ?_)))))
    refine sB 0 hf H TF.sz45 fun w H => ?_
    refine pz 1 hf fun a hf => ?_
    have hf := hf.pn [4, 5]
    refine wer ?_
    have H := H.ownNil (ByteArray)
    have H := H.lend 0 rfl
    have H := H.ownNil (Fiber)
    have H := H.lend 0 rfl
    have H := H.ownNil (Light)
    have H := H.lend 0 rfl
    have H := H.frontD 1 rfl
    have H := H.frontD 2 rfl
    obtain rfl := oi hF
    refine ret_2 hf rfl (rv_cellN hf H 0 TF.la45 rfl rfl rfl) (rv_tmp hf rfl) ?_
    have hN := H.ends3
    exact ⟨_, rfl, H.bel, ([] ++ ([] ++ [])), _, _, rfl, ⟨_, Plan_ownmk (x := ({ Network := ({ Nodes := [], Fibers := [] } : Network), Lights := [] } : Plan)) (H.ownAt 0 rfl) (H.ownAt 1 rfl) (H.ownAt 2 rfl), rfl⟩, mk_bool, hN⟩
theorem laws_eqStringS_ok {S : Nat → Prop} {v0_ : Value} {v1_ : Value} {a' : List ByteArray} {b' : List ByteArray} {r : Bool} (h0 : VR w0 S v0_ a') (h1 : VR w0 S v1_ b') (hF : laws_eqStringS fu a' b' = some r) :
    Calls Tryz.prog 130 [v0_, v1_].toArray w0 fun e w' => ∃ v, e = .returned v ∧ (Below w0.heap.size w0 w' ∧ VR w' (St ⟨w0, []⟩ S [] [] [] true) v r) := by
 obtain ⟨A, c, rfl, hl⟩ := VR_list h0
 obtain ⟨A2, c2, rfl, hl2⟩ := VR_list h1
 have H := Mem.start ⟨w0, []⟩ S
 have H := H.pA hl
 have H := H.pA hl2
 refine en Tryz.func130 fun a hf => ?_
 rw [laws_eqStringS] at hF
 refine sqz (pz 1 hf fun a hf => ?_)
 refine we (sqz (pz 5 hf fun a hf => ?_))
 refine wl_end (then_n (ib hF hf (fun hc hF => ?_) fun hc hF => ?_))
 ·refine sqz (pz 1 hf fun a hf => ?_)
  refine wl_end (then_n (wp_ret (then_r (?_))))
  obtain rfl := oi hF
  refine rT hf ?_
  exact ⟨_, rfl, H.bel, mk_bool⟩
 ·refine wp_skip (then_n (sq (sqz (pz 1 hf fun a hf => ?_))))
  refine wl_end (then_n ?_)
  obtain ⟨out', hB1, hF⟩ := bs_ hF
  have hf := hf.pn [0, 1, 5]
  have H := H.lt_ [] [] [] [0, 1]
  refine loopC (fun (s : Int) (a : Act) (w : World) => match s with | i => Fr a 26 [(0, (.slice A a'.length c)), (1, (.slice A2 b'.length c2)), (5, (.int .i64 i))] ∧ Mem ⟨w0, []⟩ S [] [] [] [(false, MP.val [(.slice A2 b'.length c2)] (b' : List ByteArray)), (false, MP.val [(.slice A a'.length c)] (a' : List ByteArray))] w) (fun k (s : Int) => laws_eqStringS_L1 fu a' b' k s = some out') (fun s => out' = Out.next s) 0 fu hB1 ⟨hf, H⟩ (fun s h => by cases h) ?_ ?_
  ·rintro fk i a w hR1 hI
   replace hR1 : laws_eqStringS_L1 fu a' b' (fk + 1) i = some out' := hR1
   rw [laws_eqStringS_L1] at hR1
   obtain ⟨hf, H⟩ := hI
   refine sq (sqz (pz 4 hf fun a hf => ?_))
   refine wl_end (then_n (ib hR1 hf (fun hc2 hR1 => ?_) fun hc2 hR1 => ?_))
   ·refine wp_skip (then_n (sq (wp_block (sq (dw [] 9 fun w hb => ?_)))))
    have H := H.keep hb
    refine zp 0 hf trivial fun a hf => ?_
    refine zp 1 hf trivial fun a hf => ?_
    obtain ⟨e, he, hR1⟩ := bs_ hR1
    obtain ⟨p, o, cs, hx, hr, H⟩ := pre_iaddr H Tryz.underlying22 TF.sz9 1 rfl he
    refine tP 2 rfl rfl rfl rfl hf (by kernel_rfl) (fun _ => trivial) (fun w => rq_iaddrE hf rfl rfl rfl hx w) fun a hf => ?_
    obtain rfl := hr
    refine strT (H.lt_ [] [] [] [0]) (fun w H => trivial) fun hS => ?_
    refine zS 3 [] rfl rfl rfl rfl hf hS (fun w H => rq_loadI hf H TF.ls9 0 0 rfl rfl rfl) fun a hf => ?_
    refine zp 4 hf hS fun a hf => ?_
    refine zp 5 hf hS fun a hf => ?_
    obtain ⟨e2, he2, hR1⟩ := bs_ hR1
    obtain ⟨p2, o2, cs2, hx2, hr2, H⟩ := pre_iaddr H Tryz.underlying22 TF.sz9 1 rfl he2
    refine zP 6 rfl rfl rfl rfl hf hS (fun w => rq_iaddrE hf rfl rfl rfl hx2 w) fun a hf => ?_
    obtain rfl := hr2
    refine strT (H.lt_ [] [] [] [0, 1]) (fun w H => H.lt_ [] [] [] [1]) fun hS => ?_
    refine zS 7 [] rfl rfl rfl rfl hf hS (fun w H => rq_loadI hf H TF.ls9 0 0 rfl rfl rfl) fun a hf => ?_
    refine zp 8 hf hS fun a hf => ?_
    refine dk ?_
    refine then_n (ib hR1 hf (fun hc3 hR1 => ?_) fun hc3 hR1 => ?_)
    ·refine sqz (pz 1 hf fun a hf => ?_)
     have hf := hf.pn [4]
     refine wl_end (then_n (wp_ret (blk_r (then_r (then_r (blk_r (then_r (then_r (?_)))))))))
     obtain rfl := oi hR1
     replace hF := on_ret hF
     obtain rfl := oi hF
     refine rT hf ?_
     exact ⟨_, rfl, H.bel, mk_bool⟩
    ·refine wp_skip (blk_n (then_n (reg (pz 3 hf fun a hf => ?_))))
     have hf := hf.pn [0, 1, 5]
     refine wl_end ?_
     have hf := hf.pn [0, 1, 5]
     have H := H.lt_ [] [] [] [2, 3]
     exact then_n ⟨w64 (i + 1), hR1, hf, H⟩
   ·refine wp_exit (then_x (then_x (blk_e (?_))))
    have hf := hf.pn [0, 1, 5]
    have H := H.lt_ [] [] [] [0, 1]
    exact ⟨i, (Option.some.inj hR1).symm, hf, H⟩
  rintro a w ⟨i2, rfl, hf, H⟩
  replace hF := on_next hF
  refine then_n (sqz (pz 1 hf fun a hf => ?_))
  refine wer ?_
  obtain rfl := oi hF
  refine rT hf ?_
  exact ⟨_, rfl, H.bel, mk_bool⟩
theorem laws_eqFiber_ok {S : Nat → Prop} {v0_ : Value} {v1_ : Value} {a' : Fiber} {b' : Fiber} {r : Bool} (h0 : VR w0 S v0_ a') (h1 : VR w0 S v1_ b') (hF : laws_eqFiber fu a' b' = some r) :
    Calls Tryz.prog 173 [v0_, v1_].toArray w0 fun e w' => ∃ v, e = .returned v ∧ (Below w0.heap.size w0 w' ∧ VR w' (St ⟨w0, []⟩ S [] [] [] true) v r) := by
 obtain rfl := Fiber_open h0
 obtain rfl := Fiber_open h1
 have H := Mem.start ⟨w0, []⟩ S
 refine en Tryz.func173 fun a hf => ?_
 rw [laws_eqFiber] at hF
 refine bx hf H fun b2 a w hf H => ?_
 refine wl0 rfl (op_box hf H rfl rfl (by decide) fun b3 a w hf H => ?_)
 refine pz 1 hf fun a hf => ?_
 refine we (sqz (pz 1 hf fun a hf => ?_))
 refine lB 1 hf H TF.ls3 fun a hf => ?_
 refine pz 1 hf fun a hf => ?_
 refine lB 0 hf H TF.ls3 fun a hf => ?_
 refine pz 1 hf fun a hf => ?_
 refine wl_end (then_n (ib hF hf (fun hc hF => ?_) fun hc hF => ?_))
 ·refine sqz (pz 1 hf fun a hf => ?_)
  refine wl_end (then_n (wp_ret (then_r (?_))))
  obtain rfl := oi hF
  refine rT hf ?_
  exact ⟨_, rfl, H.bel, mk_bool⟩
 ·refine wp_skip (then_n (sq (sqz (pz 1 hf fun a hf => ?_))))
  refine lB 1 hf H TF.ls3 fun a hf => ?_
  refine pz 1 hf fun a hf => ?_
  refine lB 0 hf H TF.ls3 fun a hf => ?_
  refine pz 1 hf fun a hf => ?_
  refine wl_end (then_n (ib hF hf (fun hc2 hF => ?_) fun hc2 hF => ?_))
  ·refine sqz (pz 1 hf fun a hf => ?_)
   have hf := hf.pn [4]
   refine wl_end (then_n (wp_ret (then_r (?_))))
   obtain rfl := oi hF
   refine rT hf ?_
   exact ⟨_, rfl, H.bel, mk_bool⟩
  ·refine wp_skip (then_n (sq (sqz (pz 1 hf fun a hf => ?_))))
   refine lB 1 hf H TF.ls3 fun a hf => ?_
   refine pz 1 hf fun a hf => ?_
   refine lB 0 hf H TF.ls3 fun a hf => ?_
   refine pz 1 hf fun a hf => ?_
   have hf := hf.pn [2, 3, 19]
   refine wl_end (then_n (ib hF hf (fun hc3 hF => ?_) fun hc3 hF => ?_))
   ·refine sqz (pz 1 hf fun a hf => ?_)
    refine wl_end (then_n (wp_ret (then_r (?_))))
    obtain rfl := oi hF
    refine rT hf ?_
    exact ⟨_, rfl, H.bel, mk_bool⟩
   ·refine wp_skip (then_n (sq (sqz (pz 1 hf fun a hf => ?_))))
    refine lB 1 hf H TF.ls3 fun a hf => ?_
    refine pz 1 hf fun a hf => ?_
    refine lB 0 hf H TF.ls3 fun a hf => ?_
    refine pz 1 hf fun a hf => ?_
    refine wl_end (then_n (ib hF hf (fun hc4 hF => ?_) fun hc4 hF => ?_))
    ·refine sqz (pz 1 hf fun a hf => ?_)
     refine wl_end (then_n (wp_ret (then_r (?_))))
     obtain rfl := oi hF
     refine rT hf ?_
     exact ⟨_, rfl, H.bel, mk_bool⟩
    ·refine wp_skip (then_n (sqz (pz 1 hf fun a hf => ?_)))
     refine wer ?_
     obtain rfl := oi hF
     refine rT hf ?_
     exact ⟨_, rfl, H.bel, mk_bool⟩
theorem laws_eqFiberS_ok {S : Nat → Prop} {v0_ : Value} {v1_ : Value} {a' : List Fiber} {b' : List Fiber} {r : Bool} (h0 : VR w0 S v0_ a') (h1 : VR w0 S v1_ b') (hF : laws_eqFiberS fu a' b' = some r) :
    Calls Tryz.prog 131 [v0_, v1_].toArray w0 fun e w' => ∃ v, e = .returned v ∧ (Below w0.heap.size w0 w' ∧ VR w' (St ⟨w0, []⟩ S [] [] [] true) v r) := by
 obtain ⟨A, c, rfl, hl⟩ := VR_list h0
 obtain ⟨A2, c2, rfl, hl2⟩ := VR_list h1
 have H := Mem.start ⟨w0, []⟩ S
 have H := H.pA hl
 have H := H.pA hl2
 refine en Tryz.func131 fun a hf => ?_
 rw [laws_eqFiberS] at hF
 refine sqz (pz 1 hf fun a hf => ?_)
 refine we (sqz (pz 5 hf fun a hf => ?_))
 refine wl_end (then_n (ib hF hf (fun hc hF => ?_) fun hc hF => ?_))
 ·refine sqz (pz 1 hf fun a hf => ?_)
  refine wl_end (then_n (wp_ret (then_r (?_))))
  obtain rfl := oi hF
  refine rT hf ?_
  exact ⟨_, rfl, H.bel, mk_bool⟩
 ·refine wp_skip (then_n (sq (sqz (pz 1 hf fun a hf => ?_))))
  refine wl_end (then_n ?_)
  obtain ⟨out', hB1, hF⟩ := bs_ hF
  have hf := hf.pn [0, 1, 5]
  have H := H.lt_ [] [] [] [0, 1]
  refine loopC (fun (s : Int) (a : Act) (w : World) => match s with | i => Fr a 27 [(0, (.slice A a'.length c)), (1, (.slice A2 b'.length c2)), (5, (.int .i64 i))] ∧ Mem ⟨w0, []⟩ S [] [] [] [(false, MP.val [(.slice A2 b'.length c2)] (b' : List Fiber)), (false, MP.val [(.slice A a'.length c)] (a' : List Fiber))] w) (fun k (s : Int) => laws_eqFiberS_L1 fu a' b' k s = some out') (fun s => out' = Out.next s) 0 fu hB1 ⟨hf, H⟩ (fun s h => by cases h) ?_ ?_
  ·rintro fk i a w hR1 hI
   replace hR1 : laws_eqFiberS_L1 fu a' b' (fk + 1) i = some out' := hR1
   rw [laws_eqFiberS_L1] at hR1
   obtain ⟨hf, H⟩ := hI
   refine sq (sqz (pz 4 hf fun a hf => ?_))
   refine wl_end (then_n (ib hR1 hf (fun hc2 hR1 => ?_) fun hc2 hR1 => ?_))
   ·refine wp_skip (then_n (sq (wp_block (sq (dw [] 10 fun w hb => ?_)))))
    have H := H.keep hb
    refine zp 0 hf trivial fun a hf => ?_
    refine zp 1 hf trivial fun a hf => ?_
    obtain ⟨e, he, hR1⟩ := bs_ hR1
    obtain ⟨p, o, cs, hx, hr, H⟩ := pre_iaddr H Tryz.underlying40 TF.sz164 1 rfl he
    refine tP 2 rfl rfl rfl rfl hf (by kernel_rfl) (fun _ => trivial) (fun w => rq_iaddrE hf rfl rfl rfl hx w) fun a hf => ?_
    obtain rfl := Fiber_cells hr
    refine strT (H.lt_ [] [] [] [0]) (fun w H => trivial) fun hS => ?_
    refine zS 3 [] rfl rfl rfl rfl hf hS (fun w H => rq_loadIN hf H TF.la164 0 0 rfl rfl rfl rfl) fun a hf => ?_
    refine zp 4 hf hS fun a hf => ?_
    refine zp 5 hf hS fun a hf => ?_
    obtain ⟨e2, he2, hR1⟩ := bs_ hR1
    obtain ⟨p2, o2, cs2, hx2, hr2, H⟩ := pre_iaddr H Tryz.underlying40 TF.sz164 1 rfl he2
    refine zP 6 rfl rfl rfl rfl hf hS (fun w => rq_iaddrE hf rfl rfl rfl hx2 w) fun a hf => ?_
    obtain rfl := Fiber_cells hr2
    refine strT (H.lt_ [] [] [] [0, 1]) (fun w H => H.lt_ [] [] [] [1]) fun hS => ?_
    refine zS 7 [] rfl rfl rfl rfl hf hS (fun w H => rq_loadIN hf H TF.la164 0 0 rfl rfl rfl rfl) fun a hf => ?_
    obtain ⟨y, hy, hR1⟩ := bs_ hR1
    refine nn 8 rfl (oC hf TF.cl173 (laws_eqFiber_ok (S := TT) Fiber_mkv Fiber_mkv hy) fun v w a hp hf => ?_)
    obtain ⟨hb, hp⟩ := hp
    obtain rfl := VR_bool hp
    have H := H.keep hb
    have hS := H.lt_ [] [] [] [0, 1]
    refine aS hS ?_
    refine zp 9 hf hS fun a hf => ?_
    refine dk ?_
    have hf := hf.pn [0, 1, 5, 26]
    refine then_n (ib hR1 hf (fun hc3 hR1 => ?_) fun hc3 hR1 => ?_)
    ·refine sqz (pz 1 hf fun a hf => ?_)
     refine wl_end (then_n (wp_ret (blk_r (then_r (then_r (blk_r (then_r (then_r (?_)))))))))
     obtain rfl := oi hR1
     replace hF := on_ret hF
     obtain rfl := oi hF
     refine rT hf ?_
     exact ⟨_, rfl, H.bel, mk_bool⟩
    ·refine wp_skip (blk_n (then_n (reg (pz 3 hf fun a hf => ?_))))
     refine wl_end ?_
     have hf := hf.pn [0, 1, 5]
     have H := H.lt_ [] [] [] [2, 3]
     exact then_n ⟨w64 (i + 1), hR1, hf, H⟩
   ·refine wp_exit (then_x (then_x (blk_e (?_))))
    have hf := hf.pn [0, 1, 5]
    have H := H.lt_ [] [] [] [0, 1]
    exact ⟨i, (Option.some.inj hR1).symm, hf, H⟩
  rintro a w ⟨i2, rfl, hf, H⟩
  replace hF := on_next hF
  refine then_n (sqz (pz 1 hf fun a hf => ?_))
  refine wer ?_
  obtain rfl := oi hF
  refine rT hf ?_
  exact ⟨_, rfl, H.bel, mk_bool⟩
theorem laws_eqNetwork_ok {S : Nat → Prop} {v0_ : Value} {v1_ : Value} {a' : Network} {b' : Network} {r : Bool} (h0 : VR w0 S v0_ a') (h1 : VR w0 S v1_ b') (hF : laws_eqNetwork fu a' b' = some r) :
    Calls Tryz.prog 69 [v0_, v1_].toArray w0 fun e w' => ∃ v, e = .returned v ∧ (Below w0.heap.size w0 w' ∧ VR w' (St ⟨w0, []⟩ S [] [] [] true) v r) := by
 obtain ⟨A, c, A2, c2, rfl, hl, hl2⟩ := Network_open h0
 obtain ⟨A3, c3, A4, c4, rfl, hl3, hl4⟩ := Network_open h1
 have H := Mem.start ⟨w0, []⟩ S
 have H := H.pA hl
 have H := H.pA hl2
 have H := H.pA hl3
 have H := H.pA hl4
 refine en Tryz.func69 fun a hf => ?_
 rw [laws_eqNetwork] at hF
 refine bx hf H fun b2 a w hf H => ?_
 refine wl0 rfl (op_box hf H rfl rfl (by decide) fun b3 a w hf H => ?_)
 refine pz 1 hf fun a hf => ?_
 refine we (sqz (pz 1 hf fun a hf => ?_))
 refine lB 1 hf H TF.ls22 fun a hf => ?_
 refine pz 1 hf fun a hf => ?_
 refine lB 0 hf H TF.ls22 fun a hf => ?_
 obtain ⟨y, hy, hF⟩ := bs_ hF
 refine oc hf TF.cl130 (laws_eqStringS_ok (S := TT) (mk_list (H.rt 3 rfl)) (mk_list (H.rt 1 rfl)) hy) fun v w a hp hf => ?_
 obtain ⟨hb, hp⟩ := hp
 obtain rfl := VR_bool hp
 have H := H.keep hb
 refine pz 1 hf fun a hf => ?_
 refine wl_end (then_n (ib hF hf (fun hc hF => ?_) fun hc hF => ?_))
 ·refine sqz (pz 1 hf fun a hf => ?_)
  refine wl_end (then_n (wp_ret (then_r (?_))))
  obtain rfl := oi hF
  refine rT hf ?_
  exact ⟨_, rfl, H.bel, mk_bool⟩
 ·refine wp_skip (then_n (sq (sqz (pz 1 hf fun a hf => ?_))))
  refine lB 1 hf H TF.ls40 fun a hf => ?_
  refine pz 1 hf fun a hf => ?_
  refine lB 0 hf H TF.ls40 fun a hf => ?_
  obtain ⟨y2, hy2, hF⟩ := bs_ hF
  refine oc hf TF.cl131 (laws_eqFiberS_ok (S := TT) (mk_list (H.rt 2 rfl)) (mk_list (H.rt 0 rfl)) hy2) fun v2 w a hp2 hf => ?_
  obtain ⟨hb2, hp2⟩ := hp2
  obtain rfl := VR_bool hp2
  have H := H.keep hb2
  refine pz 1 hf fun a hf => ?_
  have hf := hf.pn [16]
  refine wl_end (then_n (ib hF hf (fun hc2 hF => ?_) fun hc2 hF => ?_))
  ·refine sqz (pz 1 hf fun a hf => ?_)
   refine wl_end (then_n (wp_ret (then_r (?_))))
   obtain rfl := oi hF
   refine rT hf ?_
   exact ⟨_, rfl, H.bel, mk_bool⟩
  ·refine wp_skip (then_n (sqz (pz 1 hf fun a hf => ?_)))
   refine wer ?_
   obtain rfl := oi hF
   refine rT hf ?_
   exact ⟨_, rfl, H.bel, mk_bool⟩
theorem laws_eqIntS_ok {S : Nat → Prop} {v0_ : Value} {v1_ : Value} {a' : List Int} {b' : List Int} {r : Bool} (h0 : VR w0 S v0_ a') (h1 : VR w0 S v1_ b') (hF : laws_eqIntS fu a' b' = some r) :
    Calls Tryz.prog 174 [v0_, v1_].toArray w0 fun e w' => ∃ v, e = .returned v ∧ (Below w0.heap.size w0 w' ∧ VR w' (St ⟨w0, []⟩ S [] [] [] true) v r) := by
 obtain ⟨A, c, rfl, hl⟩ := VR_list h0
 obtain ⟨A2, c2, rfl, hl2⟩ := VR_list h1
 have H := Mem.start ⟨w0, []⟩ S
 have H := H.pA hl
 have H := H.pA hl2
 refine en Tryz.func174 fun a hf => ?_
 rw [laws_eqIntS] at hF
 refine sqz (pz 1 hf fun a hf => ?_)
 refine we (sqz (pz 5 hf fun a hf => ?_))
 refine wl_end (then_n (ib hF hf (fun hc hF => ?_) fun hc hF => ?_))
 ·refine sqz (pz 1 hf fun a hf => ?_)
  refine wl_end (then_n (wp_ret (then_r (?_))))
  obtain rfl := oi hF
  refine rT hf ?_
  exact ⟨_, rfl, H.bel, mk_bool⟩
 ·refine wp_skip (then_n (sq (sqz (pz 1 hf fun a hf => ?_))))
  refine wl_end (then_n ?_)
  obtain ⟨out', hB1, hF⟩ := bs_ hF
  have hf := hf.pn [0, 1, 5]
  have H := H.lt_ [] [] [] [0, 1]
  refine loopC (fun (s : Int) (a : Act) (w : World) => match s with | i => Fr a 26 [(0, (.slice A a'.length c)), (1, (.slice A2 b'.length c2)), (5, (.int .i64 i))] ∧ Mem ⟨w0, []⟩ S [] [] [] [(false, MP.val [(.slice A2 b'.length c2)] (b' : List Int)), (false, MP.val [(.slice A a'.length c)] (a' : List Int))] w) (fun k (s : Int) => laws_eqIntS_L1 fu a' b' k s = some out') (fun s => out' = Out.next s) 0 fu hB1 ⟨hf, H⟩ (fun s h => by cases h) ?_ ?_
  ·rintro fk i a w hR1 hI
   replace hR1 : laws_eqIntS_L1 fu a' b' (fk + 1) i = some out' := hR1
   rw [laws_eqIntS_L1] at hR1
   obtain ⟨hf, H⟩ := hI
   refine sq (sqz (pz 4 hf fun a hf => ?_))
   refine wl_end (then_n (ib hR1 hf (fun hc2 hR1 => ?_) fun hc2 hR1 => ?_))
   ·refine wp_skip (then_n (sq (wp_block (sq (dw [] 9 fun w hb => ?_)))))
    have H := H.keep hb
    refine zp 0 hf trivial fun a hf => ?_
    refine zp 1 hf trivial fun a hf => ?_
    obtain ⟨e, he, hR1⟩ := bs_ hR1
    obtain ⟨p, o, cs, hx, hr, H⟩ := pre_iaddr H Tryz.underlying29 TF.sz3 1 rfl he
    refine tP 2 rfl rfl rfl rfl hf (by kernel_rfl) (fun _ => trivial) (fun w => rq_iaddrE hf rfl rfl rfl hx w) fun a hf => ?_
    obtain rfl := hr
    refine strT (H.lt_ [] [] [] [0]) (fun w H => trivial) fun hS => ?_
    refine zS 3 [] rfl rfl rfl rfl hf hS (fun w H => rq_loadI hf H TF.ls3 0 0 rfl rfl rfl) fun a hf => ?_
    refine zp 4 hf hS fun a hf => ?_
    refine zp 5 hf hS fun a hf => ?_
    obtain ⟨e2, he2, hR1⟩ := bs_ hR1
    obtain ⟨p2, o2, cs2, hx2, hr2, H⟩ := pre_iaddr H Tryz.underlying29 TF.sz3 1 rfl he2
    refine zP 6 rfl rfl rfl rfl hf hS (fun w => rq_iaddrE hf rfl rfl rfl hx2 w) fun a hf => ?_
    obtain rfl := hr2
    refine strT (H.lt_ [] [] [] [0, 1]) (fun w H => H.lt_ [] [] [] [1]) fun hS => ?_
    refine zS 7 [] rfl rfl rfl rfl hf hS (fun w H => rq_loadI hf H TF.ls3 0 0 rfl rfl rfl) fun a hf => ?_
    refine zp 8 hf hS fun a hf => ?_
    refine dk ?_
    refine then_n (ib hR1 hf (fun hc3 hR1 => ?_) fun hc3 hR1 => ?_)
    ·refine sqz (pz 1 hf fun a hf => ?_)
     have hf := hf.pn [4]
     refine wl_end (then_n (wp_ret (blk_r (then_r (then_r (blk_r (then_r (then_r (?_)))))))))
     obtain rfl := oi hR1
     replace hF := on_ret hF
     obtain rfl := oi hF
     refine rT hf ?_
     exact ⟨_, rfl, H.bel, mk_bool⟩
    ·refine wp_skip (blk_n (then_n (reg (pz 3 hf fun a hf => ?_))))
     have hf := hf.pn [0, 1, 5]
     refine wl_end ?_
     have hf := hf.pn [0, 1, 5]
     have H := H.lt_ [] [] [] [2, 3]
     exact then_n ⟨w64 (i + 1), hR1, hf, H⟩
   ·refine wp_exit (then_x (then_x (blk_e (?_))))
    have hf := hf.pn [0, 1, 5]
    have H := H.lt_ [] [] [] [0, 1]
    exact ⟨i, (Option.some.inj hR1).symm, hf, H⟩
  rintro a w ⟨i2, rfl, hf, H⟩
  replace hF := on_next hF
  refine then_n (sqz (pz 1 hf fun a hf => ?_))
  refine wer ?_
  obtain rfl := oi hF
  refine rT hf ?_
  exact ⟨_, rfl, H.bel, mk_bool⟩
theorem laws_eqRoute_ok {S : Nat → Prop} {v0_ : Value} {v1_ : Value} {a' : Route} {b' : Route} {r : Bool} (h0 : VR w0 S v0_ a') (h1 : VR w0 S v1_ b') (hF : laws_eqRoute fu a' b' = some r) :
    Calls Tryz.prog 132 [v0_, v1_].toArray w0 fun e w' => ∃ v, e = .returned v ∧ (Below w0.heap.size w0 w' ∧ VR w' (St ⟨w0, []⟩ S [] [] [] true) v r) := by
 obtain ⟨A, c, rfl, hl⟩ := Route_open h0
 obtain ⟨A2, c2, rfl, hl2⟩ := Route_open h1
 have H := Mem.start ⟨w0, []⟩ S
 have H := H.pA hl
 have H := H.pA hl2
 refine en Tryz.func132 fun a hf => ?_
 rw [laws_eqRoute] at hF
 refine bx hf H fun b2 a w hf H => ?_
 refine wl0 rfl (op_box hf H rfl rfl (by decide) fun b3 a w hf H => ?_)
 refine pz 1 hf fun a hf => ?_
 refine we (sqz (pz 1 hf fun a hf => ?_))
 refine lB 1 hf H TF.ls3 fun a hf => ?_
 refine pz 1 hf fun a hf => ?_
 refine lB 0 hf H TF.ls3 fun a hf => ?_
 refine pz 1 hf fun a hf => ?_
 refine wl_end (then_n (ib hF hf (fun hc hF => ?_) fun hc hF => ?_))
 ·refine sqz (pz 1 hf fun a hf => ?_)
  refine wl_end (then_n (wp_ret (then_r (?_))))
  obtain rfl := oi hF
  refine rT hf ?_
  exact ⟨_, rfl, H.bel, mk_bool⟩
 ·refine wp_skip (then_n (sq (sqz (pz 1 hf fun a hf => ?_))))
  refine lB 1 hf H TF.ls29 fun a hf => ?_
  refine pz 1 hf fun a hf => ?_
  refine lB 0 hf H TF.ls29 fun a hf => ?_
  obtain ⟨y, hy, hF⟩ := bs_ hF
  refine oc hf TF.cl174 (laws_eqIntS_ok (S := TT) (mk_list (H.rt 1 rfl)) (mk_list (H.rt 0 rfl)) hy) fun v w a hp hf => ?_
  obtain ⟨hb, hp⟩ := hp
  obtain rfl := VR_bool hp
  have H := H.keep hb
  refine pz 1 hf fun a hf => ?_
  have hf := hf.pn [15]
  refine wl_end (then_n (ib hF hf (fun hc2 hF => ?_) fun hc2 hF => ?_))
  ·refine sqz (pz 1 hf fun a hf => ?_)
   refine wl_end (then_n (wp_ret (then_r (?_))))
   obtain rfl := oi hF
   refine rT hf ?_
   exact ⟨_, rfl, H.bel, mk_bool⟩
  ·refine wp_skip (then_n (sqz (pz 1 hf fun a hf => ?_)))
   refine wer ?_
   obtain rfl := oi hF
   refine rT hf ?_
   exact ⟨_, rfl, H.bel, mk_bool⟩
theorem laws_eqBlock_ok {S : Nat → Prop} {v0_ : Value} {v1_ : Value} {a' : Block} {b' : Block} {r : Bool} (h0 : VR w0 S v0_ a') (h1 : VR w0 S v1_ b') (hF : laws_eqBlock fu a' b' = some r) :
    Calls Tryz.prog 133 [v0_, v1_].toArray w0 fun e w' => ∃ v, e = .returned v ∧ (Below w0.heap.size w0 w' ∧ VR w' (St ⟨w0, []⟩ S [] [] [] true) v r) := by
 obtain rfl := Block_open h0
 obtain rfl := Block_open h1
 have H := Mem.start ⟨w0, []⟩ S
 refine en Tryz.func133 fun a hf => ?_
 rw [laws_eqBlock] at hF
 refine bx hf H fun b2 a w hf H => ?_
 refine wl0 rfl (op_box hf H rfl rfl (by decide) fun b3 a w hf H => ?_)
 refine pz 1 hf fun a hf => ?_
 refine we (sqz (pz 1 hf fun a hf => ?_))
 refine lB 1 hf H TF.ls3 fun a hf => ?_
 refine pz 1 hf fun a hf => ?_
 refine lB 0 hf H TF.ls3 fun a hf => ?_
 refine pz 1 hf fun a hf => ?_
 refine wl_end (then_n (ib hF hf (fun hc hF => ?_) fun hc hF => ?_))
 ·refine sqz (pz 1 hf fun a hf => ?_)
  refine wl_end (then_n (wp_ret (then_r (?_))))
  obtain rfl := oi hF
  refine rT hf ?_
  exact ⟨_, rfl, H.bel, mk_bool⟩
 ·refine wp_skip (then_n (sq (sqz (pz 1 hf fun a hf => ?_))))
  refine lB 1 hf H TF.ls3 fun a hf => ?_
  refine pz 1 hf fun a hf => ?_
  refine lB 0 hf H TF.ls3 fun a hf => ?_
  refine pz 1 hf fun a hf => ?_
  have hf := hf.pn [14]
  refine wl_end (then_n (ib hF hf (fun hc2 hF => ?_) fun hc2 hF => ?_))
  ·refine sqz (pz 1 hf fun a hf => ?_)
   refine wl_end (then_n (wp_ret (then_r (?_))))
   obtain rfl := oi hF
   refine rT hf ?_
   exact ⟨_, rfl, H.bel, mk_bool⟩
  ·refine wp_skip (then_n (sqz (pz 1 hf fun a hf => ?_)))
   refine wer ?_
   obtain rfl := oi hF
   refine rT hf ?_
   exact ⟨_, rfl, H.bel, mk_bool⟩
end AT
