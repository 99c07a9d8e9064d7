/- The Go functions do what is told of them, by program (gen.py). -/
import Derived.Test.YtiedecncmihbeaaGreatWFnExactRunChange0
set_option linter.unusedVariables false
set_option linter.unusedSimpArgs false
set_option maxRecDepth 100000
set_option maxHeartbeats 1000000
namespace AT
open Go Go.RowKit Go.Proofs
variable {fu : Nat} {w0 : World}
theorem laws_eqLight_ok {S : Nat → Prop} {v0_ : Value} {v1_ : Value} {a' : Light} {b' : Light} {r : Bool} (h0 : VR w0 S v0_ a') (h1 : VR w0 S v1_ b') (hF : laws_eqLight fu a' b' = some r) :
    Calls Tryz.prog 71 [v0_, v1_].toArray w0 fun e w' => ∃ v, e = .returned v ∧ (Below w0.heap.size w0 w' ∧ VR w' (St ⟨w0, []⟩ S [] [] [] true) v r) := by
 obtain ⟨A, c, rfl, hl⟩ := Light_open h0
 obtain ⟨A2, c2, rfl, hl2⟩ := Light_open h1
 have H := Mem.start ⟨w0, []⟩ S
 have H := H.pA hl
 have H := H.pA hl2
 refine en Tryz.func71 fun a hf => ?_
 rw [laws_eqLight] at hF
 refine bx hf H fun b2 a w hf H => ?_
 refine wl0 rfl (op_box hf H rfl rfl (by decide) fun b3 a w hf H => ?_)
 refine pz 1 hf fun a hf => ?_
 refine we (sqz (pz 1 hf fun a hf => ?_))
 refine lB 1 hf H TF.ls3 fun a hf => ?_
 refine pz 1 hf fun a hf => ?_
 refine lB 0 hf H TF.ls3 fun a hf => ?_
 refine pz 1 hf fun a hf => ?_
 refine wl_end (then_n (ib hF hf (fun hc hF => ?_) fun hc hF => ?_))
 ·refine sqz (pz 1 hf fun a hf => ?_)
  refine wl_end (then_n (wp_ret (then_r (?_))))
  obtain rfl := oi hF
  refine rT hf ?_
  exact ⟨_, rfl, H.bel, mk_bool⟩
 ·refine wp_skip (then_n (sq (sqz (pz 1 hf fun a hf => ?_))))
  refine lN 1 hf H TF.la49 fun a hf => ?_
  refine pz 1 hf fun a hf => ?_
  refine lN 0 hf H TF.la49 fun a hf => ?_
  obtain ⟨y, hy, hF⟩ := bs_ hF
  refine oc hf TF.cl132 (laws_eqRoute_ok (S := TT) (Route_mkv (x := a'.Route) (H.rt 1 rfl)) (Route_mkv (x := b'.Route) (H.rt 0 rfl)) hy) fun v w a hp hf => ?_
  obtain ⟨hb, hp⟩ := hp
  obtain rfl := VR_bool hp
  have H := H.keep hb
  refine pz 1 hf fun a hf => ?_
  have hf := hf.pn [2, 3, 15]
  refine wl_end (then_n (ib hF hf (fun hc2 hF => ?_) fun hc2 hF => ?_))
  ·refine sqz (pz 1 hf fun a hf => ?_)
   refine wl_end (then_n (wp_ret (then_r (?_))))
   obtain rfl := oi hF
   refine rT hf ?_
   exact ⟨_, rfl, H.bel, mk_bool⟩
  ·refine wp_skip (then_n (sq (sqz (pz 1 hf fun a hf => ?_))))
   refine lN 1 hf H TF.la50 fun a hf => ?_
   refine pz 1 hf fun a hf => ?_
   refine lN 0 hf H TF.la50 fun a hf => ?_
   obtain ⟨y2, hy2, hF⟩ := bs_ hF
   refine oc hf TF.cl133 (laws_eqBlock_ok (S := TT) Block_mkv Block_mkv hy2) fun v2 w a hp2 hf => ?_
   obtain ⟨hb2, hp2⟩ := hp2
   obtain rfl := VR_bool hp2
   have H := H.keep hb2
   refine pz 1 hf fun a hf => ?_
   refine wl_end (then_n (ib hF hf (fun hc3 hF => ?_) fun hc3 hF => ?_))
   ·refine sqz (pz 1 hf fun a hf => ?_)
    refine wl_end (then_n (wp_ret (then_r (?_))))
    obtain rfl := oi hF
    refine rT hf ?_
    exact ⟨_, rfl, H.bel, mk_bool⟩
   ·refine wp_skip (then_n (sqz (pz 1 hf fun a hf => ?_)))
    refine wer ?_
    obtain rfl := oi hF
    refine rT hf ?_
    exact ⟨_, rfl, H.bel, mk_bool⟩
theorem laws_eqLightS_ok {S : Nat → Prop} {v0_ : Value} {v1_ : Value} {a' : List Light} {b' : List Light} {r : Bool} (h0 : VR w0 S v0_ a') (h1 : VR w0 S v1_ b') (hF : laws_eqLightS fu a' b' = some r) :
    Calls Tryz.prog 70 [v0_, v1_].toArray w0 fun e w' => ∃ v, e = .returned v ∧ (Below w0.heap.size w0 w' ∧ VR w' (St ⟨w0, []⟩ S [] [] [] true) v r) := by
 obtain ⟨A, c, rfl, hl⟩ := VR_list h0
 obtain ⟨A2, c2, rfl, hl2⟩ := VR_list h1
 have H := Mem.start ⟨w0, []⟩ S
 have H := H.pA hl
 have H := H.pA hl2
 refine en Tryz.func70 fun a hf => ?_
 rw [laws_eqLightS] at hF
 refine sqz (pz 1 hf fun a hf => ?_)
 refine we (sqz (pz 5 hf fun a hf => ?_))
 refine wl_end (then_n (ib hF hf (fun hc hF => ?_) fun hc hF => ?_))
 ·refine sqz (pz 1 hf fun a hf => ?_)
  refine wl_end (then_n (wp_ret (then_r (?_))))
  obtain rfl := oi hF
  refine rT hf ?_
  exact ⟨_, rfl, H.bel, mk_bool⟩
 ·refine wp_skip (then_n (sq (sqz (pz 1 hf fun a hf => ?_))))
  refine wl_end (then_n ?_)
  obtain ⟨out', hB1, hF⟩ := bs_ hF
  have hf := hf.pn [0, 1, 5]
  have H := H.lt_ [] [] [] [0, 1]
  refine loopC (fun (s : Int) (a : Act) (w : World) => match s with | i => Fr a 27 [(0, (.slice A a'.length c)), (1, (.slice A2 b'.length c2)), (5, (.int .i64 i))] ∧ Mem ⟨w0, []⟩ S [] [] [] [(false, MP.val [(.slice A2 b'.length c2)] (b' : List Light)), (false, MP.val [(.slice A a'.length c)] (a' : List Light))] w) (fun k (s : Int) => laws_eqLightS_L1 fu a' b' k s = some out') (fun s => out' = Out.next s) 0 fu hB1 ⟨hf, H⟩ (fun s h => by cases h) ?_ ?_
  ·rintro fk i a w hR1 hI
   replace hR1 : laws_eqLightS_L1 fu a' b' (fk + 1) i = some out' := hR1
   rw [laws_eqLightS_L1] at hR1
   obtain ⟨hf, H⟩ := hI
   refine sq (sqz (pz 4 hf fun a hf => ?_))
   refine wl_end (then_n (ib hR1 hf (fun hc2 hR1 => ?_) fun hc2 hR1 => ?_))
   ·refine wp_skip (then_n (sq (wp_block (sq (dw [] 10 fun w hb => ?_)))))
    have H := H.keep hb
    refine zp 0 hf trivial fun a hf => ?_
    refine zp 1 hf trivial fun a hf => ?_
    obtain ⟨e, he, hR1⟩ := bs_ hR1
    obtain ⟨p, o, cs, hx, hr, H⟩ := pre_iaddr H Tryz.underlying43 TF.sz52 1 rfl he
    refine tP 2 rfl rfl rfl rfl hf (by kernel_rfl) (fun _ => trivial) (fun w => rq_iaddrE hf rfl rfl rfl hx w) fun a hf => ?_
    obtain ⟨A3, c3, rfl, hl3⟩ := Light_cells hr
    have H := H.pF hl3
    refine strT (H.lt_ [] [] [] [1]) (fun w H => trivial) fun hS => ?_
    refine zS 3 [] rfl rfl rfl rfl hf hS (fun w H => rq_loadIN hf H TF.la52 0 0 rfl rfl rfl rfl) fun a hf => ?_
    refine zp 4 hf hS fun a hf => ?_
    refine zp 5 hf hS fun a hf => ?_
    obtain ⟨e2, he2, hR1⟩ := bs_ hR1
    obtain ⟨p2, o2, cs2, hx2, hr2, H⟩ := pre_iaddr H Tryz.underlying43 TF.sz52 2 rfl he2
    refine zP 6 rfl rfl rfl rfl hf hS (fun w => rq_iaddrE hf rfl rfl rfl hx2 w) fun a hf => ?_
    obtain ⟨A4, c4, rfl, hl4⟩ := Light_cells hr2
    have H := H.pF hl4
    refine strT (H.lt_ [] [] [] [1, 3]) (fun w H => H.lt_ [] [] [] [1]) fun hS => ?_
    refine zS 7 [] rfl rfl rfl rfl hf hS (fun w H => rq_loadIN hf H TF.la52 0 0 rfl rfl rfl rfl) fun a hf => ?_
    obtain ⟨y, hy, hR1⟩ := bs_ hR1
    refine nn 8 rfl (oC hf TF.cl71 (laws_eqLight_ok (S := TT) (Light_mkv (x := e) (H.rt 2 rfl)) (Light_mkv (x := e2) (H.rt 0 rfl)) hy) fun v w a hp hf => ?_)
    obtain ⟨hb, hp⟩ := hp
    obtain rfl := VR_bool hp
    have H := H.keep hb
    have hS := H.lt_ [] [] [] [1, 3]
    refine aS hS ?_
    refine zp 9 hf hS fun a hf => ?_
    refine dk ?_
    have hf := hf.pn [0, 1, 5, 26]
    refine then_n (ib hR1 hf (fun hc3 hR1 => ?_) fun hc3 hR1 => ?_)
    ·refine sqz (pz 1 hf fun a hf => ?_)
     refine wl_end (then_n (wp_ret (blk_r (then_r (then_r (blk_r (then_r (then_r (?_)))))))))
     obtain rfl := oi hR1
     replace hF := on_ret hF
     obtain rfl := oi hF
     refine rT hf ?_
     exact ⟨_, rfl, H.bel, mk_bool⟩
    ·refine wp_skip (blk_n (then_n (reg (pz 3 hf fun a hf => ?_))))
     refine wl_end ?_
     have hf := hf.pn [0, 1, 5]
     have H := H.lt_ [] [] [] [4, 5]
     exact then_n ⟨w64 (i + 1), hR1, hf, H⟩
   ·refine wp_exit (then_x (then_x (blk_e (?_))))
    have hf := hf.pn [0, 1, 5]
    have H := H.lt_ [] [] [] [0, 1]
    exact ⟨i, (Option.some.inj hR1).symm, hf, H⟩
  rintro a w ⟨i2, rfl, hf, H⟩
  replace hF := on_next hF
  refine then_n (sqz (pz 1 hf fun a hf => ?_))
  refine wer ?_
  obtain rfl := oi hF
  refine rT hf ?_
  exact ⟨_, rfl, H.bel, mk_bool⟩
theorem laws_eqPlan_ok {S : Nat → Prop} {v0_ : Value} {v1_ : Value} {a' : Plan} {b' : Plan} {r : Bool} (h0 : VR w0 S v0_ a') (h1 : VR w0 S v1_ b') (hF : laws_eqPlan fu a' b' = some r) :
    Calls Tryz.prog 17 [v0_, v1_].toArray w0 fun e w' => ∃ v, e = .returned v ∧ (Below w0.heap.size w0 w' ∧ VR w' (St ⟨w0, []⟩ S [] [] [] true) v r) := by
 obtain ⟨A, c, A2, c2, A3, c3, rfl, hl, hl2, hl3⟩ := Plan_open h0
 obtain ⟨A4, c4, A5, c5, A6, c6, rfl, hl4, hl5, hl6⟩ := Plan_open h1
 have H := Mem.start ⟨w0, []⟩ S
 have H := H.pA hl
 have H := H.pA hl2
 have H := H.pA hl3
 have H := H.pA hl4
 have H := H.pA hl5
 have H := H.pA hl6
 refine en Tryz.func17 fun a hf => ?_
 rw [laws_eqPlan] at hF
 refine bx hf H fun b2 a w hf H => ?_
 refine wl0 rfl (op_box hf H rfl rfl (by decide) fun b3 a w hf H => ?_)
 refine pz 1 hf fun a hf => ?_
 refine we (sqz (pz 1 hf fun a hf => ?_))
 refine lN 1 hf H TF.la42 fun a hf => ?_
 refine pz 1 hf fun a hf => ?_
 refine lN 0 hf H TF.la42 fun a hf => ?_
 obtain ⟨y, hy, hF⟩ := bs_ hF
 refine oc hf TF.cl69 (laws_eqNetwork_ok (S := TT) (Network_mkv (x := a'.Network) (H.rt 5 rfl) (H.rt 4 rfl)) (Network_mkv (x := b'.Network) (H.rt 2 rfl) (H.rt 1 rfl)) hy) fun v w a hp hf => ?_
 obtain ⟨hb, hp⟩ := hp
 obtain rfl := VR_bool hp
 have H := H.keep hb
 refine pz 1 hf fun a hf => ?_
 refine wl_end (then_n (ib hF hf (fun hc hF => ?_) fun hc hF => ?_))
 ·refine sqz (pz 1 hf fun a hf => ?_)
  refine wl_end (then_n (wp_ret (then_r (?_))))
  obtain rfl := oi hF
  refine rT hf ?_
  exact ⟨_, rfl, H.bel, mk_bool⟩
 ·refine wp_skip (then_n (sq (sqz (pz 1 hf fun a hf => ?_))))
  refine lB 1 hf H TF.ls43 fun a hf => ?_
  refine pz 1 hf fun a hf => ?_
  refine lB 0 hf H TF.ls43 fun a hf => ?_
  obtain ⟨y2, hy2, hF⟩ := bs_ hF
  refine oc hf TF.cl70 (laws_eqLightS_ok (S := TT) (mk_list (H.rt 3 rfl)) (mk_list (H.rt 0 rfl)) hy2) fun v2 w a hp2 hf => ?_
  obtain ⟨hb2, hp2⟩ := hp2
  obtain rfl := VR_bool hp2
  have H := H.keep hb2
  refine pz 1 hf fun a hf => ?_
  have hf := hf.pn [16]
  refine wl_end (then_n (ib hF hf (fun hc2 hF => ?_) fun hc2 hF => ?_))
  ·refine sqz (pz 1 hf fun a hf => ?_)
   refine wl_end (then_n (wp_ret (then_r (?_))))
   obtain rfl := oi hF
   refine rT hf ?_
   exact ⟨_, rfl, H.bel, mk_bool⟩
  ·refine wp_skip (then_n (sqz (pz 1 hf fun a hf => ?_)))
   refine wer ?_
   obtain rfl := oi hF
   refine rT hf ?_
   exact ⟨_, rfl, H.bel, mk_bool⟩
theorem laws_eqAction_ok {S : Nat → Prop} {v0_ : Value} {v1_ : Value} {a' : Action} {b' : Action} {r : Bool} (h0 : VR w0 S v0_ a') (h1 : VR w0 S v1_ b') (hF : laws_eqAction fu a' b' = some r) :
    Calls Tryz.prog 18 [v0_, v1_].toArray w0 fun e w' => ∃ v, e = .returned v ∧ (Below w0.heap.size w0 w' ∧ VR w' (St ⟨w0, []⟩ S [] [] [] true) v r) := by
 obtain ⟨A, c, rfl, hl⟩ := Action_open h0
 obtain ⟨A2, c2, rfl, hl2⟩ := Action_open h1
 have H := Mem.start ⟨w0, []⟩ S
 have H := H.pA hl
 have H := H.pA hl2
 refine en Tryz.func18 fun a hf => ?_
 rw [laws_eqAction] at hF
 refine bx hf H fun b2 a w hf H => ?_
 refine wl0 rfl (op_box hf H rfl rfl (by decide) fun b3 a w hf H => ?_)
 refine pz 1 hf fun a hf => ?_
 refine we (sqz (pz 1 hf fun a hf => ?_))
 refine lB 1 hf H TF.ls3 fun a hf => ?_
 refine pz 1 hf fun a hf => ?_
 refine lB 0 hf H TF.ls3 fun a hf => ?_
 refine pz 1 hf fun a hf => ?_
 refine wl_end (then_n (ib hF hf (fun hc hF => ?_) fun hc hF => ?_))
 ·refine sqz (pz 1 hf fun a hf => ?_)
  refine wl_end (then_n (wp_ret (then_r (?_))))
  obtain rfl := oi hF
  refine rT hf ?_
  exact ⟨_, rfl, H.bel, mk_bool⟩
 ·refine wp_skip (then_n (sq (sqz (pz 1 hf fun a hf => ?_))))
  refine lN 1 hf H TF.la52 fun a hf => ?_
  refine pz 1 hf fun a hf => ?_
  refine lN 0 hf H TF.la52 fun a hf => ?_
  obtain ⟨y, hy, hF⟩ := bs_ hF
  refine oc hf TF.cl71 (laws_eqLight_ok (S := TT) (Light_mkv (x := a'.Light) (H.rt 1 rfl)) (Light_mkv (x := b'.Light) (H.rt 0 rfl)) hy) fun v w a hp hf => ?_
  obtain ⟨hb, hp⟩ := hp
  obtain rfl := VR_bool hp
  have H := H.keep hb
  refine pz 1 hf fun a hf => ?_
  have hf := hf.pn [15]
  refine wl_end (then_n (ib hF hf (fun hc2 hF => ?_) fun hc2 hF => ?_))
  ·refine sqz (pz 1 hf fun a hf => ?_)
   refine wl_end (then_n (wp_ret (then_r (?_))))
   obtain rfl := oi hF
   refine rT hf ?_
   exact ⟨_, rfl, H.bel, mk_bool⟩
  ·refine wp_skip (then_n (sqz (pz 1 hf fun a hf => ?_)))
   refine wer ?_
   obtain rfl := oi hF
   refine rT hf ?_
   exact ⟨_, rfl, H.bel, mk_bool⟩
theorem laws_markText_ok {S : Nat → Prop} {v0_ : Value} {k' : Int} {r : ByteArray} (h0 : VR w0 S v0_ k') (hF : laws_markText fu k' = some r) :
    Calls Tryz.prog 175 [v0_].toArray w0 fun e w' => ∃ v, e = .returned v ∧ (Below w0.heap.size w0 w' ∧ VR w' (St ⟨w0, []⟩ S [] [] [] true) v r) := by
 obtain rfl := VR_int h0
 have H := Mem.start ⟨w0, []⟩ S
 refine en Tryz.func175 fun a hf => ?_
 rw [laws_markText] at hF
 refine sqz (pz 1 hf fun a hf => ?_)
 refine we (sqz (pz 2 hf fun a hf => ?_))
 refine wl_end (then_n (ib hF hf (fun hc hF => ?_) fun hc hF => ?_))
 ·refine sqz (pz 1 hf fun a hf => ?_)
  refine wl_end (then_n (wp_ret (then_r (?_))))
  obtain rfl := oi hF
  refine rT hf ?_
  exact ⟨_, rfl, H.bel, mk_str⟩
 ·refine wp_skip (then_n (sqz (pz 1 hf fun a hf => ?_)))
  refine wl_end (then_n (sq ?_))
  obtain ⟨out2, hB1, hF⟩ := bs_ hF
  have hf := hf.pn [0, 3]
  have H := H.lt_ [] [] [] []
  refine loopC (fun (s : Int × ByteArray) (a : Act) (w : World) => match s with | (k2, out') => Fr a 20 [(0, (.int .i64 k2)), (3, (.string out'))] ∧ Mem ⟨w0, []⟩ S [] [] [] [] w) (fun k (s : Int × ByteArray) => laws_markText_L1 fu k s.1 s.2 = some out2) (fun s => out2 = s) (k', ByteArray.empty) fu hB1 ⟨hf, H⟩ (fun s h => by cases h) ?_ ?_
  ·rintro fk ⟨k2, out'⟩ a w hR1 hI
   replace hR1 : laws_markText_L1 fu (fk + 1) k2 out' = some out2 := hR1
   rw [laws_markText_L1] at hR1
   obtain ⟨hf, H⟩ := hI
   refine sq (sqz (pz 2 hf fun a hf => ?_))
   refine wl_end (then_n (ib hR1 hf (fun hc2 hR1 => ?_) fun hc2 hR1 => ?_))
   ·refine wp_skip (then_n (wp_block (sqz (pz 1 hf fun a hf => ?_))))
    obtain ⟨q, hq, hR1⟩ := bs_ hR1
    refine oq hf (rq_rem hf rfl rfl hq) fun a hf => ?_
    refine pz 1 hf fun a hf => ?_
    refine oq hf (rq_conv u8w Tryz.underlying3 Tryz.underlying5 hf rfl) fun a hf => ?_
    refine wl0 rfl (bl hf H 5 ([(⟨wu8 (w64 (48 + q))⟩ : By)] : List By) [(.int .u8 (wu8 (w64 (48 + q))))] (el1 (y := (⟨wu8 (w64 (48 + q))⟩ : By)) (rfl)) fun A a w hf H => ?_)
    refine oq hf (rq_convBS Tryz.underlying85 Tryz.underlying5 Tryz.underlying9 hf rfl (H.rowTrue 0 rfl)) fun a hf => ?_
    refine pz 1 hf fun a hf => ?_
    obtain ⟨s', hs', hR1⟩ := bs_ hR1
    refine oq hf (rq_scat hf rfl rfl hs') fun a hf => ?_
    refine pz 1 hf fun a hf => ?_
    refine wl_end (then_n (reg (pz 1 hf fun a hf => ?_)))
    obtain ⟨q2, hq2, hR1⟩ := bs_ hR1
    refine oq hf (rq_quo hf rfl rfl hq2) fun a hf => ?_
    refine pz 1 hf fun a hf => ?_
    refine wl_end (blk_n ?_)
    have hf := hf.pn [0, 3]
    have H := H.lt_ [] [false] [] []
    exact then_n ⟨(q2, s'), hR1, hf, H⟩
   ·refine wp_exit (then_x (then_x (blk_e (?_))))
    have hf := hf.pn [0, 3]
    have H := H.lt_ [] [] [] []
    exact ⟨(k2, out'), (Option.some.inj hR1).symm, hf, H⟩
  rintro a w ⟨⟨k3, out3⟩, rfl, hf, H⟩
  try dsimp only at hF
  refine then_n (sqz (pz 1 hf fun a hf => ?_))
  obtain ⟨s2, hs2, hF⟩ := bs_ hF
  refine oq hf (rq_scat hf rfl rfl hs2) fun a hf => ?_
  refine pz 1 hf fun a hf => ?_
  refine wer ?_
  obtain rfl := oi hF
  refine rT hf ?_
  exact ⟨_, rfl, H.bel, mk_str⟩
theorem laws_markStringS_ok {S : Nat → Prop} {F : List Nat} {cs : List Value} {v1_ : Value} {a' : List ByteArray} {k' : Int} {r : Int × List ByteArray} (hO : GoTy.own w0 F cs a') (hn : F.Nodup) (h1 : VR w0 S v1_ k') (hF : laws_markStringS fu a' k' = some r) :
    Calls Tryz.prog 134 [(bif GoTy.agg (List ByteArray) then .agg cs.toArray else cs.headD undef), v1_].toArray w0 fun e w' => ∃ v, e = .returned v ∧ (Chg w0 w' F ∧ VR w' (fun _ => True) v r.1 ∧ ∃ F', GoTy.own w' F' cs r.2 ∧ Back w0 w' F F') := by
 obtain rfl := VR_int h1
 obtain ⟨A, c, rfl, hO⟩ := own_list hO
 have H := Mem.startG S hO hn
 obtain ⟨Fs, E, H, -⟩ := H.thaw rfl
 have H := H.rowSh 0 rfl
 refine en Tryz.func134 fun a hf => ?_
 rw [laws_markStringS] at hF
 refine sqz (pz 1 hf fun a hf => ?_)
 refine we (sqz (pz 1 hf fun a hf => ?_))
 refine wl_end (then_n ?_)
 obtain ⟨out', hB1, hF⟩ := bs_ hF
 have hf := hf.pn [0, 1, 5]
 have hf : Fr a 20 [(0, (.slice A a'.length c)), (1, (.int .i64 k')), (5, (.int .i64 0))] := by first | exact hf | (simp only [List.length_set] at hf; exact hf)
 have H := H.lt_ [] [true] [] []
 refine loopC (fun (s : List ByteArray × Int × Int) (a : Act) (w : World) => match s with | (a2, k2, i) => a2.length = a'.length ∧ Fr a 20 [(0, (.slice A a'.length c)), (1, (.int .i64 k2)), (5, (.int .i64 i))] ∧ Mem ⟨w0, F⟩ S [] [⟨.sh true, E, A, c, (a2 : List ByteArray)⟩] [] [] w) (fun k (s : List ByteArray × Int × Int) => laws_markStringS_L1 fu k s.1 s.2.1 s.2.2 = some out') (fun s => out' = s) (a', k', 0) fu hB1 ⟨rfl, hf, H⟩ (fun s h => by cases h) ?_ ?_
 ·rintro fk ⟨a2, k2, i⟩ a w hR1 hI
  replace hR1 : laws_markStringS_L1 fu (fk + 1) a2 k2 i = some out' := hR1
  rw [laws_markStringS_L1] at hR1
  obtain ⟨hlen, hf, H⟩ := hI
  have hf : Fr a 20 [(0, (.slice A a2.length c)), (1, (.int .i64 k2)), (5, (.int .i64 i))] := by rw [hlen]; exact hf
  refine sq (sqz (pz 4 hf fun a hf => ?_))
  refine wl_end (then_n (ib hR1 hf (fun hc hR1 => ?_) fun hc hR1 => ?_))
  ·refine ws (pz 3 hf fun a hf => ?_)
   obtain ⟨y, hy, hR1⟩ := bs_ hR1
   refine oc hf TF.cl175 (laws_markText_ok (S := TT) mk_int hy) fun v w a hp hf => ?_
   obtain ⟨hb, hp⟩ := hp
   obtain rfl := VR_str hp
   have H := H.keep hb
   obtain ⟨e, he, hR1⟩ := bs_ hR1
   refine wl0 rfl (op_iaddrR hf H Tryz.underlying22 TF.sz9 0 rfl rfl rfl he (by decide) fun p o cs a hf hA hr hk => ?_)
   obtain rfl := hr
   refine wl0 rfl (op_storeR (e' := y) (o := o) (off := 0) hf H TF.sz9 0 rfl rfl rfl rfl rfl (nle rfl) rfl hA he (st_full rfl) fun w H => ?_)
   replace hf : Fr a 20 [(0, (.slice A a2.length c)), (1, (.int .i64 k2)), (5, (.int .i64 i)), (12, (.slice A a2.length c)), (13, (.int .i64 i)), (14, (.int .i64 k2)), (15, (.string y)), (16, (.pointer (some ⟨p, o + 0, none⟩)))] := hf.prune [0, 1, 5, 12, 13, 14, 15, 16] rfl
   replace hf : Fr a 20 [(0, (.slice A (a2.set (i : Int).toNat y).length c)), (1, (.int .i64 k2)), (5, (.int .i64 i)), (12, (.slice A (a2.set (i : Int).toNat y).length c)), (13, (.int .i64 i)), (14, (.int .i64 k2)), (15, (.string y)), (16, (.pointer (some ⟨p, o + 0, none⟩)))] := by simpa only [List.length_set, Nat.add_zero] using hf
   refine wl_end (then_n (reg (pz 3 hf fun a hf => ?_)))
   refine wl_end (blk_n (then_n (reg (pz 3 hf fun a hf => ?_))))
   refine wl_end ?_
   have hf := hf.pn [0, 1, 5]
   have hf : Fr a 20 [(0, (.slice A a'.length c)), (1, (.int .i64 (w64 (k2 + 1)))), (5, (.int .i64 (w64 (i + 1))))] := by first | exact hf | (simp only [List.length_set, hlen] at hf; exact hf)
   have H := H.lt_ [] [true] [] []
   exact then_n ⟨(a2.set (i : Int).toNat y, w64 (k2 + 1), w64 (i + 1)), hR1, (by simp only [List.length_set, hlen]), hf, H⟩
  ·refine wp_exit (then_x (then_x (blk_e (?_))))
   have hf := hf.pn [0, 1, 5]
   have hf : Fr a 20 [(0, (.slice A a'.length c)), (1, (.int .i64 k2)), (5, (.int .i64 i))] := by first | exact hf | (simp only [List.length_set, hlen] at hf; exact hf)
   have H := H.lt_ [] [true] [] []
   exact ⟨(a2, k2, i), (Option.some.inj hR1).symm, (by simp only [List.length_set, hlen]), hf, H⟩
 rintro a w ⟨⟨a3, k3, i2⟩, rfl, hlen, hf, H⟩
 try dsimp only at hlen
 have hf : Fr a 20 [(0, (.slice A a3.length c)), (1, (.int .i64 k3)), (5, (.int .i64 i2))] := by rw [hlen]; exact hf
 try dsimp only at hF
 refine then_n (sqz (pz 2 hf fun a hf => ?_))
 refine wer ?_
 have H := H.rowOwn 0 rfl rfl
 obtain ⟨F', H⟩ := H.freezeOwn 0 rfl
 rw [hlen] at H
 obtain rfl := oi hF
 refine rT hf ?_
 exact ⟨_, rfl, H.chg, mk_int, _, H.ownAt 0 rfl, H.back⟩
theorem laws_markFiberS_ok {S : Nat → Prop} {F : List Nat} {cs : List Value} {v1_ : Value} {a' : List Fiber} {k' : Int} {r : Int × List Fiber} (hO : GoTy.own w0 F cs a') (hn : F.Nodup) (h1 : VR w0 S v1_ k') (hF : laws_markFiberS fu a' k' = some r) :
    Calls Tryz.prog 135 [(bif GoTy.agg (List Fiber) then .agg cs.toArray else cs.headD undef), v1_].toArray w0 fun e w' => ∃ v, e = .returned v ∧ (Chg w0 w' F ∧ VR w' (fun _ => True) v r.1 ∧ ∃ F', GoTy.own w' F' cs r.2 ∧ Back w0 w' F F') := by
 obtain rfl := VR_int h1
 obtain ⟨A, c, rfl, hO⟩ := own_list hO
 have H := Mem.startG S hO hn
 obtain ⟨Fs, E, H, -⟩ := H.thaw rfl
 have H := H.rowSh 0 rfl
 refine en Tryz.func135 fun a hf => ?_
 rw [laws_markFiberS] at hF
 refine sqz (pz 1 hf fun a hf => ?_)
 refine we (sqz (pz 1 hf fun a hf => ?_))
 refine wl_end (then_n ?_)
 obtain ⟨out', hB1, hF⟩ := bs_ hF
 have hf := hf.pn [0, 1, 5]
 have hf : Fr a 41 [(0, (.slice A a'.length c)), (1, (.int .i64 k')), (5, (.int .i64 0))] := by first | exact hf | (simp only [List.length_set] at hf; exact hf)
 have H := H.lt_ [] [true] [] []
 refine loopC (fun (s : List Fiber × Int × Int) (a : Act) (w : World) => match s with | (a2, k2, i) => a2.length = a'.length ∧ Fr a 41 [(0, (.slice A a'.length c)), (1, (.int .i64 k2)), (5, (.int .i64 i))] ∧ Mem ⟨w0, F⟩ S [] [⟨.sh true, E, A, c, (a2 : List Fiber)⟩] [] [] w) (fun k (s : List Fiber × Int × Int) => laws_markFiberS_L1 fu k s.1 s.2.1 s.2.2 = some out') (fun s => out' = s) (a', k', 0) fu hB1 ⟨rfl, hf, H⟩ (fun s h => by cases h) ?_ ?_
 ·rintro fk ⟨a2, k2, i⟩ a w hR1 hI
  replace hR1 : laws_markFiberS_L1 fu (fk + 1) a2 k2 i = some out' := hR1
  rw [laws_markFiberS_L1] at hR1
  obtain ⟨hlen, hf, H⟩ := hI
  have hf : Fr a 41 [(0, (.slice A a2.length c)), (1, (.int .i64 k2)), (5, (.int .i64 i))] := by rw [hlen]; exact hf
  refine sq (sqz (pz 4 hf fun a hf => ?_))
  refine wl_end (then_n (ib hR1 hf (fun hc hR1 => ?_) fun hc hR1 => ?_))
  ·refine ws (pz 3 hf fun a hf => ?_)
   obtain ⟨e, he, hR1⟩ := bs_ hR1
   refine wl0 rfl (op_iaddrR hf H Tryz.underlying40 TF.sz164 0 rfl rfl rfl he (by decide) fun p o cs a hf hA hr hk => ?_)
   obtain rfl := Fiber_cells hr
   refine pz 1 hf fun a hf => ?_
   refine wl0 rfl (op_storeR (e' := ({ A := k2, B := e.B, Length := e.Length, Risk := e.Risk } : Fiber)) (o := o) (off := 0) hf H TF.sz3 0 rfl rfl rfl rfl rfl (nle rfl) rfl hA he (fun cs h => by obtain rfl := Fiber_cells h; exact Fiber_mk (x := ({ A := k2, B := e.B, Length := e.Length, Risk := e.Risk } : Fiber))) fun w H => ?_)
   replace hf : Fr a 41 [(0, (.slice A a2.length c)), (1, (.int .i64 k2)), (5, (.int .i64 i)), (12, (.slice A a2.length c)), (13, (.int .i64 i)), (14, (.int .i64 k2)), (15, (.pointer (some ⟨p, o + 0, none⟩))), (16, (.pointer (some ⟨p, o + 0, none⟩)))] := hf.prune [0, 1, 5, 12, 13, 14, 15, 16] rfl
   replace hf : Fr a 41 [(0, (.slice A (a2.set (i : Int).toNat ({ A := k2, B := e.B, Length := e.Length, Risk := e.Risk } : Fiber)).length c)), (1, (.int .i64 k2)), (5, (.int .i64 i)), (12, (.slice A (a2.set (i : Int).toNat ({ A := k2, B := e.B, Length := e.Length, Risk := e.Risk } : Fiber)).length c)), (13, (.int .i64 i)), (14, (.int .i64 k2)), (15, (.pointer (some ⟨p, o + 0, none⟩))), (16, (.pointer (some ⟨p, o + 0, none⟩)))] := by simpa only [List.length_set, Nat.add_zero] using hf
   refine wr (pz 3 hf fun a hf => ?_)
   refine wr (pz 3 hf fun a hf => ?_)
   obtain ⟨e2, he2, hR1⟩ := bs_ hR1
   refine wl0 rfl (op_iaddrR hf H Tryz.underlying40 TF.sz164 0 rfl rfl rfl he2 (by decide) fun p2 o2 cs2 a hf hA2 hr2 hk2 => ?_)
   obtain rfl := Fiber_cells hr2
   refine pz 1 hf fun a hf => ?_
   refine wl0 rfl (op_storeR (e' := ({ A := e2.A, B := w64 (k2 + 1), Length := e2.Length, Risk := e2.Risk } : Fiber)) (o := o2) (off := 1) hf H TF.sz3 0 rfl rfl rfl rfl rfl (nle rfl) rfl hA2 he2 (fun cs h => by obtain rfl := Fiber_cells h; exact Fiber_mk (x := ({ A := e2.A, B := w64 (k2 + 1), Length := e2.Length, Risk := e2.Risk } : Fiber))) fun w H => ?_)
   replace hf : Fr a 41 [(0, (.slice A (a2.set (i : Int).toNat ({ A := k2, B := e.B, Length := e.Length, Risk := e.Risk } : Fiber)).length c)), (1, (.int .i64 (w64 (k2 + 1)))), (5, (.int .i64 i)), (19, (.slice A (a2.set (i : Int).toNat ({ A := k2, B := e.B, Length := e.Length, Risk := e.Risk } : Fiber)).length c)), (20, (.int .i64 i)), (21, (.int .i64 (w64 (k2 + 1)))), (22, (.pointer (some ⟨p2, o2 + 0, none⟩))), (23, (.pointer (some ⟨p2, o2 + 1, none⟩)))] := hf.prune [0, 1, 5, 19, 20, 21, 22, 23] rfl
   replace hf : Fr a 41 [(0, (.slice A ((a2.set (i : Int).toNat ({ A := k2, B := e.B, Length := e.Length, Risk := e.Risk } : Fiber)).set (i : Int).toNat ({ A := e2.A, B := w64 (k2 + 1), Length := e2.Length, Risk := e2.Risk } : Fiber)).length c)), (1, (.int .i64 (w64 (k2 + 1)))), (5, (.int .i64 i)), (19, (.slice A ((a2.set (i : Int).toNat ({ A := k2, B := e.B, Length := e.Length, Risk := e.Risk } : Fiber)).set (i : Int).toNat ({ A := e2.A, B := w64 (k2 + 1), Length := e2.Length, Risk := e2.Risk } : Fiber)).length c)), (20, (.int .i64 i)), (21, (.int .i64 (w64 (k2 + 1)))), (22, (.pointer (some ⟨p2, o2 + 0, none⟩))), (23, (.pointer (some ⟨p2, o2 + 1, none⟩)))] := by simpa only [List.length_set, Nat.add_zero] using hf
   refine wr (pz 3 hf fun a hf => ?_)
   refine wr (pz 3 hf fun a hf => ?_)
   obtain ⟨e3, he3, hR1⟩ := bs_ hR1
   refine wl0 rfl (op_iaddrR hf H Tryz.underlying40 TF.sz164 0 rfl rfl rfl he3 (by decide) fun p3 o3 cs3 a hf hA3 hr3 hk3 => ?_)
   obtain rfl := Fiber_cells hr3
   refine pz 1 hf fun a hf => ?_
   refine wl0 rfl (op_storeR (e' := ({ A := e3.A, B := e3.B, Length := w64 ((w64 (k2 + 1)) + 1), Risk := e3.Risk } : Fiber)) (o := o3) (off := 2) hf H TF.sz3 0 rfl rfl rfl rfl rfl (nle rfl) rfl hA3 he3 (fun cs h => by obtain rfl := Fiber_cells h; exact Fiber_mk (x := ({ A := e3.A, B := e3.B, Length := w64 ((w64 (k2 + 1)) + 1), Risk := e3.Risk } : Fiber))) fun w H => ?_)
   replace hf : Fr a 41 [(0, (.slice A ((a2.set (i : Int).toNat ({ A := k2, B := e.B, Length := e.Length, Risk := e.Risk } : Fiber)).set (i : Int).toNat ({ A := e2.A, B := w64 (k2 + 1), Length := e2.Length, Risk := e2.Risk } : Fiber)).length c)), (1, (.int .i64 (w64 ((w64 (k2 + 1)) + 1)))), (5, (.int .i64 i)), (26, (.slice A ((a2.set (i : Int).toNat ({ A := k2, B := e.B, Length := e.Length, Risk := e.Risk } : Fiber)).set (i : Int).toNat ({ A := e2.A, B := w64 (k2 + 1), Length := e2.Length, Risk := e2.Risk } : Fiber)).length c)), (27, (.int .i64 i)), (28, (.int .i64 (w64 ((w64 (k2 + 1)) + 1)))), (29, (.pointer (some ⟨p3, o3 + 0, none⟩))), (30, (.pointer (some ⟨p3, o3 + 2, none⟩)))] := hf.prune [0, 1, 5, 26, 27, 28, 29, 30] rfl
   replace hf : Fr a 41 [(0, (.slice A (((a2.set (i : Int).toNat ({ A := k2, B := e.B, Length := e.Length, Risk := e.Risk } : Fiber)).set (i : Int).toNat ({ A := e2.A, B := w64 (k2 + 1), Length := e2.Length, Risk := e2.Risk } : Fiber)).set (i : Int).toNat ({ A := e3.A, B := e3.B, Length := w64 ((w64 (k2 + 1)) + 1), Risk := e3.Risk } : Fiber)).length c)), (1, (.int .i64 (w64 ((w64 (k2 + 1)) + 1)))), (5, (.int .i64 i)), (26, (.slice A (((a2.set (i : Int).toNat ({ A := k2, B := e.B, Length := e.Length, Risk := e.Risk } : Fiber)).set (i : Int).toNat ({ A := e2.A, B := w64 (k2 + 1), Length := e2.Length, Risk := e2.Risk } : Fiber)).set (i : Int).toNat ({ A := e3.A, B := e3.B, Length := w64 ((w64 (k2 + 1)) + 1), Risk := e3.Risk } : Fiber)).length c)), (27, (.int .i64 i)), (28, (.int .i64 (w64 ((w64 (k2 + 1)) + 1)))), (29, (.pointer (some ⟨p3, o3 + 0, none⟩))), (30, (.pointer (some ⟨p3, o3 + 2, none⟩)))] := by simpa only [List.length_set, Nat.add_zero] using hf
   refine wr (pz 3 hf fun a hf => ?_)
   refine wr (pz 3 hf fun a hf => ?_)
   obtain ⟨e4, he4, hR1⟩ := bs_ hR1
   refine wl0 rfl (op_iaddrR hf H Tryz.underlying40 TF.sz164 0 rfl rfl rfl he4 (by decide) fun p4 o4 cs4 a hf hA4 hr4 hk4 => ?_)
   obtain rfl := Fiber_cells hr4
   refine pz 1 hf fun a hf => ?_
   refine wl0 rfl (op_storeR (e' := ({ A := e4.A, B := e4.B, Length := e4.Length, Risk := w64 ((w64 ((w64 (k2 + 1)) + 1)) + 1) } : Fiber)) (o := o4) (off := 3) hf H TF.sz3 0 rfl rfl rfl rfl rfl (nle rfl) rfl hA4 he4 (fun cs h => by obtain rfl := Fiber_cells h; exact Fiber_mk (x := ({ A := e4.A, B := e4.B, Length := e4.Length, Risk := w64 ((w64 ((w64 (k2 + 1)) + 1)) + 1) } : Fiber))) fun w H => ?_)
   replace hf : Fr a 41 [(0, (.slice A (((a2.set (i : Int).toNat ({ A := k2, B := e.B, Length := e.Length, Risk := e.Risk } : Fiber)).set (i : Int).toNat ({ A := e2.A, B := w64 (k2 + 1), Length := e2.Length, Risk := e2.Risk } : Fiber)).set (i : Int).toNat ({ A := e3.A, B := e3.B, Length := w64 ((w64 (k2 + 1)) + 1), Risk := e3.Risk } : Fiber)).length c)), (1, (.int .i64 (w64 ((w64 ((w64 (k2 + 1)) + 1)) + 1)))), (5, (.int .i64 i)), (33, (.slice A (((a2.set (i : Int).toNat ({ A := k2, B := e.B, Length := e.Length, Risk := e.Risk } : Fiber)).set (i : Int).toNat ({ A := e2.A, B := w64 (k2 + 1), Length := e2.Length, Risk := e2.Risk } : Fiber)).set (i : Int).toNat ({ A := e3.A, B := e3.B, Length := w64 ((w64 (k2 + 1)) + 1), Risk := e3.Risk } : Fiber)).length c)), (34, (.int .i64 i)), (35, (.int .i64 (w64 ((w64 ((w64 (k2 + 1)) + 1)) + 1)))), (36, (.pointer (some ⟨p4, o4 + 0, none⟩))), (37, (.pointer (some ⟨p4, o4 + 3, none⟩)))] := hf.prune [0, 1, 5, 33, 34, 35, 36, 37] rfl
   replace hf : Fr a 41 [(0, (.slice A ((((a2.set (i : Int).toNat ({ A := k2, B := e.B, Length := e.Length, Risk := e.Risk } : Fiber)).set (i : Int).toNat ({ A := e2.A, B := w64 (k2 + 1), Length := e2.Length, Risk := e2.Risk } : Fiber)).set (i : Int).toNat ({ A := e3.A, B := e3.B, Length := w64 ((w64 (k2 + 1)) + 1), Risk := e3.Risk } : Fiber)).set (i : Int).toNat ({ A := e4.A, B := e4.B, Length := e4.Length, Risk := w64 ((w64 ((w64 (k2 + 1)) + 1)) + 1) } : Fiber)).length c)), (1, (.int .i64 (w64 ((w64 ((w64 (k2 + 1)) + 1)) + 1)))), (5, (.int .i64 i)), (33, (.slice A ((((a2.set (i : Int).toNat ({ A := k2, B := e.B, Length := e.Length, Risk := e.Risk } : Fiber)).set (i : Int).toNat ({ A := e2.A, B := w64 (k2 + 1), Length := e2.Length, Risk := e2.Risk } : Fiber)).set (i : Int).toNat ({ A := e3.A, B := e3.B, Length := w64 ((w64 (k2 + 1)) + 1), Risk := e3.Risk } : Fiber)).set (i : Int).toNat ({ A := e4.A, B := e4.B, Length := e4.Length, Risk := w64 ((w64 ((w64 (k2 + 1)) + 1)) + 1) } : Fiber)).length c)), (34, (.int .i64 i)), (35, (.int .i64 (w64 ((w64 ((w64 (k2 + 1)) + 1)) + 1)))), (36, (.pointer (some ⟨p4, o4 + 0, none⟩))), (37, (.pointer (some ⟨p4, o4 + 3, none⟩)))] := by simpa only [List.length_set, Nat.add_zero] using hf
   refine wl_end (then_n (reg (pz 3 hf fun a hf => ?_)))
   refine wl_end (blk_n (then_n (reg (pz 3 hf fun a hf => ?_))))
   refine wl_end ?_
   have hf := hf.pn [0, 1, 5]
   have hf : Fr a 41 [(0, (.slice A a'.length c)), (1, (.int .i64 (w64 ((w64 ((w64 ((w64 (k2 + 1)) + 1)) + 1)) + 1)))), (5, (.int .i64 (w64 (i + 1))))] := by first | exact hf | (simp only [List.length_set, hlen] at hf; exact hf)
   have H := H.lt_ [] [true] [] []
   exact then_n ⟨((((a2.set (i : Int).toNat ({ A := k2, B := e.B, Length := e.Length, Risk := e.Risk } : Fiber)).set (i : Int).toNat ({ A := e2.A, B := w64 (k2 + 1), Length := e2.Length, Risk := e2.Risk } : Fiber)).set (i : Int).toNat ({ A := e3.A, B := e3.B, Length := w64 ((w64 (k2 + 1)) + 1), Risk := e3.Risk } : Fiber)).set (i : Int).toNat ({ A := e4.A, B := e4.B, Length := e4.Length, Risk := w64 ((w64 ((w64 (k2 + 1)) + 1)) + 1) } : Fiber), w64 ((w64 ((w64 ((w64 (k2 + 1)) + 1)) + 1)) + 1), w64 (i + 1)), hR1, (by simp only [List.length_set, hlen]), hf, H⟩
  ·refine wp_exit (then_x (then_x (blk_e (?_))))
   have hf := hf.pn [0, 1, 5]
   have hf : Fr a 41 [(0, (.slice A a'.length c)), (1, (.int .i64 k2)), (5, (.int .i64 i))] := by first | exact hf | (simp only [List.length_set, hlen] at hf; exact hf)
   have H := H.lt_ [] [true] [] []
   exact ⟨(a2, k2, i), (Option.some.inj hR1).symm, (by simp only [List.length_set, hlen]), hf, H⟩
 rintro a w ⟨⟨a3, k3, i2⟩, rfl, hlen, hf, H⟩
 try dsimp only at hlen
 have hf : Fr a 41 [(0, (.slice A a3.length c)), (1, (.int .i64 k3)), (5, (.int .i64 i2))] := by rw [hlen]; exact hf
 try dsimp only at hF
 refine then_n (sqz (pz 2 hf fun a hf => ?_))
 refine wer ?_
 have H := H.rowOwn 0 rfl rfl
 obtain ⟨F', H⟩ := H.freezeOwn 0 rfl
 rw [hlen] at H
 obtain rfl := oi hF
 refine rT hf ?_
 exact ⟨_, rfl, H.chg, mk_int, _, H.ownAt 0 rfl, H.back⟩
theorem laws_markNetwork_ok {S : Nat → Prop} {F : List Nat} {cs : List Value} {v1_ : Value} {a' : Network} {k' : Int} {r : Int × Network} (hO : GoTy.own w0 F cs a') (hn : F.Nodup) (h1 : VR w0 S v1_ k') (hF : laws_markNetwork fu a' k' = some r) :
    Calls Tryz.prog 72 [(bif GoTy.agg (Network) then .agg cs.toArray else cs.headD undef), v1_].toArray w0 fun e w' => ∃ v, e = .returned v ∧ (Chg w0 w' F ∧ VR w' (fun _ => True) v r.1 ∧ ∃ F', GoTy.own w' F' cs r.2 ∧ Back w0 w' F F') := by
 obtain rfl := VR_int h1
 obtain ⟨A1, c1, F1, A2, c2, F2, rfl, hFe, l1, l2⟩ := Network_own hO
 have H := Mem.startG S hO hn
 have H := H.recast (X := [(⟨F, MP.own F [(.slice A1 a'.Nodes.length c1), (.slice A2 a'.Fibers.length c2)] (a' : Network)⟩ : DI)]) (Y := [(⟨F1, MP.own F1 [(.slice A1 a'.Nodes.length c1)] (a'.Nodes : List ByteArray)⟩ : DI), (⟨F2, MP.own F2 [(.slice A2 a'.Fibers.length c2)] (a'.Fibers : List Fiber)⟩ : DI)]) (D := []) (List.Perm.of_eq (by simp [hFe])) fun _ => (ps1 l1 (ps1 l2 ps0))
 have H := H.lend 0 rfl
 have H := H.lend 1 rfl
 refine en Tryz.func72 fun a hf => ?_
 rw [laws_markNetwork] at hF
 refine bx hf H fun b' a w hf H => ?_
 refine pz 1 hf fun a hf => ?_
 refine wr (pz 1 hf fun a hf => ?_)
 refine lB 0 hf H TF.ls22 fun a hf => ?_
 refine pz 1 hf fun a hf => ?_
 obtain ⟨y, hy, hF⟩ := bs_ hF
 refine oc hf TF.cl134 (laws_markStringS_ok (S := TT) (F := F1) (cs := [(.slice A1 a'.Nodes.length c1)]) (H.ownAt 0 rfl) H.diNd.1 mk_int hy) fun v w a hp hf => ?_
 obtain ⟨hch, hv, F4, ho, hbk⟩ := hp
 obtain rfl := VR_int hv
 have H := H.wrote rfl hch ho hbk
 have H := H.lend 0 rfl
 have H := H.lend 1 rfl
 refine pz 1 hf fun a hf => ?_
 refine wr (pz 1 hf fun a hf => ?_)
 refine lB 0 hf H TF.ls40 fun a hf => ?_
 refine pz 1 hf fun a hf => ?_
 have H := H.frontD 1 rfl
 obtain ⟨y2, hy2, hF⟩ := bs_ hF
 refine oc hf TF.cl135 (laws_markFiberS_ok (S := TT) (F := F2) (cs := [(.slice A2 a'.Fibers.length c2)]) (H.ownAt 0 rfl) H.diNd.1 mk_int hy2) fun v2 w a hp2 hf => ?_
 obtain ⟨hch2, hv2, F5, ho2, hbk2⟩ := hp2
 obtain rfl := VR_int hv2
 have H := H.wrote rfl hch2 ho2 hbk2
 have H := H.lend 0 rfl
 have H := H.lend 1 rfl
 refine pz 1 hf fun a hf => ?_
 refine wr (pz 2 hf fun a hf => ?_)
 refine wer ?_
 have H := H.frontD 1 rfl
 have H := H.recast (X := [(⟨F4, MP.own F4 [(.slice A1 a'.Nodes.length c1)] (y.2 : List ByteArray)⟩ : DI), (⟨F5, MP.own F5 [(.slice A2 a'.Fibers.length c2)] (y2.2 : List Fiber)⟩ : DI)]) (Y := [(⟨(F4 ++ F5), MP.own (F4 ++ F5) [(.slice A1 a'.Nodes.length c1), (.slice A2 a'.Fibers.length c2)] (({ Nodes := y.2, Fibers := y2.2 } : Network) : Network)⟩ : DI)]) (List.Perm.of_eq (by simp)) fun _ => ps1 (Network_ownmk (x := ({ Nodes := y.2, Fibers := y2.2 } : Network)) (H.ownAt 0 rfl) (H.ownAt 1 rfl)) ps0
 obtain rfl := oi hF
 refine rT hf ?_
 exact ⟨_, rfl, H.chg, mk_int, _, H.ownAt 0 rfl, H.back⟩
theorem laws_markIntS_ok {S : Nat → Prop} {F : List Nat} {cs : List Value} {v1_ : Value} {a' : List Int} {k' : Int} {r : Int × List Int} (hO : GoTy.own w0 F cs a') (hn : F.Nodup) (h1 : VR w0 S v1_ k') (hF : laws_markIntS fu a' k' = some r) :
    Calls Tryz.prog 84 [(bif GoTy.agg (List Int) then .agg cs.toArray else cs.headD undef), v1_].toArray w0 fun e w' => ∃ v, e = .returned v ∧ (Chg w0 w' F ∧ VR w' (fun _ => True) v r.1 ∧ ∃ F', GoTy.own w' F' cs r.2 ∧ Back w0 w' F F') := by
 obtain rfl := VR_int h1
 obtain ⟨A, c, rfl, hO⟩ := own_list hO
 have H := Mem.startG S hO hn
 obtain ⟨Fs, E, H, -⟩ := H.thaw rfl
 have H := H.rowSh 0 rfl
 refine en Tryz.func84 fun a hf => ?_
 rw [laws_markIntS] at hF
 refine sqz (pz 1 hf fun a hf => ?_)
 refine we (sqz (pz 1 hf fun a hf => ?_))
 refine wl_end (then_n ?_)
 obtain ⟨out', hB1, hF⟩ := bs_ hF
 have hf := hf.pn [0, 1, 5]
 have hf : Fr a 19 [(0, (.slice A a'.length c)), (1, (.int .i64 k')), (5, (.int .i64 0))] := by first | exact hf | (simp only [List.length_set] at hf; exact hf)
 have H := H.lt_ [] [true] [] []
 refine loopC (fun (s : List Int × Int × Int) (a : Act) (w : World) => match s with | (a2, k2, i) => a2.length = a'.length ∧ Fr a 19 [(0, (.slice A a'.length c)), (1, (.int .i64 k2)), (5, (.int .i64 i))] ∧ Mem ⟨w0, F⟩ S [] [⟨.sh true, E, A, c, (a2 : List Int)⟩] [] [] w) (fun k (s : List Int × Int × Int) => laws_markIntS_L1 fu k s.1 s.2.1 s.2.2 = some out') (fun s => out' = s) (a', k', 0) fu hB1 ⟨rfl, hf, H⟩ (fun s h => by cases h) ?_ ?_
 ·rintro fk ⟨a2, k2, i⟩ a w hR1 hI
  replace hR1 : laws_markIntS_L1 fu (fk + 1) a2 k2 i = some out' := hR1
  rw [laws_markIntS_L1] at hR1
  obtain ⟨hlen, hf, H⟩ := hI
  have hf : Fr a 19 [(0, (.slice A a2.length c)), (1, (.int .i64 k2)), (5, (.int .i64 i))] := by rw [hlen]; exact hf
  refine sq (sqz (pz 4 hf fun a hf => ?_))
  refine wl_end (then_n (ib hR1 hf (fun hc hR1 => ?_) fun hc hR1 => ?_))
  ·refine ws (pz 3 hf fun a hf => ?_)
   obtain ⟨e, he, hR1⟩ := bs_ hR1
   refine wl0 rfl (op_iaddrR hf H Tryz.underlying29 TF.sz3 0 rfl rfl rfl he (by decide) fun p o cs a hf hA hr hk => ?_)
   obtain rfl := hr
   refine wl0 rfl (op_storeR (e' := k2) (o := o) (off := 0) hf H TF.sz3 0 rfl rfl rfl rfl rfl (nle rfl) rfl hA he (st_full rfl) fun w H => ?_)
   replace hf : Fr a 19 [(0, (.slice A a2.length c)), (1, (.int .i64 k2)), (5, (.int .i64 i)), (12, (.slice A a2.length c)), (13, (.int .i64 i)), (14, (.int .i64 k2)), (15, (.pointer (some ⟨p, o + 0, none⟩)))] := hf.prune [0, 1, 5, 12, 13, 14, 15] rfl
   replace hf : Fr a 19 [(0, (.slice A (a2.set (i : Int).toNat k2).length c)), (1, (.int .i64 k2)), (5, (.int .i64 i)), (12, (.slice A (a2.set (i : Int).toNat k2).length c)), (13, (.int .i64 i)), (14, (.int .i64 k2)), (15, (.pointer (some ⟨p, o + 0, none⟩)))] := by simpa only [List.length_set, Nat.add_zero] using hf
   refine wl_end (then_n (reg (pz 3 hf fun a hf => ?_)))
   refine wl_end (blk_n (then_n (reg (pz 3 hf fun a hf => ?_))))
   refine wl_end ?_
   have hf := hf.pn [0, 1, 5]
   have hf : Fr a 19 [(0, (.slice A a'.length c)), (1, (.int .i64 (w64 (k2 + 1)))), (5, (.int .i64 (w64 (i + 1))))] := by first | exact hf | (simp only [List.length_set, hlen] at hf; exact hf)
   have H := H.lt_ [] [true] [] []
   exact then_n ⟨(a2.set (i : Int).toNat k2, w64 (k2 + 1), w64 (i + 1)), hR1, (by simp only [List.length_set, hlen]), hf, H⟩
  ·refine wp_exit (then_x (then_x (blk_e (?_))))
   have hf := hf.pn [0, 1, 5]
   have hf : Fr a 19 [(0, (.slice A a'.length c)), (1, (.int .i64 k2)), (5, (.int .i64 i))] := by first | exact hf | (simp only [List.length_set, hlen] at hf; exact hf)
   have H := H.lt_ [] [true] [] []
   exact ⟨(a2, k2, i), (Option.some.inj hR1).symm, (by simp only [List.length_set, hlen]), hf, H⟩
 rintro a w ⟨⟨a3, k3, i2⟩, rfl, hlen, hf, H⟩
 try dsimp only at hlen
 have hf : Fr a 19 [(0, (.slice A a3.length c)), (1, (.int .i64 k3)), (5, (.int .i64 i2))] := by rw [hlen]; exact hf
 try dsimp only at hF
 refine then_n (sqz (pz 2 hf fun a hf => ?_))
 refine wer ?_
 have H := H.rowOwn 0 rfl rfl
 obtain ⟨F', H⟩ := H.freezeOwn 0 rfl
 rw [hlen] at H
 obtain rfl := oi hF
 refine rT hf ?_
 exact ⟨_, rfl, H.chg, mk_int, _, H.ownAt 0 rfl, H.back⟩
theorem laws_markLightS_ok {S : Nat → Prop} {F : List Nat} {cs : List Value} {v1_ : Value} {a' : List Light} {k' : Int} {r : Int × List Light} (hO : GoTy.own w0 F cs a') (hn : F.Nodup) (h1 : VR w0 S v1_ k') (hF : laws_markLightS fu a' k' = some r) :
    Calls Tryz.prog 73 [(bif GoTy.agg (List Light) then .agg cs.toArray else cs.headD undef), v1_].toArray w0 fun e w' => ∃ v, e = .returned v ∧ (Chg w0 w' F ∧ VR w' (fun _ => True) v r.1 ∧ ∃ F', GoTy.own w' F' cs r.2 ∧ Back w0 w' F F') := by
 obtain rfl := VR_int h1
 obtain ⟨A, c, rfl, hO⟩ := own_list hO
 have H := Mem.startG S hO hn
 obtain ⟨Fs, E, H, -⟩ := H.thaw rfl
 refine en Tryz.func73 fun a hf => ?_
 rw [laws_markLightS] at hF
 refine sqz (pz 1 hf fun a hf => ?_)
 refine we (sqz (pz 1 hf fun a hf => ?_))
 refine wl_end (then_n ?_)
 obtain ⟨out', hB1, hF⟩ := bs_ hF
 have hf := hf.pn [0, 1, 5]
 have hf : Fr a 52 [(0, (.slice A a'.length c)), (1, (.int .i64 k')), (5, (.int .i64 0))] := by first | exact hf | (simp only [List.length_set] at hf; exact hf)
 have H := H.lt_ [] [true] [] []
 refine loopC (fun (s : List Light × Int × Int) (a : Act) (w : World) => match s with | (a2, k2, i) => ∃ (Fs2 : List (List Nat)), a2.length = a'.length ∧ Fr a 52 [(0, (.slice A a'.length c)), (1, (.int .i64 k2)), (5, (.int .i64 i))] ∧ Mem ⟨w0, F⟩ S [] [⟨.ow Fs2, E, A, c, (a2 : List Light)⟩] [] [] w) (fun k (s : List Light × Int × Int) => laws_markLightS_L1 fu k s.1 s.2.1 s.2.2 = some out') (fun s => out' = s) (a', k', 0) fu hB1 ⟨Fs, rfl, hf, H⟩ (fun s h => by cases h) ?_ ?_
 ·rintro fk ⟨a2, k2, i⟩ a w hR1 hI
  replace hR1 : laws_markLightS_L1 fu (fk + 1) a2 k2 i = some out' := hR1
  rw [laws_markLightS_L1] at hR1
  obtain ⟨Fs2, hlen, hf, H⟩ := hI
  have hf : Fr a 52 [(0, (.slice A a2.length c)), (1, (.int .i64 k2)), (5, (.int .i64 i))] := by rw [hlen]; exact hf
  refine sq (sqz (pz 4 hf fun a hf => ?_))
  refine wl_end (then_n (ib hR1 hf (fun hc hR1 => ?_) fun hc hR1 => ?_))
  ·refine ws (pz 3 hf fun a hf => ?_)
   obtain ⟨e, he, hR1⟩ := bs_ hR1
   refine wl0 rfl (op_iaddrR hf H Tryz.underlying43 TF.sz52 0 rfl rfl rfl he (by decide) fun p o cs a hf hA hr hk => ?_)
   have hrk := hr
   obtain ⟨A2, c2, rfl, hl⟩ := Light_cells hr
   have H := H.pT hl
   refine pz 1 hf fun a hf => ?_
   refine wl0 rfl (op_storeR (e' := ({ Id := k2, Route := e.Route, Block := e.Block } : Light)) (o := o) (off := 0) hf H TF.sz3 0 rfl rfl rfl rfl rfl (nle rfl) rfl hA he (st_own fun F cs h => by obtain ⟨A0, c0, F0, rfl, rfl, l0⟩ := Light_own h; exact Light_ownmk (x := ({ Id := k2, Route := e.Route, Block := e.Block } : Light)) l0) fun w H => ?_)
   replace hf : Fr a 52 [(0, (.slice A a2.length c)), (1, (.int .i64 k2)), (5, (.int .i64 i)), (12, (.slice A a2.length c)), (13, (.int .i64 i)), (14, (.int .i64 k2)), (15, (.pointer (some ⟨p, o + 0, none⟩))), (16, (.pointer (some ⟨p, o + 0, none⟩)))] := hf.prune [0, 1, 5, 12, 13, 14, 15, 16] rfl
   replace hf : Fr a 52 [(0, (.slice A (a2.set (i : Int).toNat ({ Id := k2, Route := e.Route, Block := e.Block } : Light)).length c)), (1, (.int .i64 k2)), (5, (.int .i64 i)), (12, (.slice A (a2.set (i : Int).toNat ({ Id := k2, Route := e.Route, Block := e.Block } : Light)).length c)), (13, (.int .i64 i)), (14, (.int .i64 k2)), (15, (.pointer (some ⟨p, o + 0, none⟩))), (16, (.pointer (some ⟨p, o + 0, none⟩)))] := by simpa only [List.length_set, Nat.add_zero] using hf
   refine wr (pz 3 hf fun a hf => ?_)
   refine wr (pz 3 hf fun a hf => ?_)
   obtain ⟨e2, he2, hR1⟩ := bs_ hR1
   refine wl0 rfl (op_iaddrR hf H Tryz.underlying43 TF.sz52 0 rfl rfl rfl he2 (by decide) fun p2 o2 cs2 a hf hA2 hr2 hk2 => ?_)
   have hrk2 := hr2
   obtain ⟨A3, c3, rfl, hl2⟩ := Light_cells hr2
   have H := H.pT hl2
   refine pz 2 hf fun a hf => ?_
   refine wl0 rfl (op_storeR (e' := ({ Id := e2.Id, Route := ({ Start := w64 (k2 + 1), Fibers := e2.Route.Fibers } : Route), Block := e2.Block } : Light)) (o := o2) (off := 1) hf H TF.sz3 0 rfl rfl rfl rfl rfl (nle rfl) rfl hA2 he2 (st_own fun F cs h => by obtain ⟨A0, c0, F0, rfl, rfl, l0⟩ := Light_own h; exact Light_ownmk (x := ({ Id := e2.Id, Route := ({ Start := w64 (k2 + 1), Fibers := e2.Route.Fibers } : Route), Block := e2.Block } : Light)) l0) fun w H => ?_)
   replace hf : Fr a 52 [(0, (.slice A (a2.set (i : Int).toNat ({ Id := k2, Route := e.Route, Block := e.Block } : Light)).length c)), (1, (.int .i64 (w64 (k2 + 1)))), (5, (.int .i64 i)), (19, (.slice A (a2.set (i : Int).toNat ({ Id := k2, Route := e.Route, Block := e.Block } : Light)).length c)), (20, (.int .i64 i)), (21, (.int .i64 (w64 (k2 + 1)))), (22, (.pointer (some ⟨p2, o2 + 0, none⟩))), (23, (.pointer (some ⟨p2, o2 + 1, none⟩))), (24, (.pointer (some ⟨p2, o2 + 1, none⟩)))] := hf.prune [0, 1, 5, 19, 20, 21, 22, 23, 24] rfl
   replace hf : Fr a 52 [(0, (.slice A ((a2.set (i : Int).toNat ({ Id := k2, Route := e.Route, Block := e.Block } : Light)).set (i : Int).toNat ({ Id := e2.Id, Route := ({ Start := w64 (k2 + 1), Fibers := e2.Route.Fibers } : Route), Block := e2.Block } : Light)).length c)), (1, (.int .i64 (w64 (k2 + 1)))), (5, (.int .i64 i)), (19, (.slice A ((a2.set (i : Int).toNat ({ Id := k2, Route := e.Route, Block := e.Block } : Light)).set (i : Int).toNat ({ Id := e2.Id, Route := ({ Start := w64 (k2 + 1), Fibers := e2.Route.Fibers } : Route), Block := e2.Block } : Light)).length c)), (20, (.int .i64 i)), (21, (.int .i64 (w64 (k2 + 1)))), (22, (.pointer (some ⟨p2, o2 + 0, none⟩))), (23, (.pointer (some ⟨p2, o2 + 1, none⟩))), (24, (.pointer (some ⟨p2, o2 + 1, none⟩)))] := by simpa only [List.length_set, Nat.add_zero] using hf
   refine wr (pz 3 hf fun a hf => ?_)
   refine wr (pz 2 hf fun a hf => ?_)
   obtain ⟨e3, he3, hR1⟩ := bs_ hR1
   refine wl0 rfl (op_iaddrR hf H Tryz.underlying43 TF.sz52 0 rfl rfl rfl he3 (by decide) fun p3 o3 cs3 a hf hA3 hr3 hk3 => ?_)
   have hrk3 := hr3
   obtain ⟨A4, c4, rfl, hl3⟩ := Light_cells hr3
   have H := H.pT hl3
   refine pz 2 hf fun a hf => ?_
   refine oq hf (rq_load1 hf TF.ls29 rfl (hk3 2 _ rfl)) fun a hf => ?_
   refine pz 1 hf fun a hf => ?_
   obtain ⟨y, hy, hR1⟩ := bs_ hR1
   obtain ⟨F2, hO, hNd, hnx⟩ := H.mutEl rfl he3 hA3 hrk3 hk3 Light_lens_Route_Fibers rfl
   refine oc hf TF.cl84 (laws_markIntS_ok (S := TT) (cs := [(.slice A4 e3.Route.Fibers.length c4)]) hO hNd mk_int hy) fun v w a hp hf => ?_
   obtain ⟨hch, hv, F3, ho, hbk⟩ := hp
   obtain rfl := VR_int hv
   obtain ⟨Fs3, H⟩ := hnx _ _ _ hch ho hbk
   replace hf : Fr a 52 [(0, (.slice A ((a2.set (i : Int).toNat ({ Id := k2, Route := e.Route, Block := e.Block } : Light)).set (i : Int).toNat ({ Id := e2.Id, Route := ({ Start := w64 (k2 + 1), Fibers := e2.Route.Fibers } : Route), Block := e2.Block } : Light)).length c)), (1, (.int .i64 (w64 ((w64 (k2 + 1)) + 1)))), (5, (.int .i64 i)), (27, (.slice A ((a2.set (i : Int).toNat ({ Id := k2, Route := e.Route, Block := e.Block } : Light)).set (i : Int).toNat ({ Id := e2.Id, Route := ({ Start := w64 (k2 + 1), Fibers := e2.Route.Fibers } : Route), Block := e2.Block } : Light)).length c)), (28, (.int .i64 i)), (29, (.pointer (some ⟨p3, o3 + 0, none⟩))), (30, (.pointer (some ⟨p3, o3 + 1, none⟩))), (31, (.pointer (some ⟨p3, o3 + 2, none⟩))), (32, (.slice A4 e3.Route.Fibers.length c4)), (33, (.int .i64 (w64 ((w64 (k2 + 1)) + 1)))), (34, (.int .i64 y.1))] := hf.prune [0, 1, 5, 27, 28, 29, 30, 31, 32, 33, 34] rfl
   replace hf : Fr a 52 [(0, (.slice A (((a2.set (i : Int).toNat ({ Id := k2, Route := e.Route, Block := e.Block } : Light)).set (i : Int).toNat ({ Id := e2.Id, Route := ({ Start := w64 (k2 + 1), Fibers := e2.Route.Fibers } : Route), Block := e2.Block } : Light)).set (i : Int).toNat ({ e3 with Route := { e3.Route with Fibers := y.2 } })).length c)), (1, (.int .i64 (w64 ((w64 (k2 + 1)) + 1)))), (5, (.int .i64 i)), (27, (.slice A (((a2.set (i : Int).toNat ({ Id := k2, Route := e.Route, Block := e.Block } : Light)).set (i : Int).toNat ({ Id := e2.Id, Route := ({ Start := w64 (k2 + 1), Fibers := e2.Route.Fibers } : Route), Block := e2.Block } : Light)).set (i : Int).toNat ({ e3 with Route := { e3.Route with Fibers := y.2 } })).length c)), (28, (.int .i64 i)), (29, (.pointer (some ⟨p3, o3 + 0, none⟩))), (30, (.pointer (some ⟨p3, o3 + 1, none⟩))), (31, (.pointer (some ⟨p3, o3 + 2, none⟩))), (32, (.slice A4 e3.Route.Fibers.length c4)), (33, (.int .i64 (w64 ((w64 (k2 + 1)) + 1)))), (34, (.int .i64 y.1))] := by simpa only [List.length_set, Nat.add_zero] using hf
   refine pz 1 hf fun a hf => ?_
   refine wr (pz 3 hf fun a hf => ?_)
   obtain ⟨e4, he4, hR1⟩ := bs_ hR1
   refine wl0 rfl (op_iaddrR hf H Tryz.underlying43 TF.sz52 0 rfl rfl rfl he4 (by decide) fun p4 o4 cs4 a hf hA4 hr4 hk4 => ?_)
   have hrk4 := hr4
   obtain ⟨A5, c5, rfl, hl4⟩ := Light_cells hr4
   have H := H.pT hl4
   refine pz 2 hf fun a hf => ?_
   refine wl0 rfl (op_storeR (e' := ({ Id := e4.Id, Route := e4.Route, Block := ({ First := y.1, Count := e4.Block.Count } : Block) } : Light)) (o := o4) (off := 3) hf H TF.sz3 0 rfl rfl rfl rfl rfl (nle rfl) rfl hA4 he4 (st_own fun F cs h => by obtain ⟨A0, c0, F0, rfl, rfl, l0⟩ := Light_own h; exact Light_ownmk (x := ({ Id := e4.Id, Route := e4.Route, Block := ({ First := y.1, Count := e4.Block.Count } : Block) } : Light)) l0) fun w H => ?_)
   replace hf : Fr a 52 [(0, (.slice A (((a2.set (i : Int).toNat ({ Id := k2, Route := e.Route, Block := e.Block } : Light)).set (i : Int).toNat ({ Id := e2.Id, Route := ({ Start := w64 (k2 + 1), Fibers := e2.Route.Fibers } : Route), Block := e2.Block } : Light)).set (i : Int).toNat ({ e3 with Route := { e3.Route with Fibers := y.2 } })).length c)), (1, (.int .i64 y.1)), (5, (.int .i64 i)), (35, (.slice A (((a2.set (i : Int).toNat ({ Id := k2, Route := e.Route, Block := e.Block } : Light)).set (i : Int).toNat ({ Id := e2.Id, Route := ({ Start := w64 (k2 + 1), Fibers := e2.Route.Fibers } : Route), Block := e2.Block } : Light)).set (i : Int).toNat ({ e3 with Route := { e3.Route with Fibers := y.2 } })).length c)), (36, (.int .i64 i)), (37, (.int .i64 y.1)), (38, (.pointer (some ⟨p4, o4 + 0, none⟩))), (39, (.pointer (some ⟨p4, o4 + 3, none⟩))), (40, (.pointer (some ⟨p4, o4 + 3, none⟩)))] := hf.prune [0, 1, 5, 35, 36, 37, 38, 39, 40] rfl
   replace hf : Fr a 52 [(0, (.slice A ((((a2.set (i : Int).toNat ({ Id := k2, Route := e.Route, Block := e.Block } : Light)).set (i : Int).toNat ({ Id := e2.Id, Route := ({ Start := w64 (k2 + 1), Fibers := e2.Route.Fibers } : Route), Block := e2.Block } : Light)).set (i : Int).toNat ({ e3 with Route := { e3.Route with Fibers := y.2 } })).set (i : Int).toNat ({ Id := e4.Id, Route := e4.Route, Block := ({ First := y.1, Count := e4.Block.Count } : Block) } : Light)).length c)), (1, (.int .i64 y.1)), (5, (.int .i64 i)), (35, (.slice A ((((a2.set (i : Int).toNat ({ Id := k2, Route := e.Route, Block := e.Block } : Light)).set (i : Int).toNat ({ Id := e2.Id, Route := ({ Start := w64 (k2 + 1), Fibers := e2.Route.Fibers } : Route), Block := e2.Block } : Light)).set (i : Int).toNat ({ e3 with Route := { e3.Route with Fibers := y.2 } })).set (i : Int).toNat ({ Id := e4.Id, Route := e4.Route, Block := ({ First := y.1, Count := e4.Block.Count } : Block) } : Light)).length c)), (36, (.int .i64 i)), (37, (.int .i64 y.1)), (38, (.pointer (some ⟨p4, o4 + 0, none⟩))), (39, (.pointer (some ⟨p4, o4 + 3, none⟩))), (40, (.pointer (some ⟨p4, o4 + 3, none⟩)))] := by simpa only [List.length_set, Nat.add_zero] using hf
   refine wr (pz 3 hf fun a hf => ?_)
   refine wr (pz 3 hf fun a hf => ?_)
   obtain ⟨e5, he5, hR1⟩ := bs_ hR1
   refine wl0 rfl (op_iaddrR hf H Tryz.underlying43 TF.sz52 0 rfl rfl rfl he5 (by decide) fun p5 o5 cs5 a hf hA5 hr5 hk5 => ?_)
   have hrk5 := hr5
   obtain ⟨A6, c6, rfl, hl5⟩ := Light_cells hr5
   have H := H.pT hl5
   refine pz 2 hf fun a hf => ?_
   refine wl0 rfl (op_storeR (e' := ({ Id := e5.Id, Route := e5.Route, Block := ({ First := e5.Block.First, Count := w64 (y.1 + 1) } : Block) } : Light)) (o := o5) (off := 4) hf H TF.sz3 0 rfl rfl rfl rfl rfl (nle rfl) rfl hA5 he5 (st_own fun F cs h => by obtain ⟨A0, c0, F0, rfl, rfl, l0⟩ := Light_own h; exact Light_ownmk (x := ({ Id := e5.Id, Route := e5.Route, Block := ({ First := e5.Block.First, Count := w64 (y.1 + 1) } : Block) } : Light)) l0) fun w H => ?_)
   replace hf : Fr a 52 [(0, (.slice A ((((a2.set (i : Int).toNat ({ Id := k2, Route := e.Route, Block := e.Block } : Light)).set (i : Int).toNat ({ Id := e2.Id, Route := ({ Start := w64 (k2 + 1), Fibers := e2.Route.Fibers } : Route), Block := e2.Block } : Light)).set (i : Int).toNat ({ e3 with Route := { e3.Route with Fibers := y.2 } })).set (i : Int).toNat ({ Id := e4.Id, Route := e4.Route, Block := ({ First := y.1, Count := e4.Block.Count } : Block) } : Light)).length c)), (1, (.int .i64 (w64 (y.1 + 1)))), (5, (.int .i64 i)), (43, (.slice A ((((a2.set (i : Int).toNat ({ Id := k2, Route := e.Route, Block := e.Block } : Light)).set (i : Int).toNat ({ Id := e2.Id, Route := ({ Start := w64 (k2 + 1), Fibers := e2.Route.Fibers } : Route), Block := e2.Block } : Light)).set (i : Int).toNat ({ e3 with Route := { e3.Route with Fibers := y.2 } })).set (i : Int).toNat ({ Id := e4.Id, Route := e4.Route, Block := ({ First := y.1, Count := e4.Block.Count } : Block) } : Light)).length c)), (44, (.int .i64 i)), (45, (.int .i64 (w64 (y.1 + 1)))), (46, (.pointer (some ⟨p5, o5 + 0, none⟩))), (47, (.pointer (some ⟨p5, o5 + 3, none⟩))), (48, (.pointer (some ⟨p5, o5 + 4, none⟩)))] := hf.prune [0, 1, 5, 43, 44, 45, 46, 47, 48] rfl
   replace hf : Fr a 52 [(0, (.slice A (((((a2.set (i : Int).toNat ({ Id := k2, Route := e.Route, Block := e.Block } : Light)).set (i : Int).toNat ({ Id := e2.Id, Route := ({ Start := w64 (k2 + 1), Fibers := e2.Route.Fibers } : Route), Block := e2.Block } : Light)).set (i : Int).toNat ({ e3 with Route := { e3.Route with Fibers := y.2 } })).set (i : Int).toNat ({ Id := e4.Id, Route := e4.Route, Block := ({ First := y.1, Count := e4.Block.Count } : Block) } : Light)).set (i : Int).toNat ({ Id := e5.Id, Route := e5.Route, Block := ({ First := e5.Block.First, Count := w64 (y.1 + 1) } : Block) } : Light)).length c)), (1, (.int .i64 (w64 (y.1 + 1)))), (5, (.int .i64 i)), (43, (.slice A (((((a2.set (i : Int).toNat ({ Id := k2, Route := e.Route, Block := e.Block } : Light)).set (i : Int).toNat ({ Id := e2.Id, Route := ({ Start := w64 (k2 + 1), Fibers := e2.Route.Fibers } : Route), Block := e2.Block } : Light)).set (i : Int).toNat ({ e3 with Route := { e3.Route with Fibers := y.2 } })).set (i : Int).toNat ({ Id := e4.Id, Route := e4.Route, Block := ({ First := y.1, Count := e4.Block.Count } : Block) } : Light)).set (i : Int).toNat ({ Id := e5.Id, Route := e5.Route, Block := ({ First := e5.Block.First, Count := w64 (y.1 + 1) } : Block) } : Light)).length c)), (44, (.int .i64 i)), (45, (.int .i64 (w64 (y.1 + 1)))), (46, (.pointer (some ⟨p5, o5 + 0, none⟩))), (47, (.pointer (some ⟨p5, o5 + 3, none⟩))), (48, (.pointer (some ⟨p5, o5 + 4, none⟩)))] := by simpa only [List.length_set, Nat.add_zero] using hf
   refine wl_end (then_n (reg (pz 3 hf fun a hf => ?_)))
   refine wl_end (blk_n (then_n (reg (pz 3 hf fun a hf => ?_))))
   refine wl_end ?_
   have hf := hf.pn [0, 1, 5]
   have hf : Fr a 52 [(0, (.slice A a'.length c)), (1, (.int .i64 (w64 ((w64 (y.1 + 1)) + 1)))), (5, (.int .i64 (w64 (i + 1))))] := by first | exact hf | (simp only [List.length_set, hlen] at hf; exact hf)
   have H := H.lt_ [] [true] [] []
   exact then_n ⟨(((((a2.set (i : Int).toNat ({ Id := k2, Route := e.Route, Block := e.Block } : Light)).set (i : Int).toNat ({ Id := e2.Id, Route := ({ Start := w64 (k2 + 1), Fibers := e2.Route.Fibers } : Route), Block := e2.Block } : Light)).set (i : Int).toNat ({ e3 with Route := { e3.Route with Fibers := y.2 } })).set (i : Int).toNat ({ Id := e4.Id, Route := e4.Route, Block := ({ First := y.1, Count := e4.Block.Count } : Block) } : Light)).set (i : Int).toNat ({ Id := e5.Id, Route := e5.Route, Block := ({ First := e5.Block.First, Count := w64 (y.1 + 1) } : Block) } : Light), w64 ((w64 (y.1 + 1)) + 1), w64 (i + 1)), hR1, Fs3, (by simp only [List.length_set, hlen]), hf, H⟩
  ·refine wp_exit (then_x (then_x (blk_e (?_))))
   have hf := hf.pn [0, 1, 5]
   have hf : Fr a 52 [(0, (.slice A a'.length c)), (1, (.int .i64 k2)), (5, (.int .i64 i))] := by first | exact hf | (simp only [List.length_set, hlen] at hf; exact hf)
   have H := H.lt_ [] [true] [] []
   exact ⟨(a2, k2, i), (Option.some.inj hR1).symm, Fs2, (by simp only [List.length_set, hlen]), hf, H⟩
 rintro a w ⟨⟨a3, k3, i2⟩, rfl, Fs4, hlen, hf, H⟩
 try dsimp only at hlen
 have hf : Fr a 52 [(0, (.slice A a3.length c)), (1, (.int .i64 k3)), (5, (.int .i64 i2))] := by rw [hlen]; exact hf
 try dsimp only at hF
 refine then_n (sqz (pz 2 hf fun a hf => ?_))
 refine wer ?_
 obtain ⟨F', H⟩ := H.freezeOwn 0 rfl
 rw [hlen] at H
 obtain rfl := oi hF
 refine rT hf ?_
 exact ⟨_, rfl, H.chg, mk_int, _, H.ownAt 0 rfl, H.back⟩
theorem laws_markPlan_ok {S : Nat → Prop} {F : List Nat} {cs : List Value} {v1_ : Value} {a' : Plan} {k' : Int} {r : Int × Plan} (hO : GoTy.own w0 F cs a') (hn : F.Nodup) (h1 : VR w0 S v1_ k') (hF : laws_markPlan fu a' k' = some r) :
    Calls Tryz.prog 19 [(bif GoTy.agg (Plan) then .agg cs.toArray else cs.headD undef), v1_].toArray w0 fun e w' => ∃ v, e = .returned v ∧ (Chg w0 w' F ∧ VR w' (fun _ => True) v r.1 ∧ ∃ F', GoTy.own w' F' cs r.2 ∧ Back w0 w' F F') := by
 obtain rfl := VR_int h1
 obtain ⟨A1, c1, F1, A2, c2, F2, A3, c3, F3, rfl, hFe, l1, l2, l3⟩ := Plan_own hO
 have H := Mem.startG S hO hn
 have H := H.recast (X := [(⟨F, MP.own F [(.slice A1 a'.Network.Nodes.length c1), (.slice A2 a'.Network.Fibers.length c2), (.slice A3 a'.Lights.length c3)] (a' : Plan)⟩ : DI)]) (Y := [(⟨F1, MP.own F1 [(.slice A1 a'.Network.Nodes.length c1)] (a'.Network.Nodes : List ByteArray)⟩ : DI), (⟨F2, MP.own F2 [(.slice A2 a'.Network.Fibers.length c2)] (a'.Network.Fibers : List Fiber)⟩ : DI), (⟨F3, MP.own F3 [(.slice A3 a'.Lights.length c3)] (a'.Lights : List Light)⟩ : DI)]) (D := []) (List.Perm.of_eq (by simp [hFe])) fun _ => (ps1 l1 (ps1 l2 (ps1 l3 ps0)))
 have H := H.lend 0 rfl
 have H := H.lend 1 rfl
 have H := H.lend 2 rfl
 refine en Tryz.func19 fun a hf => ?_
 rw [laws_markPlan] at hF
 refine bx hf H fun b' a w hf H => ?_
 refine pz 1 hf fun a hf => ?_
 refine wr (pz 1 hf fun a hf => ?_)
 refine lN 0 hf H TF.la42 fun a hf => ?_
 refine pz 1 hf fun a hf => ?_
 have H := H.frontD 1 rfl
 have H := H.frontD 1 rfl
 have H := H.recast (X := [(⟨F1, MP.own F1 [(.slice A1 a'.Network.Nodes.length c1)] (a'.Network.Nodes : List ByteArray)⟩ : DI), (⟨F2, MP.own F2 [(.slice A2 a'.Network.Fibers.length c2)] (a'.Network.Fibers : List Fiber)⟩ : DI)]) (Y := [(⟨(F1 ++ F2), MP.own (F1 ++ F2) [(.slice A1 a'.Network.Nodes.length c1), (.slice A2 a'.Network.Fibers.length c2)] (a'.Network : Network)⟩ : DI)]) (List.Perm.of_eq (by simp)) fun _ => ps1 (Network_ownmk (x := a'.Network) (H.ownAt 0 rfl) (H.ownAt 1 rfl)) ps0
 obtain ⟨y, hy, hF⟩ := bs_ hF
 refine oc hf TF.cl72 (laws_markNetwork_ok (S := TT) (F := (F1 ++ F2)) (cs := [(.slice A1 a'.Network.Nodes.length c1), (.slice A2 a'.Network.Fibers.length c2)]) (H.ownAt 0 rfl) H.diNd.1 mk_int hy) fun v w a hp hf => ?_
 obtain ⟨hch, hv, F5, ho, hbk⟩ := hp
 obtain rfl := VR_int hv
 have H := H.wrote rfl hch ho hbk
 obtain ⟨F6, F7, hFe, hl, hl2⟩ := Network_ownc (H.ownAt 0 rfl)
 have H := H.recast (X := [(⟨F5, MP.own F5 [(.slice A1 a'.Network.Nodes.length c1), (.slice A2 a'.Network.Fibers.length c2)] (y.2 : Network)⟩ : DI)]) (Y := [(⟨F6, MP.own F6 [(.slice A1 a'.Network.Nodes.length c1)] (y.2.Nodes : List ByteArray)⟩ : DI), (⟨F7, MP.own F7 [(.slice A2 a'.Network.Fibers.length c2)] (y.2.Fibers : List Fiber)⟩ : DI)]) (List.Perm.of_eq (by simp [hFe])) fun _ => (ps1 hl (ps1 hl2 ps0))
 have H := H.lend 0 rfl
 have H := H.lend 1 rfl
 have H := H.lend 2 rfl
 refine pz 1 hf fun a hf => ?_
 refine wr (pz 1 hf fun a hf => ?_)
 refine lB 0 hf H TF.ls43 fun a hf => ?_
 refine pz 1 hf fun a hf => ?_
 have H := H.frontD 2 rfl
 obtain ⟨y2, hy2, hF⟩ := bs_ hF
 refine oc hf TF.cl73 (laws_markLightS_ok (S := TT) (F := F3) (cs := [(.slice A3 a'.Lights.length c3)]) (H.ownAt 0 rfl) H.diNd.1 mk_int hy2) fun v2 w a hp2 hf => ?_
 obtain ⟨hch2, hv2, F8, ho2, hbk2⟩ := hp2
 obtain rfl := VR_int hv2
 have H := H.wrote rfl hch2 ho2 hbk2
 have H := H.lend 0 rfl
 have H := H.lend 1 rfl
 have H := H.lend 2 rfl
 refine pz 1 hf fun a hf => ?_
 refine wr (pz 2 hf fun a hf => ?_)
 refine wer ?_
 have H := H.frontD 2 rfl
 have H := H.frontD 2 rfl
 have H := H.recast (X := [(⟨F6, MP.own F6 [(.slice A1 a'.Network.Nodes.length c1)] (y.2.Nodes : List ByteArray)⟩ : DI), (⟨F7, MP.own F7 [(.slice A2 a'.Network.Fibers.length c2)] (y.2.Fibers : List Fiber)⟩ : DI), (⟨F8, MP.own F8 [(.slice A3 a'.Lights.length c3)] (y2.2 : List Light)⟩ : DI)]) (Y := [(⟨(F6 ++ (F7 ++ F8)), MP.own (F6 ++ (F7 ++ F8)) [(.slice A1 a'.Network.Nodes.length c1), (.slice A2 a'.Network.Fibers.length c2), (.slice A3 a'.Lights.length c3)] (({ Network := y.2, Lights := y2.2 } : Plan) : Plan)⟩ : DI)]) (List.Perm.of_eq (by simp)) fun _ => ps1 (Plan_ownmk (x := ({ Network := y.2, Lights := y2.2 } : Plan)) (H.ownAt 0 rfl) (H.ownAt 1 rfl) (H.ownAt 2 rfl)) ps0
 obtain rfl := oi hF
 refine rT hf ?_
 exact ⟨_, rfl, H.chg, mk_int, _, H.ownAt 0 rfl, H.back⟩
theorem laws_heldStringS_ok {S : Nat → Prop} {v0_ : Value} {v1_ : Value} {a' : List ByteArray} {k' : Int} {r : Int} (h0 : VR w0 S v0_ a') (h1 : VR w0 S v1_ k') (hF : laws_heldStringS fu a' k' = some r) :
    Calls Tryz.prog 137 [v0_, v1_].toArray w0 fun e w' => ∃ v, e = .returned v ∧ (Below w0.heap.size w0 w' ∧ VR w' (St ⟨w0, []⟩ S [] [] [] true) v r) := by
 obtain ⟨A, c, rfl, hl⟩ := VR_list h0
 obtain rfl := VR_int h1
 have H := Mem.start ⟨w0, []⟩ S
 have H := H.pA hl
 refine en Tryz.func137 fun a hf => ?_
 rw [laws_heldStringS] at hF
 refine sqz (pz 1 hf fun a hf => ?_)
 refine we (sqz (pz 1 hf fun a hf => ?_))
 refine wl_end (then_n ?_)
 obtain ⟨out', hB1, hF⟩ := bs_ hF
 have hf := hf.pn [0, 1, 5]
 have H := H.lt_ [] [] [] [0]
 refine loopC (fun (s : Int × Int) (a : Act) (w : World) => match s with | (k2, i) => Fr a 22 [(0, (.slice A a'.length c)), (1, (.int .i64 k2)), (5, (.int .i64 i))] ∧ Mem ⟨w0, []⟩ S [] [] [] [(false, MP.val [(.slice A a'.length c)] (a' : List ByteArray))] w) (fun k (s : Int × Int) => laws_heldStringS_L1 fu a' k s.1 s.2 = some out') (fun s => out' = Out.next s) (k', 0) fu hB1 ⟨hf, H⟩ (fun s h => by cases h) ?_ ?_
 ·rintro fk ⟨k2, i⟩ a w hR1 hI
  replace hR1 : laws_heldStringS_L1 fu a' (fk + 1) k2 i = some out' := hR1
  rw [laws_heldStringS_L1] at hR1
  obtain ⟨hf, H⟩ := hI
  refine sq (sqz (pz 4 hf fun a hf => ?_))
  refine wl_end (then_n (ib hR1 hf (fun hc hR1 => ?_) fun hc hR1 => ?_))
  ·refine wp_skip (then_n (sq (wp_block (sq (sq (dw [] 7 fun w hb => ?_))))))
   have H := H.keep hb
   refine zp 0 hf trivial fun a hf => ?_
   refine zp 1 hf trivial fun a hf => ?_
   obtain ⟨e, he, hR1⟩ := bs_ hR1
   obtain ⟨p, o, cs, hx, hr, H⟩ := pre_iaddr H Tryz.underlying22 TF.sz9 0 rfl he
   refine tP 2 rfl rfl rfl rfl hf (by kernel_rfl) (fun _ => trivial) (fun w => rq_iaddrE hf rfl rfl rfl hx w) fun a hf => ?_
   obtain rfl := hr
   refine strT (H.lt_ [] [] [] [0]) (fun w H => trivial) fun hS => ?_
   refine zS 3 [] rfl rfl rfl rfl hf hS (fun w H => rq_loadI hf H TF.ls9 0 0 rfl rfl rfl) fun a hf => ?_
   refine zp 4 hf hS fun a hf => ?_
   obtain ⟨y, hy, hR1⟩ := bs_ hR1
   refine nn 5 rfl (oC hf TF.cl175 (laws_markText_ok (S := TT) mk_int hy) fun v w a hp hf => ?_)
   obtain ⟨hb, hp⟩ := hp
   obtain rfl := VR_str hp
   have H := H.keep hb
   have hS := H.lt_ [] [] [] [0]
   refine aS hS ?_
   refine zp 6 hf hS fun a hf => ?_
   refine dk ?_
   refine then_n (ib hR1 hf (fun hc2 hR1 => ?_) fun hc2 hR1 => ?_)
   ·refine sqz (pz 1 hf fun a hf => ?_)
    have hf := hf.pn [4]
    refine wl_end (then_n (wp_ret (then_r (blk_r (then_r (then_r (blk_r (then_r (then_r (?_))))))))))
    obtain rfl := oi hR1
    replace hF := on_ret hF
    obtain rfl := oi hF
    refine rT hf ?_
    exact ⟨_, rfl, H.bel, mk_int⟩
   ·refine wp_skip (then_n (reg (pz 3 hf fun a hf => ?_)))
    have hf := hf.pn [0, 1, 5]
    refine wl_end (blk_n (then_n (reg (pz 3 hf fun a hf => ?_))))
    refine wl_end ?_
    have hf := hf.pn [0, 1, 5]
    have H := H.lt_ [] [] [] [1]
    exact then_n ⟨(w64 (k2 + 1), w64 (i + 1)), hR1, hf, H⟩
  ·refine wp_exit (then_x (then_x (blk_e (?_))))
   have hf := hf.pn [0, 1, 5]
   have H := H.lt_ [] [] [] [0]
   exact ⟨(k2, i), (Option.some.inj hR1).symm, hf, H⟩
 rintro a w ⟨⟨k3, i2⟩, rfl, hf, H⟩
 replace hF := on_next hF
 try dsimp only at hF
 refine then_n (sqz (pz 2 hf fun a hf => ?_))
 refine wer ?_
 obtain rfl := oi hF
 refine rT hf ?_
 exact ⟨_, rfl, H.bel, mk_int⟩
theorem laws_heldFiberS_ok {S : Nat → Prop} {v0_ : Value} {v1_ : Value} {a' : List Fiber} {k' : Int} {r : Int} (h0 : VR w0 S v0_ a') (h1 : VR w0 S v1_ k') (hF : laws_heldFiberS fu a' k' = some r) :
    Calls Tryz.prog 138 [v0_, v1_].toArray w0 fun e w' => ∃ v, e = .returned v ∧ (Below w0.heap.size w0 w' ∧ VR w' (St ⟨w0, []⟩ S [] [] [] true) v r) := by
 obtain ⟨A, c, rfl, hl⟩ := VR_list h0
 obtain rfl := VR_int h1
 have H := Mem.start ⟨w0, []⟩ S
 have H := H.pA hl
 refine en Tryz.func138 fun a hf => ?_
 rw [laws_heldFiberS] at hF
 refine sqz (pz 1 hf fun a hf => ?_)
 refine we (sqz (pz 1 hf fun a hf => ?_))
 refine wl_end (then_n ?_)
 obtain ⟨out', hB1, hF⟩ := bs_ hF
 have hf := hf.pn [0, 1, 5]
 have H := H.lt_ [] [] [] [0]
 refine loopC (fun (s : Int × Int) (a : Act) (w : World) => match s with | (k2, i) => Fr a 49 [(0, (.slice A a'.length c)), (1, (.int .i64 k2)), (5, (.int .i64 i))] ∧ Mem ⟨w0, []⟩ S [] [] [] [(false, MP.val [(.slice A a'.length c)] (a' : List Fiber))] w) (fun k (s : Int × Int) => laws_heldFiberS_L1 fu a' k s.1 s.2 = some out') (fun s => out' = Out.next s) (k', 0) fu hB1 ⟨hf, H⟩ (fun s h => by cases h) ?_ ?_
 ·rintro fk ⟨k2, i⟩ a w hR1 hI
  replace hR1 : laws_heldFiberS_L1 fu a' (fk + 1) k2 i = some out' := hR1
  rw [laws_heldFiberS_L1] at hR1
  obtain ⟨hf, H⟩ := hI
  refine sq (sqz (pz 4 hf fun a hf => ?_))
  refine wl_end (then_n (ib hR1 hf (fun hc hR1 => ?_) fun hc hR1 => ?_))
  ·refine wp_skip (then_n (sq (wp_block (sq (sqz (pz 2 hf fun a hf => ?_))))))
   obtain ⟨e, he, hR1⟩ := bs_ hR1
   refine wl0 rfl (op_iaddr hf H Tryz.underlying40 TF.sz164 0 rfl rfl rfl he (by decide) fun p o cs a hf hr H => ?_)
   obtain rfl := Fiber_cells hr
   refine pz 1 hf fun a hf => ?_
   refine oq hf (rq_loadI hf H TF.ls3 0 0 rfl rfl rfl) fun a hf => ?_
   refine pz 2 hf fun a hf => ?_
   refine wl_end (then_n (ib hR1 hf (fun hc2 hR1 => ?_) fun hc2 hR1 => ?_))
   ·refine sqz (pz 1 hf fun a hf => ?_)
    have hf := hf.pn [4]
    refine wl_end (then_n (wp_ret (then_r (blk_r (then_r (then_r (blk_r (then_r (then_r (?_))))))))))
    obtain rfl := oi hR1
    replace hF := on_ret hF
    obtain rfl := oi hF
    refine rT hf ?_
    exact ⟨_, rfl, H.bel, mk_int⟩
   ·refine wp_skip (then_n (sqz (pz 3 hf fun a hf => ?_)))
    have hf := hf.pn [0, 1, 5]
    refine we (sqz (pz 2 hf fun a hf => ?_))
    obtain ⟨e2, he2, hR1⟩ := bs_ hR1
    refine wl0 rfl (op_iaddr hf H Tryz.underlying40 TF.sz164 1 rfl rfl rfl he2 (by decide) fun p2 o2 cs2 a hf hr2 H => ?_)
    obtain rfl := Fiber_cells hr2
    refine pz 1 hf fun a hf => ?_
    refine oq hf (rq_loadI hf H TF.ls3 0 1 rfl rfl rfl) fun a hf => ?_
    refine pz 2 hf fun a hf => ?_
    refine wl_end (then_n (ib hR1 hf (fun hc3 hR1 => ?_) fun hc3 hR1 => ?_))
    ·refine sqz (pz 1 hf fun a hf => ?_)
     refine wl_end (then_n (wp_ret (then_r (blk_r (then_r (then_r (blk_r (then_r (then_r (?_))))))))))
     obtain rfl := oi hR1
     replace hF := on_ret hF
     obtain rfl := oi hF
     refine rT hf ?_
     exact ⟨_, rfl, H.bel, mk_int⟩
    ·refine wp_skip (then_n (sqz (pz 3 hf fun a hf => ?_)))
     refine we (sqz (pz 2 hf fun a hf => ?_))
     obtain ⟨e3, he3, hR1⟩ := bs_ hR1
     refine wl0 rfl (op_iaddr hf H Tryz.underlying40 TF.sz164 2 rfl rfl rfl he3 (by decide) fun p3 o3 cs3 a hf hr3 H => ?_)
     obtain rfl := Fiber_cells hr3
     refine pz 1 hf fun a hf => ?_
     refine oq hf (rq_loadI hf H TF.ls3 0 2 rfl rfl rfl) fun a hf => ?_
     refine pz 2 hf fun a hf => ?_
     have hf := hf.pn [0, 1, 5, 36]
     refine wl_end (then_n (ib hR1 hf (fun hc4 hR1 => ?_) fun hc4 hR1 => ?_))
     ·refine sqz (pz 1 hf fun a hf => ?_)
      refine wl_end (then_n (wp_ret (then_r (blk_r (then_r (then_r (blk_r (then_r (then_r (?_))))))))))
      obtain rfl := oi hR1
      replace hF := on_ret hF
      obtain rfl := oi hF
      refine rT hf ?_
      exact ⟨_, rfl, H.bel, mk_int⟩
     ·refine wp_skip (then_n (sqz (pz 3 hf fun a hf => ?_)))
      refine we (sqz (pz 2 hf fun a hf => ?_))
      obtain ⟨e4, he4, hR1⟩ := bs_ hR1
      refine wl0 rfl (op_iaddr hf H Tryz.underlying40 TF.sz164 3 rfl rfl rfl he4 (by decide) fun p4 o4 cs4 a hf hr4 H => ?_)
      obtain rfl := Fiber_cells hr4
      refine pz 1 hf fun a hf => ?_
      refine oq hf (rq_loadI hf H TF.ls3 0 3 rfl rfl rfl) fun a hf => ?_
      refine pz 2 hf fun a hf => ?_
      refine wl_end (then_n (ib hR1 hf (fun hc5 hR1 => ?_) fun hc5 hR1 => ?_))
      ·refine sqz (pz 1 hf fun a hf => ?_)
       have hf := hf.pn [4]
       refine wl_end (then_n (wp_ret (then_r (blk_r (then_r (then_r (blk_r (then_r (then_r (?_))))))))))
       obtain rfl := oi hR1
       replace hF := on_ret hF
       obtain rfl := oi hF
       refine rT hf ?_
       exact ⟨_, rfl, H.bel, mk_int⟩
      ·refine wp_skip (then_n (reg (pz 3 hf fun a hf => ?_)))
       refine wl_end (blk_n (then_n (reg (pz 3 hf fun a hf => ?_))))
       have hf := hf.pn [0, 1, 5]
       refine wl_end ?_
       have hf := hf.pn [0, 1, 5]
       have H := H.lt_ [] [] [] [4]
       exact then_n ⟨(w64 ((w64 ((w64 ((w64 (k2 + 1)) + 1)) + 1)) + 1), w64 (i + 1)), hR1, hf, H⟩
  ·refine wp_exit (then_x (then_x (blk_e (?_))))
   have hf := hf.pn [0, 1, 5]
   have H := H.lt_ [] [] [] [0]
   exact ⟨(k2, i), (Option.some.inj hR1).symm, hf, H⟩
 rintro a w ⟨⟨k3, i2⟩, rfl, hf, H⟩
 replace hF := on_next hF
 try dsimp only at hF
 refine then_n (sqz (pz 2 hf fun a hf => ?_))
 refine wer ?_
 obtain rfl := oi hF
 refine rT hf ?_
 exact ⟨_, rfl, H.bel, mk_int⟩
theorem laws_heldNetwork_ok {S : Nat → Prop} {v0_ : Value} {v1_ : Value} {a' : Network} {k' : Int} {r : Int} (h0 : VR w0 S v0_ a') (h1 : VR w0 S v1_ k') (hF : laws_heldNetwork fu a' k' = some r) :
    Calls Tryz.prog 75 [v0_, v1_].toArray w0 fun e w' => ∃ v, e = .returned v ∧ (Below w0.heap.size w0 w' ∧ VR w' (St ⟨w0, []⟩ S [] [] [] true) v r) := by
 obtain ⟨A, c, A2, c2, rfl, hl, hl2⟩ := Network_open h0
 obtain rfl := VR_int h1
 have H := Mem.start ⟨w0, []⟩ S
 have H := H.pA hl
 have H := H.pA hl2
 refine en Tryz.func75 fun a hf => ?_
 rw [laws_heldNetwork] at hF
 refine bx hf H fun b' a w hf H => ?_
 refine pz 1 hf fun a hf => ?_
 refine wr (pz 1 hf fun a hf => ?_)
 refine lB 0 hf H TF.ls22 fun a hf => ?_
 refine pz 1 hf fun a hf => ?_
 obtain ⟨y, hy, hF⟩ := bs_ hF
 refine oc hf TF.cl137 (laws_heldStringS_ok (S := TT) (mk_list (H.rt 1 rfl)) mk_int hy) fun v w a hp hf => ?_
 obtain ⟨hb, hp⟩ := hp
 obtain rfl := VR_int hp
 have H := H.keep hb
 refine pz 1 hf fun a hf => ?_
 refine we (sqz (pz 2 hf fun a hf => ?_))
 refine wl_end (then_n (ib hF hf (fun hc hF => ?_) fun hc hF => ?_))
 ·refine sqz (pz 1 hf fun a hf => ?_)
  refine wl_end (then_n (wp_ret (then_r (?_))))
  obtain rfl := oi hF
  refine rT hf ?_
  exact ⟨_, rfl, H.bel, mk_int⟩
 ·refine wp_skip (then_n (sqz (pz 1 hf fun a hf => ?_)))
  refine lB 0 hf H TF.ls40 fun a hf => ?_
  refine pz 1 hf fun a hf => ?_
  obtain ⟨y2, hy2, hF⟩ := bs_ hF
  refine oc hf TF.cl138 (laws_heldFiberS_ok (S := TT) (mk_list (H.rt 0 rfl)) mk_int hy2) fun v2 w a hp2 hf => ?_
  obtain ⟨hb2, hp2⟩ := hp2
  obtain rfl := VR_int hp2
  have H := H.keep hb2
  refine pz 1 hf fun a hf => ?_
  have hf := hf.pn [1]
  refine we (sqz (pz 2 hf fun a hf => ?_))
  refine wl_end (then_n (ib hF hf (fun hc2 hF => ?_) fun hc2 hF => ?_))
  ·refine sqz (pz 1 hf fun a hf => ?_)
   refine wl_end (then_n (wp_ret (then_r (?_))))
   obtain rfl := oi hF
   refine rT hf ?_
   exact ⟨_, rfl, H.bel, mk_int⟩
  ·refine wp_skip (then_n (sqz (pz 2 hf fun a hf => ?_)))
   refine wer ?_
   obtain rfl := oi hF
   refine rT hf ?_
   exact ⟨_, rfl, H.bel, mk_int⟩
theorem laws_heldIntS_ok {S : Nat → Prop} {v0_ : Value} {v1_ : Value} {a' : List Int} {k' : Int} {r : Int} (h0 : VR w0 S v0_ a') (h1 : VR w0 S v1_ k') (hF : laws_heldIntS fu a' k' = some r) :
    Calls Tryz.prog 139 [v0_, v1_].toArray w0 fun e w' => ∃ v, e = .returned v ∧ (Below w0.heap.size w0 w' ∧ VR w' (St ⟨w0, []⟩ S [] [] [] true) v r) := by
 obtain ⟨A, c, rfl, hl⟩ := VR_list h0
 obtain rfl := VR_int h1
 have H := Mem.start ⟨w0, []⟩ S
 have H := H.pA hl
 refine en Tryz.func139 fun a hf => ?_
 rw [laws_heldIntS] at hF
 refine sqz (pz 1 hf fun a hf => ?_)
 refine we (sqz (pz 1 hf fun a hf => ?_))
 refine wl_end (then_n ?_)
 obtain ⟨out', hB1, hF⟩ := bs_ hF
 have hf := hf.pn [0, 1, 5]
 have H := H.lt_ [] [] [] [0]
 refine loopC (fun (s : Int × Int) (a : Act) (w : World) => match s with | (k2, i) => Fr a 21 [(0, (.slice A a'.length c)), (1, (.int .i64 k2)), (5, (.int .i64 i))] ∧ Mem ⟨w0, []⟩ S [] [] [] [(false, MP.val [(.slice A a'.length c)] (a' : List Int))] w) (fun k (s : Int × Int) => laws_heldIntS_L1 fu a' k s.1 s.2 = some out') (fun s => out' = Out.next s) (k', 0) fu hB1 ⟨hf, H⟩ (fun s h => by cases h) ?_ ?_
 ·rintro fk ⟨k2, i⟩ a w hR1 hI
  replace hR1 : laws_heldIntS_L1 fu a' (fk + 1) k2 i = some out' := hR1
  rw [laws_heldIntS_L1] at hR1
  obtain ⟨hf, H⟩ := hI
  refine sq (sqz (pz 4 hf fun a hf => ?_))
  refine wl_end (then_n (ib hR1 hf (fun hc hR1 => ?_) fun hc hR1 => ?_))
  ·refine wp_skip (then_n (sq (wp_block (sq (sqz (pz 2 hf fun a hf => ?_))))))
   obtain ⟨e, he, hR1⟩ := bs_ hR1
   refine wl0 rfl (op_iaddr hf H Tryz.underlying29 TF.sz3 0 rfl rfl rfl he (by decide) fun p o cs a hf hr H => ?_)
   obtain rfl := hr
   refine oq hf (rq_loadI hf H TF.ls3 0 0 rfl rfl rfl) fun a hf => ?_
   refine pz 2 hf fun a hf => ?_
   refine wl_end (then_n (ib hR1 hf (fun hc2 hR1 => ?_) fun hc2 hR1 => ?_))
   ·refine sqz (pz 1 hf fun a hf => ?_)
    have hf := hf.pn [4]
    refine wl_end (then_n (wp_ret (then_r (blk_r (then_r (then_r (blk_r (then_r (then_r (?_))))))))))
    obtain rfl := oi hR1
    replace hF := on_ret hF
    obtain rfl := oi hF
    refine rT hf ?_
    exact ⟨_, rfl, H.bel, mk_int⟩
   ·refine wp_skip (then_n (reg (pz 3 hf fun a hf => ?_)))
    refine wl_end (blk_n (then_n (reg (pz 3 hf fun a hf => ?_))))
    have hf := hf.pn [0, 1, 5]
    refine wl_end ?_
    have hf := hf.pn [0, 1, 5]
    have H := H.lt_ [] [] [] [1]
    exact then_n ⟨(w64 (k2 + 1), w64 (i + 1)), hR1, hf, H⟩
  ·refine wp_exit (then_x (then_x (blk_e (?_))))
   have hf := hf.pn [0, 1, 5]
   have H := H.lt_ [] [] [] [0]
   exact ⟨(k2, i), (Option.some.inj hR1).symm, hf, H⟩
 rintro a w ⟨⟨k3, i2⟩, rfl, hf, H⟩
 replace hF := on_next hF
 try dsimp only at hF
 refine then_n (sqz (pz 2 hf fun a hf => ?_))
 refine wer ?_
 obtain rfl := oi hF
 refine rT hf ?_
 exact ⟨_, rfl, H.bel, mk_int⟩
theorem laws_heldLightS_ok {S : Nat → Prop} {v0_ : Value} {v1_ : Value} {a' : List Light} {k' : Int} {r : Int} (h0 : VR w0 S v0_ a') (h1 : VR w0 S v1_ k') (hF : laws_heldLightS fu a' k' = some r) :
    Calls Tryz.prog 76 [v0_, v1_].toArray w0 fun e w' => ∃ v, e = .returned v ∧ (Below w0.heap.size w0 w' ∧ VR w' (St ⟨w0, []⟩ S [] [] [] true) v r) := by
 obtain ⟨A, c, rfl, hl⟩ := VR_list h0
 obtain rfl := VR_int h1
 have H := Mem.start ⟨w0, []⟩ S
 have H := H.pA hl
 refine en Tryz.func76 fun a hf => ?_
 rw [laws_heldLightS] at hF
 refine sqz (pz 1 hf fun a hf => ?_)
 refine we (sqz (pz 1 hf fun a hf => ?_))
 refine wl_end (then_n ?_)
 obtain ⟨out', hB1, hF⟩ := bs_ hF
 have hf := hf.pn [0, 1, 5]
 have H := H.lt_ [] [] [] [0]
 refine loopC (fun (s : Int × Int) (a : Act) (w : World) => match s with | (k2, i) => Fr a 62 [(0, (.slice A a'.length c)), (1, (.int .i64 k2)), (5, (.int .i64 i))] ∧ Mem ⟨w0, []⟩ S [] [] [] [(false, MP.val [(.slice A a'.length c)] (a' : List Light))] w) (fun k (s : Int × Int) => laws_heldLightS_L1 fu a' k s.1 s.2 = some out') (fun s => out' = Out.next s) (k', 0) fu hB1 ⟨hf, H⟩ (fun s h => by cases h) ?_ ?_
 ·rintro fk ⟨k2, i⟩ a w hR1 hI
  replace hR1 : laws_heldLightS_L1 fu a' (fk + 1) k2 i = some out' := hR1
  rw [laws_heldLightS_L1] at hR1
  obtain ⟨hf, H⟩ := hI
  refine sq (sqz (pz 4 hf fun a hf => ?_))
  refine wl_end (then_n (ib hR1 hf (fun hc hR1 => ?_) fun hc hR1 => ?_))
  ·refine wp_skip (then_n (sq (wp_block (sq (sqz (pz 2 hf fun a hf => ?_))))))
   obtain ⟨e, he, hR1⟩ := bs_ hR1
   refine wl0 rfl (op_iaddr hf H Tryz.underlying43 TF.sz52 0 rfl rfl rfl he (by decide) fun p o cs a hf hr H => ?_)
   obtain ⟨A2, c2, rfl, hl2⟩ := Light_cells hr
   have H := H.pF hl2
   refine pz 1 hf fun a hf => ?_
   refine oq hf (rq_loadI hf H TF.ls3 1 0 rfl rfl rfl) fun a hf => ?_
   refine pz 2 hf fun a hf => ?_
   refine wl_end (then_n (ib hR1 hf (fun hc2 hR1 => ?_) fun hc2 hR1 => ?_))
   ·refine sqz (pz 1 hf fun a hf => ?_)
    have hf := hf.pn [4]
    refine wl_end (then_n (wp_ret (then_r (blk_r (then_r (then_r (blk_r (then_r (then_r (?_))))))))))
    obtain rfl := oi hR1
    replace hF := on_ret hF
    obtain rfl := oi hF
    refine rT hf ?_
    exact ⟨_, rfl, H.bel, mk_int⟩
   ·refine wp_skip (then_n (sqz (pz 3 hf fun a hf => ?_)))
    have hf := hf.pn [0, 1, 5]
    refine we (sqz (pz 2 hf fun a hf => ?_))
    obtain ⟨e2, he2, hR1⟩ := bs_ hR1
    refine wl0 rfl (op_iaddr hf H Tryz.underlying43 TF.sz52 2 rfl rfl rfl he2 (by decide) fun p2 o2 cs2 a hf hr2 H => ?_)
    obtain ⟨A3, c3, rfl, hl3⟩ := Light_cells hr2
    have H := H.pF hl3
    refine pz 2 hf fun a hf => ?_
    refine oq hf (rq_loadI hf H TF.ls3 1 1 rfl rfl rfl) fun a hf => ?_
    refine pz 2 hf fun a hf => ?_
    refine wl_end (then_n (ib hR1 hf (fun hc3 hR1 => ?_) fun hc3 hR1 => ?_))
    ·refine sqz (pz 1 hf fun a hf => ?_)
     refine wl_end (then_n (wp_ret (then_r (blk_r (then_r (then_r (blk_r (then_r (then_r (?_))))))))))
     obtain rfl := oi hR1
     replace hF := on_ret hF
     obtain rfl := oi hF
     refine rT hf ?_
     exact ⟨_, rfl, H.bel, mk_int⟩
    ·refine wp_skip (then_n (sqz (pz 3 hf fun a hf => ?_)))
     refine wr (pz 2 hf fun a hf => ?_)
     obtain ⟨e3, he3, hR1⟩ := bs_ hR1
     refine wl0 rfl (op_iaddr hf H Tryz.underlying43 TF.sz52 4 rfl rfl rfl he3 (by decide) fun p3 o3 cs3 a hf hr3 H => ?_)
     obtain ⟨A4, c4, rfl, hl4⟩ := Light_cells hr3
     have H := H.pF hl4
     refine pz 2 hf fun a hf => ?_
     refine oq hf (rq_loadI hf H TF.ls29 1 2 rfl rfl rfl) fun a hf => ?_
     refine pz 1 hf fun a hf => ?_
     obtain ⟨y, hy, hR1⟩ := bs_ hR1
     refine oc hf TF.cl139 (laws_heldIntS_ok (S := TT) (mk_list (H.rt 0 rfl)) mk_int hy) fun v w a hp hf => ?_
     obtain ⟨hb, hp⟩ := hp
     obtain rfl := VR_int hp
     have H := H.keep hb
     refine pz 1 hf fun a hf => ?_
     have hf := hf.pn [0, 1, 5]
     refine we (sqz (pz 2 hf fun a hf => ?_))
     refine wl_end (then_n (ib hR1 hf (fun hc4 hR1 => ?_) fun hc4 hR1 => ?_))
     ·refine sqz (pz 1 hf fun a hf => ?_)
      refine wl_end (then_n (wp_ret (then_r (blk_r (then_r (then_r (blk_r (then_r (then_r (?_))))))))))
      obtain rfl := oi hR1
      replace hF := on_ret hF
      obtain rfl := oi hF
      refine rT hf ?_
      exact ⟨_, rfl, H.bel, mk_int⟩
     ·refine wp_skip (then_n (sq (sqz (pz 2 hf fun a hf => ?_))))
      obtain ⟨e4, he4, hR1⟩ := bs_ hR1
      refine wl0 rfl (op_iaddr hf H Tryz.underlying43 TF.sz52 6 rfl rfl rfl he4 (by decide) fun p4 o4 cs4 a hf hr4 H => ?_)
      obtain ⟨A5, c5, rfl, hl5⟩ := Light_cells hr4
      have H := H.pF hl5
      refine pz 2 hf fun a hf => ?_
      refine oq hf (rq_loadI hf H TF.ls3 1 3 rfl rfl rfl) fun a hf => ?_
      refine pz 2 hf fun a hf => ?_
      refine wl_end (then_n (ib hR1 hf (fun hc5 hR1 => ?_) fun hc5 hR1 => ?_))
      ·refine sqz (pz 1 hf fun a hf => ?_)
       have hf := hf.pn [4]
       refine wl_end (then_n (wp_ret (then_r (blk_r (then_r (then_r (blk_r (then_r (then_r (?_))))))))))
       obtain rfl := oi hR1
       replace hF := on_ret hF
       obtain rfl := oi hF
       refine rT hf ?_
       exact ⟨_, rfl, H.bel, mk_int⟩
      ·refine wp_skip (then_n (sqz (pz 3 hf fun a hf => ?_)))
       refine we (sqz (pz 2 hf fun a hf => ?_))
       obtain ⟨e5, he5, hR1⟩ := bs_ hR1
       refine wl0 rfl (op_iaddr hf H Tryz.underlying43 TF.sz52 8 rfl rfl rfl he5 (by decide) fun p5 o5 cs5 a hf hr5 H => ?_)
       obtain ⟨A6, c6, rfl, hl6⟩ := Light_cells hr5
       have H := H.pF hl6
       refine pz 2 hf fun a hf => ?_
       refine oq hf (rq_loadI hf H TF.ls3 1 4 rfl rfl rfl) fun a hf => ?_
       refine pz 2 hf fun a hf => ?_
       have hf := hf.pn [0, 1, 5, 58]
       refine wl_end (then_n (ib hR1 hf (fun hc6 hR1 => ?_) fun hc6 hR1 => ?_))
       ·refine sqz (pz 1 hf fun a hf => ?_)
        refine wl_end (then_n (wp_ret (then_r (blk_r (then_r (then_r (blk_r (then_r (then_r (?_))))))))))
        obtain rfl := oi hR1
        replace hF := on_ret hF
        obtain rfl := oi hF
        refine rT hf ?_
        exact ⟨_, rfl, H.bel, mk_int⟩
       ·refine wp_skip (then_n (reg (pz 3 hf fun a hf => ?_)))
        refine wl_end (blk_n (then_n (reg (pz 3 hf fun a hf => ?_))))
        refine wl_end ?_
        have hf := hf.pn [0, 1, 5]
        have H := H.lt_ [] [] [] [10]
        exact then_n ⟨(w64 ((w64 (y + 1)) + 1), w64 (i + 1)), hR1, hf, H⟩
  ·refine wp_exit (then_x (then_x (blk_e (?_))))
   have hf := hf.pn [0, 1, 5]
   have H := H.lt_ [] [] [] [0]
   exact ⟨(k2, i), (Option.some.inj hR1).symm, hf, H⟩
 rintro a w ⟨⟨k3, i2⟩, rfl, hf, H⟩
 replace hF := on_next hF
 try dsimp only at hF
 refine then_n (sqz (pz 2 hf fun a hf => ?_))
 refine wer ?_
 obtain rfl := oi hF
 refine rT hf ?_
 exact ⟨_, rfl, H.bel, mk_int⟩
theorem laws_heldPlan_ok {S : Nat → Prop} {v0_ : Value} {v1_ : Value} {a' : Plan} {k' : Int} {r : Int} (h0 : VR w0 S v0_ a') (h1 : VR w0 S v1_ k') (hF : laws_heldPlan fu a' k' = some r) :
    Calls Tryz.prog 21 [v0_, v1_].toArray w0 fun e w' => ∃ v, e = .returned v ∧ (Below w0.heap.size w0 w' ∧ VR w' (St ⟨w0, []⟩ S [] [] [] true) v r) := by
 obtain ⟨A, c, A2, c2, A3, c3, rfl, hl, hl2, hl3⟩ := Plan_open h0
 obtain rfl := VR_int h1
 have H := Mem.start ⟨w0, []⟩ S
 have H := H.pA hl
 have H := H.pA hl2
 have H := H.pA hl3
 refine en Tryz.func21 fun a hf => ?_
 rw [laws_heldPlan] at hF
 refine bx hf H fun b' a w hf H => ?_
 refine pz 1 hf fun a hf => ?_
 refine wr (pz 1 hf fun a hf => ?_)
 refine lN 0 hf H TF.la42 fun a hf => ?_
 refine pz 1 hf fun a hf => ?_
 obtain ⟨y, hy, hF⟩ := bs_ hF
 refine oc hf TF.cl75 (laws_heldNetwork_ok (S := TT) (Network_mkv (x := a'.Network) (H.rt 2 rfl) (H.rt 1 rfl)) mk_int hy) fun v w a hp hf => ?_
 obtain ⟨hb, hp⟩ := hp
 obtain rfl := VR_int hp
 have H := H.keep hb
 refine pz 1 hf fun a hf => ?_
 refine we (sqz (pz 2 hf fun a hf => ?_))
 refine wl_end (then_n (ib hF hf (fun hc hF => ?_) fun hc hF => ?_))
 ·refine sqz (pz 1 hf fun a hf => ?_)
  refine wl_end (then_n (wp_ret (then_r (?_))))
  obtain rfl := oi hF
  refine rT hf ?_
  exact ⟨_, rfl, H.bel, mk_int⟩
 ·refine wp_skip (then_n (sqz (pz 1 hf fun a hf => ?_)))
  refine lB 0 hf H TF.ls43 fun a hf => ?_
  refine pz 1 hf fun a hf => ?_
  obtain ⟨y2, hy2, hF⟩ := bs_ hF
  refine oc hf TF.cl76 (laws_heldLightS_ok (S := TT) (mk_list (H.rt 0 rfl)) mk_int hy2) fun v2 w a hp2 hf => ?_
  obtain ⟨hb2, hp2⟩ := hp2
  obtain rfl := VR_int hp2
  have H := H.keep hb2
  refine pz 1 hf fun a hf => ?_
  have hf := hf.pn [1]
  refine we (sqz (pz 2 hf fun a hf => ?_))
  refine wl_end (then_n (ib hF hf (fun hc2 hF => ?_) fun hc2 hF => ?_))
  ·refine sqz (pz 1 hf fun a hf => ?_)
   refine wl_end (then_n (wp_ret (then_r (?_))))
   obtain rfl := oi hF
   refine rT hf ?_
   exact ⟨_, rfl, H.bel, mk_int⟩
  ·refine wp_skip (then_n (sqz (pz 2 hf fun a hf => ?_)))
   refine wer ?_
   obtain rfl := oi hF
   refine rT hf ?_
   exact ⟨_, rfl, H.bel, mk_int⟩
theorem spec_l20Inverse_ok {S : Nat → Prop} {v0_ : Value} {v1_ : Value} {p : Plan} {a' : Action} {r : Action} (h0 : VR w0 S v0_ p) (h1 : VR w0 S v1_ a') (hF : spec_l20Inverse fu p a' = some r) :
    Calls Tryz.prog 77 [v0_, v1_].toArray w0 fun e w' => ∃ v, e = .returned v ∧ (Below w0.heap.size w0 w' ∧ ∃ F0, VO w' F0 v r ∧ New w0 w' F0) := by
 obtain ⟨A, c, A2, c2, A3, c3, rfl, hl, hl2, hl3⟩ := Plan_open h0
 obtain ⟨A4, c4, rfl, hl4⟩ := Action_open h1
 have H := Mem.start ⟨w0, []⟩ S
 have H := H.pA hl
 have H := H.pA hl2
 have H := H.pA hl3
 have H := H.pA hl4
 refine en Tryz.func77 fun a hf => ?_
 rw [spec_l20Inverse] at hF
 refine bx hf H fun b' a w hf H => ?_
 refine wl0 rfl (op_box hf H rfl rfl (by decide) fun b2 a w hf H => ?_)
 refine aL hf H TF.zv54 fun b3 a w hf H => ?_
 refine we (sqz (pz 1 hf fun a hf => ?_))
 refine lB 1 hf H TF.ls3 fun a hf => ?_
 refine wl_end (then_n (wp_block (sqz (pz 2 hf fun a hf => ?_))))
 refine wl_end (then_n (ib hF hf (fun hc hF => ?_) fun hc hF => ?_))
 ·refine sqz (pz 1 hf fun a hf => ?_)
  refine lN 1 hf H TF.la52 fun a hf => ?_
  obtain ⟨y, hy, hF⟩ := bs_ hF
  refine oc hf TF.cl140 (spec_l9Copy_ok (S := TT) (Light_mkv (x := a'.Light) (H.rt 0 rfl)) hy) fun v w a hp hf => ?_
  obtain ⟨hb, F, hp2, hN⟩ := hp
  obtain ⟨A5, c5, F2, rfl, rfl, hl5⟩ := Light_vo hp2
  have H := H.aO1 hb hN hl5
  have H := H.lend 0 rfl
  refine oq hf (rq_build hf (cs := [(.int .i64 2), (.int .i64 y.Id), (.int .i64 y.Route.Start), (.slice A5 y.Route.Fibers.length c5), (.int .i64 y.Block.First), (.int .i64 y.Block.Count)]) rfl (fun w => by kernel_rfl)) fun a hf => ?_
  refine sB 0 hf H TF.sz54 fun w H => ?_
  refine wl_end (then_n (wp_ret (blk_r (then_r (?_)))))
  obtain rfl := oi hF
  refine ret_1 hf rfl (rv_cellN hf H 0 TF.la54 rfl rfl rfl) ?_
  have hN := H.ends1
  exact ⟨_, rfl, H.bel, F2, ⟨_, Action_ownmk (x := ({ Kind := 2, Light := y } : Action)) (H.ownAt 0 rfl), rfl⟩, hN⟩
 ·refine sqz (pz 2 hf fun a hf => ?_)
  refine wl_end (then_n (ib hF hf (fun hc2 hF => ?_) fun hc2 hF => ?_))
  ·refine sqz (pz 1 hf fun a hf => ?_)
   refine lN 1 hf H TF.la52 fun a hf => ?_
   obtain ⟨y2, hy2, hF⟩ := bs_ hF
   refine oc hf TF.cl140 (spec_l9Copy_ok (S := TT) (Light_mkv (x := a'.Light) (H.rt 0 rfl)) hy2) fun v2 w a hp3 hf => ?_
   obtain ⟨hb2, F3, hp4, hN2⟩ := hp3
   obtain ⟨A6, c6, F4, rfl, rfl, hl6⟩ := Light_vo hp4
   have H := H.aO1 hb2 hN2 hl6
   have H := H.lend 0 rfl
   refine oq hf (rq_build hf (cs := [(.int .i64 1), (.int .i64 y2.Id), (.int .i64 y2.Route.Start), (.slice A6 y2.Route.Fibers.length c6), (.int .i64 y2.Block.First), (.int .i64 y2.Block.Count)]) rfl (fun w => by kernel_rfl)) fun a hf => ?_
   refine sB 0 hf H TF.sz54 fun w H => ?_
   have hf := hf.pn [4]
   refine wl_end (then_n (wp_ret (blk_r (then_r (?_)))))
   obtain rfl := oi hF
   refine ret_1 hf rfl (rv_cellN hf H 0 TF.la54 rfl rfl rfl) ?_
   have hN := H.ends1
   exact ⟨_, rfl, H.bel, F4, ⟨_, Action_ownmk (x := ({ Kind := 1, Light := y2 } : Action)) (H.ownAt 0 rfl), rfl⟩, hN⟩
  ·refine wp_skip (blk_n (then_n (sq (dw [11] 12 fun w hb => ?_))))
   have H := H.keep hb
   refine zp 0 hf trivial fun a hf => ?_
   refine strT (H.lt_ [false, false, true] [] [] []) (fun w H => trivial) fun hS => ?_
   refine zS 1 [1, 7, 8, 9, 10, 11] rfl rfl rfl rfl hf hS (fun w H => rq_loadB hf H TF.ls43 0 rfl rfl rfl) fun a hf => ?_
   refine zS 2 [2, 6, 7, 8, 9, 10, 11] rfl rfl rfl rfl hf hS (fun w H => rq_loadBN hf H TF.la45 0 rfl rfl rfl rfl) fun a hf => ?_
   refine zp 3 hf hS fun a hf => ?_
   refine zp 4 hf hS fun a hf => ?_
   refine strT (H.lt_ [false, true, true] [] [] []) (fun w H => H.lt_ [false, true] [] [] []) fun hS => ?_
   refine zS 5 [5, 6, 7, 8, 9, 10, 11] rfl rfl rfl rfl hf hS (fun w H => rq_loadB hf H TF.ls3 0 rfl rfl rfl) fun a hf => ?_
   obtain ⟨y3, hy3, hF⟩ := bs_ hF
   refine nn 6 rfl (oC hf TF.cl101 (spec_l9Find_ok (S := TT) (Plan_mkv (x := p) (H.rt 3 rfl) (H.rt 2 rfl) (H.rt 1 rfl)) mk_int hy3) fun v3 w a hp5 hf => ?_)
   obtain ⟨hb3, hp5⟩ := hp5
   obtain rfl := VR_int hp5
   have H := H.keep hb3
   have hS := H.lt_ [false, true, true] [] [] []
   refine aS hS ?_
   obtain ⟨e, he, hF⟩ := bs_ hF
   obtain ⟨p2, o, cs, hx, hr, H⟩ := pre_iaddr H Tryz.underlying43 TF.sz52 1 rfl he
   refine zP 7 rfl rfl rfl rfl hf hS (fun w => rq_iaddrE hf rfl rfl rfl hx w) fun a hf => ?_
   obtain ⟨A7, c7, rfl, hl7⟩ := Light_cells hr
   have H := H.pF hl7
   refine strT (H.lt_ [false, true, true] [] [] [1]) (fun w H => H.lt_ [true, true] [] [] []) fun hS => ?_
   refine zS 8 [8, 9, 10, 11] rfl rfl rfl rfl hf hS (fun w H => rq_loadIN hf H TF.la52 0 0 rfl rfl rfl rfl) fun a hf => ?_
   obtain ⟨y4, hy4, hF⟩ := bs_ hF
   refine nn 9 rfl (oC hf TF.cl140 (spec_l9Copy_ok (S := TT) (Light_mkv (x := e) (H.rt 0 rfl)) hy4) fun v4 w a hp6 hf => ?_)
   obtain ⟨hb4, F5, hp7, hN3⟩ := hp6
   obtain ⟨A8, c8, F6, rfl, rfl, hl8⟩ := Light_vo hp7
   have H := H.aO1 hb4 hN3 hl8
   have H := H.lend 0 rfl
   have hS := H.lt_ [false, true, true] [] [false] [2]
   refine aS hS ?_
   refine zP 10 rfl rfl rfl rfl hf hS (fun w => rq_build hf (cs := [(.int .i64 3), (.int .i64 y4.Id), (.int .i64 y4.Route.Start), (.slice A8 y4.Route.Fibers.length c8), (.int .i64 y4.Block.First), (.int .i64 y4.Block.Count)]) rfl (fun w => by kernel_rfl)) fun a hf => ?_
   refine nn 11 rfl (op_storeB hf H 0 TF.sz54 rfl rfl rfl rfl rfl rfl (nle rfl) fun w H => ?_)
   refine ⟨fun h => absurd h (by decide), ?_⟩
   refine dk ?_
   have hf := hf.pn [4]
   refine then_n (wp_ret (?_))
   obtain rfl := oi hF
   refine ret_1 hf rfl (rv_cellN hf H 0 TF.la54 rfl rfl rfl) ?_
   have hN := H.ends1
   exact ⟨_, rfl, H.bel, F6, ⟨_, Action_ownmk (x := ({ Kind := 3, Light := y4 } : Action)) (H.ownAt 0 rfl), rfl⟩, hN⟩
theorem impl_copyLight_ok {S : Nat → Prop} {v0_ : Value} {x1 : Light} {r : Light} (h0 : VR w0 S v0_ x1) (hF : impl_copyLight fu x1 = some r) :
    Calls Tryz.prog 78 [v0_].toArray w0 fun e w' => ∃ v, e = .returned v ∧ (Below w0.heap.size w0 w' ∧ ∃ F0, VO w' F0 v r ∧ New w0 w' F0) := by
 obtain ⟨A, c, rfl, hl⟩ := Light_open h0
 have H := Mem.start ⟨w0, []⟩ S
 have H := H.pA hl
 refine en Tryz.func78 fun a hf => ?_
 rw [impl_copyLight] at hF
 refine bx hf H fun b' a w hf H => ?_
 refine aL hf H TF.zv52 fun b2 a w hf H => ?_
 refine wl_end (then_n (sq (dw [8] 9 fun w hb => ?_)))
 have H := H.keep hb
 refine zp 0 hf trivial fun a hf => ?_
 refine strT (H.lt_ [false, true] [] [] []) (fun w H => trivial) fun hS => ?_
 refine zS 1 [1, 7, 8] rfl rfl rfl rfl hf hS (fun w H => rq_loadB hf H TF.ls3 0 rfl rfl rfl) fun a hf => ?_
 refine zp 2 hf hS fun a hf => ?_
 refine zS 3 [3, 4, 7, 8] rfl rfl rfl rfl hf hS (fun w H => rq_loadBN hf H TF.la49 0 rfl rfl rfl rfl) fun a hf => ?_
 refine zp 5 hf hS fun a hf => ?_
 refine zS 6 [6, 7, 8] rfl rfl rfl rfl hf hS (fun w H => rq_loadBN hf H TF.la50 0 rfl rfl rfl rfl) fun a hf => ?_
 obtain ⟨y, hy, hF⟩ := bs_ hF
 refine nn 4 rfl (oC hf TF.cl129 (impl_copyRoute_ok (S := TT) (Route_mkv (x := x1.Route) (H.rt 0 rfl)) hy) fun v w a hp hf => ?_)
 obtain ⟨hb, F, hp2, hN⟩ := hp
 obtain ⟨A2, c2, F2, rfl, rfl, hl2⟩ := Route_vo hp2
 have H := H.aO1 hb hN hl2
 have H := H.lend 0 rfl
 have hS := H.lt_ [false, true] [] [false] []
 refine aS hS ?_
 refine zP 7 rfl rfl rfl rfl hf hS (fun w => rq_build hf (cs := [(.int .i64 x1.Id), (.int .i64 y.Start), (.slice A2 y.Fibers.length c2), (.int .i64 x1.Block.First), (.int .i64 x1.Block.Count)]) rfl (fun w => by kernel_rfl)) fun a hf => ?_
 refine nn 8 rfl (op_storeB hf H 0 TF.sz52 rfl rfl rfl rfl rfl rfl (nle rfl) fun w H => ?_)
 refine ⟨fun h => absurd h (by decide), ?_⟩
 refine dk ?_
 refine then_n (wp_ret (?_))
 obtain rfl := oi hF
 refine ret_1 hf rfl (rv_cellN hf H 0 TF.la52 rfl rfl rfl) ?_
 have hN := H.ends1
 exact ⟨_, rfl, H.bel, F2, ⟨_, Light_ownmk (x := ({ Id := x1.Id, Route := y, Block := x1.Block } : Light)) (H.ownAt 0 rfl), rfl⟩, hN⟩
theorem impl_InverseAction_ok {S : Nat → Prop} {v0_ : Value} {v1_ : Value} {p : Plan} {a' : Action} {r : Action × Bool} (h0 : VR w0 S v0_ p) (h1 : VR w0 S v1_ a') (hF : impl_InverseAction fu p a' = some r) :
    Calls Tryz.prog 23 [v0_, v1_].toArray w0 fun e w' => ∃ v, e = .returned v ∧ (Below w0.heap.size w0 w' ∧ ∃ F0, ∃ u0 u1, v = .tuple #[u0, u1] ∧ VO w' F0 u0 r.1 ∧ VR w' (St ⟨w0, []⟩ S [] [] [] true) u1 r.2 ∧ New w0 w' F0) := by
 obtain ⟨A, c, A2, c2, A3, c3, rfl, hl, hl2, hl3⟩ := Plan_open h0
 obtain ⟨A4, c4, rfl, hl4⟩ := Action_open h1
 have H := Mem.start ⟨w0, []⟩ S
 have H := H.pA hl
 have H := H.pA hl2
 have H := H.pA hl3
 have H := H.pA hl4
 refine en Tryz.func23 fun a hf => ?_
 rw [impl_InverseAction] at hF
 refine bx hf H fun b' a w hf H => ?_
 refine wl0 rfl (op_box hf H rfl rfl (by decide) fun b2 a w hf H => ?_)
 refine aL hf H TF.zv54 fun b3 a w hf H => ?_
 refine pz 1 hf fun a hf => ?_
 refine wl_end (then_n (sq (sq (reg (lN 2 hf H TF.la45 fun a hf => ?_)))))
 refine lN 1 hf H TF.la54 fun a hf => ?_
 obtain ⟨y, hy, hF⟩ := bs_ hF
 refine oc hf TF.cl16 (impl_ApplyAction_ok (S := TT) (Plan_mkv (x := p) (H.rt 3 rfl) (H.rt 2 rfl) (H.rt 1 rfl)) (Action_mkv (x := a') (H.rt 0 rfl)) hy) fun v w a hp hf => ?_
 obtain ⟨hb, F, v2, v3, rfl, hp2, hp3, hN⟩ := hp
 obtain ⟨A5, c5, F2, A6, c6, F3, A7, c7, F4, rfl, rfl, hl5, hl6, hl7⟩ := Plan_vo hp2
 obtain rfl := VR_bool hp3
 have H := H.aO3 hb hN hl5 hl6 hl7
 have H := H.lend 0 rfl
 have H := H.lend 1 rfl
 have H := H.lend 2 rfl
 refine pz 3 hf fun a hf => ?_
 refine aL hf H TF.zv45 fun b4 a w hf H => ?_
 refine sB 0 hf H TF.sz45 fun w H => ?_
 refine pz 1 hf fun a hf => ?_
 refine wr (pz 2 hf fun a hf => ?_)
 refine wl_end (then_n (ib hF hf (fun hc hF => ?_) fun hc hF => ?_))
 ·refine sq (reg (oq hf (rq_build hf (cs := [(.int .i64 0), (.int .i64 0), (.int .i64 0), (.slice none 0 0), (.int .i64 0), (.int .i64 0)]) rfl (fun w => by kernel_rfl)) fun a hf => ?_))
  refine sB 1 hf H TF.sz54 fun w H => ?_
  refine pz 1 hf fun a hf => ?_
  have hf := hf.pn [4, 5]
  refine wl_end (then_n (wp_ret (then_r (?_))))
  have H := H.ownNil (Int)
  have H := H.lend 0 rfl
  obtain rfl := oi hF
  refine ret_2 hf rfl (rv_cellN hf H 1 TF.la54 rfl rfl rfl) (rv_tmp hf rfl) ?_
  have hN := H.ends1
  exact ⟨_, rfl, H.bel, [], _, _, rfl, ⟨_, Action_ownmk (x := ({ Kind := 0, Light := ({ Id := 0, Route := ({ Start := 0, Fibers := [] } : Route), Block := ({ First := 0, Count := 0 } : Block) } : Light) } : Action)) (H.ownAt 0 rfl), rfl⟩, mk_bool, hN⟩
 ·refine wp_skip (then_n (sq (sqz (pz 1 hf fun a hf => ?_))))
  refine lB 2 hf H TF.ls3 fun a hf => ?_
  have hf := hf.pn [2, 3, 4, 18]
  refine wl_end (then_n (wp_block (sqz (pz 2 hf fun a hf => ?_))))
  refine wl_end (then_n (ib hF hf (fun hc2 hF => ?_) fun hc2 hF => ?_))
  ·refine sqz (pz 1 hf fun a hf => ?_)
   refine lN 2 hf H TF.la52 fun a hf => ?_
   obtain ⟨y2, hy2, hF⟩ := bs_ hF
   refine oc hf TF.cl78 (impl_copyLight_ok (S := TT) (Light_mkv (x := a'.Light) (H.rt 3 rfl)) hy2) fun v4 w a hp4 hf => ?_
   obtain ⟨hb2, F5, hp5, hN2⟩ := hp4
   obtain ⟨A8, c8, F6, rfl, rfl, hl8⟩ := Light_vo hp5
   have H := H.aO1 hb2 hN2 hl8
   have H := H.lend 0 rfl
   refine oq hf (rq_build hf (cs := [(.int .i64 2), (.int .i64 y2.Id), (.int .i64 y2.Route.Start), (.slice A8 y2.Route.Fibers.length c8), (.int .i64 y2.Block.First), (.int .i64 y2.Block.Count)]) rfl (fun w => by kernel_rfl)) fun a hf => ?_
   refine sB 1 hf H TF.sz54 fun w H => ?_
   refine pz 1 hf fun a hf => ?_
   refine wl_end (then_n (wp_ret (blk_r (then_r (?_)))))
   obtain rfl := oi hF
   refine ret_2 hf rfl (rv_cellN hf H 1 TF.la54 rfl rfl rfl) (rv_tmp hf rfl) ?_
   have hN := H.ends1
   exact ⟨_, rfl, H.bel, F6, _, _, rfl, ⟨_, Action_ownmk (x := ({ Kind := 2, Light := y2 } : Action)) (H.ownAt 0 rfl), rfl⟩, mk_bool, hN⟩
  ·refine sqz (pz 2 hf fun a hf => ?_)
   refine wl_end (then_n (ib hF hf (fun hc3 hF => ?_) fun hc3 hF => ?_))
   ·refine sqz (pz 1 hf fun a hf => ?_)
    refine lN 2 hf H TF.la52 fun a hf => ?_
    obtain ⟨y3, hy3, hF⟩ := bs_ hF
    refine oc hf TF.cl78 (impl_copyLight_ok (S := TT) (Light_mkv (x := a'.Light) (H.rt 3 rfl)) hy3) fun v5 w a hp6 hf => ?_
    obtain ⟨hb3, F7, hp7, hN3⟩ := hp6
    obtain ⟨A9, c9, F8, rfl, rfl, hl9⟩ := Light_vo hp7
    have H := H.aO1 hb3 hN3 hl9
    have H := H.lend 0 rfl
    refine oq hf (rq_build hf (cs := [(.int .i64 1), (.int .i64 y3.Id), (.int .i64 y3.Route.Start), (.slice A9 y3.Route.Fibers.length c9), (.int .i64 y3.Block.First), (.int .i64 y3.Block.Count)]) rfl (fun w => by kernel_rfl)) fun a hf => ?_
    refine sB 1 hf H TF.sz54 fun w H => ?_
    refine pz 1 hf fun a hf => ?_
    refine wl_end (then_n (wp_ret (blk_r (then_r (?_)))))
    obtain rfl := oi hF
    refine ret_2 hf rfl (rv_cellN hf H 1 TF.la54 rfl rfl rfl) (rv_tmp hf rfl) ?_
    have hN := H.ends1
    exact ⟨_, rfl, H.bel, F8, _, _, rfl, ⟨_, Action_ownmk (x := ({ Kind := 1, Light := y3 } : Action)) (H.ownAt 0 rfl), rfl⟩, mk_bool, hN⟩
   ·refine wp_skip (blk_n (then_n (sq (dw [11] 13 fun w hb => ?_))))
    have H := H.keep hb
    refine zp 0 hf trivial fun a hf => ?_
    refine strT (H.lt_ [false, false, false, true] [] [false, false, false] []) (fun w H => trivial) fun hS => ?_
    refine zS 1 [1, 7, 8, 9, 10, 11, 12] rfl rfl rfl rfl hf hS (fun w H => rq_loadB hf H TF.ls43 0 rfl rfl rfl) fun a hf => ?_
    refine zS 2 [2, 6, 7, 8, 9, 10, 11, 12] rfl rfl rfl rfl hf hS (fun w H => rq_loadBN hf H TF.la45 0 rfl rfl rfl rfl) fun a hf => ?_
    refine zp 3 hf hS fun a hf => ?_
    refine zp 4 hf hS fun a hf => ?_
    refine strT (H.lt_ [false, false, true, true] [] [false, false, false] []) (fun w H => H.lt_ [false, true] [] [] []) fun hS => ?_
    refine zS 5 [5, 6, 7, 8, 9, 10, 11, 12] rfl rfl rfl rfl hf hS (fun w H => rq_loadB hf H TF.ls3 0 rfl rfl rfl) fun a hf => ?_
    obtain ⟨y4, hy4, hF⟩ := bs_ hF
    refine nn 6 rfl (oC hf TF.cl66 (impl_lightAt_ok (S := TT) (Plan_mkv (x := p) (H.rt 6 rfl) (H.rt 5 rfl) (H.rt 4 rfl)) mk_int hy4) fun v6 w a hp8 hf => ?_)
    obtain ⟨hb4, hp8⟩ := hp8
    obtain rfl := VR_int hp8
    have H := H.keep hb4
    have hS := H.lt_ [false, false, true, true] [] [false, false, false] []
    refine aS hS ?_
    obtain ⟨e, he, hF⟩ := bs_ hF
    obtain ⟨p2, o, cs, hx, hr, H⟩ := pre_iaddr H Tryz.underlying43 TF.sz52 4 rfl he
    refine zP 7 rfl rfl rfl rfl hf hS (fun w => rq_iaddrE hf rfl rfl rfl hx w) fun a hf => ?_
    obtain ⟨A10, c10, rfl, hl10⟩ := Light_cells hr
    have H := H.pF hl10
    refine strT (H.lt_ [false, false, true, true] [] [false, false, false] [1]) (fun w H => H.lt_ [true, true] [] [] []) fun hS => ?_
    refine zS 8 [8, 9, 10, 11, 12] rfl rfl rfl rfl hf hS (fun w H => rq_loadIN hf H TF.la52 0 0 rfl rfl rfl rfl) fun a hf => ?_
    obtain ⟨y5, hy5, hF⟩ := bs_ hF
    refine nn 9 rfl (oC hf TF.cl78 (impl_copyLight_ok (S := TT) (Light_mkv (x := e) (H.rt 0 rfl)) hy5) fun v7 w a hp9 hf => ?_)
    obtain ⟨hb5, F9, hp10, hN4⟩ := hp9
    obtain ⟨A11, c11, F10, rfl, rfl, hl11⟩ := Light_vo hp10
    have H := H.aO1 hb5 hN4 hl11
    have H := H.lend 0 rfl
    have hS := H.lt_ [false, false, true, true] [] [false, false, false, false] [2]
    refine aS hS ?_
    refine zP 10 rfl rfl rfl rfl hf hS (fun w => rq_build hf (cs := [(.int .i64 3), (.int .i64 y5.Id), (.int .i64 y5.Route.Start), (.slice A11 y5.Route.Fibers.length c11), (.int .i64 y5.Block.First), (.int .i64 y5.Block.Count)]) rfl (fun w => by kernel_rfl)) fun a hf => ?_
    refine nn 11 rfl (op_storeB hf H 1 TF.sz54 rfl rfl rfl rfl rfl rfl (nle rfl) fun w H => ?_)
    refine ⟨fun h => absurd h (by decide), ?_⟩
    refine tp 12 rfl rfl hf (by kernel_rfl) (fun h => absurd h (by decide)) rfl fun a hf => ?_
    refine dk ?_
    have hf := hf.pn [4, 5]
    refine then_n (wp_ret (?_))
    obtain rfl := oi hF
    refine ret_2 hf rfl (rv_cellN hf H 1 TF.la54 rfl rfl rfl) (rv_tmp hf rfl) ?_
    have hN := H.ends1
    exact ⟨_, rfl, H.bel, F10, _, _, rfl, ⟨_, Action_ownmk (x := ({ Kind := 3, Light := y5 } : Action)) (H.ownAt 0 rfl), rfl⟩, mk_bool, hN⟩
theorem laws_szActionS_ok {S : Nat → Prop} {v0_ : Value} {v1_ : Value} {a' : List Action} {left : Int} {r : Int} (h0 : VR w0 S v0_ a') (h1 : VR w0 S v1_ left) (hF : laws_szActionS fu a' left = some r) :
    Calls Tryz.prog 25 [v0_, v1_].toArray w0 fun e w' => ∃ v, e = .returned v ∧ (Below w0.heap.size w0 w' ∧ VR w' (St ⟨w0, []⟩ S [] [] [] true) v r) := by
 obtain ⟨A, c, rfl, hl⟩ := VR_list h0
 obtain rfl := VR_int h1
 have H := Mem.start ⟨w0, []⟩ S
 have H := H.pA hl
 refine en Tryz.func25 fun a hf => ?_
 rw [laws_szActionS] at hF
 refine sqz (pz 1 hf fun a hf => ?_)
 refine wr (pz 5 hf fun a hf => ?_)
 refine we (sqz (pz 2 hf fun a hf => ?_))
 refine wl_end (then_n (ib hF hf (fun hc hF => ?_) fun hc hF => ?_))
 ·refine sqz (pz 1 hf fun a hf => ?_)
  refine wl_end (then_n (wp_ret (then_r (?_))))
  obtain rfl := oi hF
  refine rT hf ?_
  exact ⟨_, rfl, H.bel, mk_int⟩
 ·refine wp_skip (then_n (sq (sqz (pz 1 hf fun a hf => ?_))))
  refine wl_end (then_n ?_)
  obtain ⟨out', hB1, hF⟩ := bs_ hF
  have hf := hf.pn [0, 1, 5]
  have H := H.lt_ [] [] [] [0]
  refine loopC (fun (s : Int × Int) (a : Act) (w : World) => match s with | (left2, i) => Fr a 27 [(0, (.slice A a'.length c)), (1, (.int .i64 left2)), (5, (.int .i64 i))] ∧ Mem ⟨w0, []⟩ S [] [] [] [(false, MP.val [(.slice A a'.length c)] (a' : List Action))] w) (fun k (s : Int × Int) => laws_szActionS_L1 fu a' k s.1 s.2 = some out') (fun s => out' = Out.next s) (w64 (left - (a'.length : Int)), 0) fu hB1 ⟨hf, H⟩ (fun s h => by cases h) ?_ ?_
  ·rintro fk ⟨left2, i⟩ a w hR1 hI
   replace hR1 : laws_szActionS_L1 fu a' (fk + 1) left2 i = some out' := hR1
   rw [laws_szActionS_L1] at hR1
   obtain ⟨hf, H⟩ := hI
   refine sq (sqz (pz 4 hf fun a hf => ?_))
   refine wl_end (then_n (ib hR1 hf (fun hc2 hR1 => ?_) fun hc2 hR1 => ?_))
   ·refine ws (pz 2 hf fun a hf => ?_)
    obtain ⟨e, he, hR1⟩ := bs_ hR1
    refine wl0 rfl (op_iaddr hf H Tryz.underlying63 TF.sz37 0 rfl rfl rfl he (by decide) fun p o cs a hf hr H => ?_)
    obtain ⟨A2, c2, rfl, hl2⟩ := Action_cells hr
    have H := H.pF hl2
    refine oq hf (rq_loadIN hf H TF.la37 1 0 rfl rfl rfl rfl) fun a hf => ?_
    refine pz 1 hf fun a hf => ?_
    obtain ⟨y, hy, hR1⟩ := bs_ hR1
    refine oc hf TF.cl12 (laws_szAction_ok (S := TT) (Action_mkv (x := e) (H.rt 0 rfl)) mk_int hy) fun v w a hp hf => ?_
    obtain ⟨hb, hp⟩ := hp
    obtain rfl := VR_int hp
    have H := H.keep hb
    refine pz 1 hf fun a hf => ?_
    refine wr (pz 2 hf fun a hf => ?_)
    refine wl_end (then_n (ib hR1 hf (fun hc3 hR1 => ?_) fun hc3 hR1 => ?_))
    ·refine sqz (pz 1 hf fun a hf => ?_)
     have hf := hf.pn [4]
     refine wl_end (then_n (wp_ret (blk_r (then_r (then_r (blk_r (then_r (then_r (?_)))))))))
     obtain rfl := oi hR1
     replace hF := on_ret hF
     obtain rfl := oi hF
     refine rT hf ?_
     exact ⟨_, rfl, H.bel, mk_int⟩
    ·refine wp_skip (blk_n (then_n (reg (pz 3 hf fun a hf => ?_))))
     have hf := hf.pn [0, 1, 5]
     refine wl_end ?_
     have hf := hf.pn [0, 1, 5]
     have H := H.lt_ [] [] [] [2]
     exact then_n ⟨(y, w64 (i + 1)), hR1, hf, H⟩
   ·refine wp_exit (then_x (then_x (blk_e (?_))))
    have hf := hf.pn [0, 1, 5]
    have H := H.lt_ [] [] [] [0]
    exact ⟨(left2, i), (Option.some.inj hR1).symm, hf, H⟩
  rintro a w ⟨⟨left3, i2⟩, rfl, hf, H⟩
  replace hF := on_next hF
  try dsimp only at hF
  refine then_n (sqz (pz 2 hf fun a hf => ?_))
  refine wer ?_
  obtain rfl := oi hF
  refine rT hf ?_
  exact ⟨_, rfl, H.bel, mk_int⟩
theorem laws_toActionS_ok {S : Nat → Prop} {v0_ : Value} {a' : List Action} {r : List Action} (h0 : VR w0 S v0_ a') (hF : laws_toActionS fu a' = some r) :
    Calls Tryz.prog 27 [v0_].toArray w0 fun e w' => ∃ v, e = .returned v ∧ (Below w0.heap.size w0 w' ∧ ∃ F0, VO w' F0 v r ∧ New w0 w' F0) := by
 obtain ⟨A, c, rfl, hl⟩ := VR_list h0
 have H := Mem.start ⟨w0, []⟩ S
 have H := H.pA hl
 refine en Tryz.func27 fun a hf => ?_
 rw [laws_toActionS] at hF
 refine sqz (pz 1 hf fun a hf => ?_)
 refine wr (pz 2 hf fun a hf => ?_)
 obtain ⟨l, hl, hF⟩ := bs_ hF
 refine wl0 rfl (op_makeO (z0 := (({ Kind := 0, Light := ({ Id := 0, Route := ({ Start := 0, Fibers := [] } : Route), Block := ({ First := 0, Count := 0 } : Block) } : Light) } : Action) : Action)) hf H Tryz.underlying67 TF.ai54 rfl (by decide) rfl rfl (fun w => Action_ownmk (x := ({ Kind := 0, Light := ({ Id := 0, Route := ({ Start := 0, Fibers := [] } : Route), Block := ({ First := 0, Count := 0 } : Block) } : Light) } : Action)) lown_nil) hl (by decide) fun A2 c2 Fs a w hf H => ?_)
 refine pz 1 hf fun a hf => ?_
 refine we (sqz (pz 1 hf fun a hf => ?_))
 refine wl_end (then_n ?_)
 obtain ⟨out2, hB1, hF⟩ := bs_ hF
 have hf := hf.pn [0, 3, 4]
 have H := H.lt_ [] [true] [] [0]
 refine loopC (fun (s : List Action × Int) (a : Act) (w : World) => match s with | (out', i) => ∃ (A3 : Option Addr) (c3 : Nat) (E : Go.TypeId) (Fs2 : List (List Nat)), Fr a 23 [(0, (.slice A a'.length c)), (3, (.slice A3 out'.length c3)), (4, (.int .i64 i))] ∧ Mem ⟨w0, []⟩ S [] [⟨.ow Fs2, E, A3, c3, (out' : List Action)⟩] [] [(false, MP.val [(.slice A a'.length c)] (a' : List Action))] w) (fun k (s : List Action × Int) => laws_toActionS_L1 fu a' k s.1 s.2 = some out2) (fun s => out2 = s) (l, 0) fu hB1 ⟨A2, c2, 54, Fs, hf, H⟩ (fun s h => by cases h) ?_ ?_
 ·rintro fk ⟨out', i⟩ a w hR1 hI
  replace hR1 : laws_toActionS_L1 fu a' (fk + 1) out' i = some out2 := hR1
  rw [laws_toActionS_L1] at hR1
  obtain ⟨A3, c3, E, Fs2, hf, H⟩ := hI
  refine sq (sqz (pz 4 hf fun a hf => ?_))
  refine wl_end (then_n (ib hR1 hf (fun hc hR1 => ?_) fun hc hR1 => ?_))
  ·refine wp_skip (then_n (sq (wp_block (reg (pz 4 hf fun a hf => ?_)))))
   obtain ⟨e, he, hR1⟩ := bs_ hR1
   refine wl0 rfl (op_iaddr hf H Tryz.underlying63 TF.sz37 0 rfl rfl rfl he (by decide) fun p o cs a hf hr H => ?_)
   obtain ⟨A4, c4, rfl, hl2⟩ := Action_cells hr
   have H := H.pF hl2
   refine oq hf (rq_loadIN hf H TF.la37 1 0 rfl rfl rfl rfl) fun a hf => ?_
   obtain ⟨y, hy, hR1⟩ := bs_ hR1
   refine oc hf TF.cl15 (laws_toAction_ok (S := TT) (Action_mkv (x := e) (H.rt 0 rfl)) hy) fun v w a hp hf => ?_
   obtain ⟨hb, F, hp2, hN⟩ := hp
   obtain ⟨A5, c5, F2, rfl, rfl, hl3⟩ := Action_vo hp2
   have H := H.aO1 hb hN hl3
   have H := H.lend 0 rfl
   obtain ⟨e2, he2, hR1⟩ := bs_ hR1
   refine wl0 rfl (op_iaddrR hf H Tryz.underlying67 TF.sz54 0 rfl rfl rfl he2 (by decide) fun p2 o2 cs2 a hf hA hr2 hk => ?_)
   have hrk := hr2
   obtain ⟨A6, c6, rfl, hl4⟩ := Action_cells hr2
   have H := H.pT hl4
   have H := H.recast (X := [(⟨F2, MP.own F2 [(.slice A5 y.Light.Route.Fibers.length c5)] (y.Light.Route.Fibers : List Int)⟩ : DI)]) (Y := [(⟨F2, MP.own F2 [(.int .i64 y.Kind), (.int .i64 y.Light.Id), (.int .i64 y.Light.Route.Start), (.slice A5 y.Light.Route.Fibers.length c5), (.int .i64 y.Light.Block.First), (.int .i64 y.Light.Block.Count)] (y : Action)⟩ : DI)]) (List.Perm.of_eq (by simp)) fun _ => ps1 (Action_ownmk (x := y) (H.ownAt 0 rfl)) ps0
   refine wl0 rfl (op_storeO hf H TF.sz54 rfl rfl rfl rfl rfl rfl hA he2 fun w H => ?_)
   replace hf : Fr a 23 [(0, (.slice A a'.length c)), (3, (.slice A3 out'.length c3)), (4, (.int .i64 i)), (14, (.slice A3 out'.length c3)), (15, (.int .i64 i)), (16, (.slice A a'.length c)), (17, (.int .i64 i)), (18, (.pointer (some ⟨p, o + 0, none⟩))), (19, (.agg #[(.int .i64 e.Kind), (.int .i64 e.Light.Id), (.int .i64 e.Light.Route.Start), (.slice A4 e.Light.Route.Fibers.length c4), (.int .i64 e.Light.Block.First), (.int .i64 e.Light.Block.Count)])), (20, (.agg #[(.int .i64 y.Kind), (.int .i64 y.Light.Id), (.int .i64 y.Light.Route.Start), (.slice A5 y.Light.Route.Fibers.length c5), (.int .i64 y.Light.Block.First), (.int .i64 y.Light.Block.Count)])), (21, (.pointer (some ⟨p2, o2 + 0, none⟩)))] := hf.prune [0, 3, 4, 14, 15, 16, 17, 18, 19, 20, 21] rfl
   replace hf : Fr a 23 [(0, (.slice A a'.length c)), (3, (.slice A3 (out'.set (i : Int).toNat y).length c3)), (4, (.int .i64 i)), (14, (.slice A3 (out'.set (i : Int).toNat y).length c3)), (15, (.int .i64 i)), (16, (.slice A a'.length c)), (17, (.int .i64 i)), (18, (.pointer (some ⟨p, o + 0, none⟩))), (19, (.agg #[(.int .i64 e.Kind), (.int .i64 e.Light.Id), (.int .i64 e.Light.Route.Start), (.slice A4 e.Light.Route.Fibers.length c4), (.int .i64 e.Light.Block.First), (.int .i64 e.Light.Block.Count)])), (20, (.agg #[(.int .i64 y.Kind), (.int .i64 y.Light.Id), (.int .i64 y.Light.Route.Start), (.slice A5 y.Light.Route.Fibers.length c5), (.int .i64 y.Light.Block.First), (.int .i64 y.Light.Block.Count)])), (21, (.pointer (some ⟨p2, o2 + 0, none⟩)))] := by simpa only [List.length_set, Nat.add_zero] using hf
   refine wl_end (blk_n (then_n (reg (pz 3 hf fun a hf => ?_))))
   refine wl_end ?_
   have hf := hf.pn [0, 3, 4]
   have H := H.lt_ [] [true] [] [4]
   exact then_n ⟨(out'.set (i : Int).toNat y, w64 (i + 1)), hR1, A3, c3, E, Fs2.set (i : Int).toNat F2, hf, H⟩
  ·refine wp_exit (then_x (then_x (blk_e (?_))))
   have hf := hf.pn [0, 3, 4]
   have H := H.lt_ [] [true] [] [0]
   exact ⟨(out', i), (Option.some.inj hR1).symm, A3, c3, E, Fs2, hf, H⟩
 rintro a w ⟨⟨out3, i2⟩, rfl, A7, c7, E2, Fs3, hf, H⟩
 try dsimp only at hF
 refine then_n (sqz (pz 2 hf fun a hf => ?_))
 refine wer ?_
 obtain ⟨F3, H⟩ := H.freezeOwn 0 rfl
 have H := H.lend 0 rfl
 obtain rfl := oi hF
 refine rT hf ?_
 have hN := H.ends1
 exact ⟨_, rfl, H.bel, F3, (mko_list (H.ownAt 0 rfl)), hN⟩
theorem spec_l20All_ok {S : Nat → Prop} {v0_ : Value} {v1_ : Value} {p : Plan} {list : List Action} {r : Plan × Int} (h0 : VR w0 S v0_ p) (h1 : VR w0 S v1_ list) (hF : spec_l20All fu p list = some r) :
    Calls Tryz.prog 80 [v0_, v1_].toArray w0 fun e w' => ∃ v, e = .returned v ∧ (Below w0.heap.size w0 w' ∧ ∃ u0 u1, v = .tuple #[u0, u1] ∧ VR w' (St ⟨w0, []⟩ S [] [] [] true) u0 r.1 ∧ VR w' (St ⟨w0, []⟩ S [] [] [] true) u1 r.2) := by
 obtain ⟨A, c, A2, c2, A3, c3, rfl, hl, hl2, hl3⟩ := Plan_open h0
 obtain ⟨A4, c4, rfl, hl4⟩ := VR_list h1
 have H := Mem.start ⟨w0, []⟩ S
 have H := H.pA hl
 have H := H.pA hl2
 have H := H.pA hl3
 have H := H.pA hl4
 refine en Tryz.func80 fun a hf => ?_
 rw [spec_l20All] at hF
 refine bx hf H fun b' a w hf H => ?_
 refine aL hf H TF.zv45 fun b2 a w hf H => ?_
 refine pz 1 hf fun a hf => ?_
 refine wr (lN 1 hf H TF.la45 fun a hf => ?_)
 obtain ⟨y, hy, hF⟩ := bs_ hF
 refine oc hf TF.cl81 (spec_l9Own_ok (S := TT) (Plan_mkv (x := p) (H.rt 3 rfl) (H.rt 2 rfl) (H.rt 1 rfl)) hy) fun v w a hp hf => ?_
 obtain ⟨hb, F, hp2, hN⟩ := hp
 obtain ⟨A5, c5, F2, A6, c6, F3, A7, c7, F4, rfl, rfl, hl5, hl6, hl7⟩ := Plan_vo hp2
 have H := H.aO3 hb hN hl5 hl6 hl7
 have H := H.lend 0 rfl
 have H := H.lend 1 rfl
 have H := H.lend 2 rfl
 refine aL hf H TF.zv45 fun b3 a w hf H => ?_
 refine sB 0 hf H TF.sz45 fun w H => ?_
 refine we (sqz (pz 1 hf fun a hf => ?_))
 refine wl_end (then_n ?_)
 obtain ⟨out', hB1, hF⟩ := bs_ hF
 have hf := hf.pn [1, 4, 6, 7]
 have H := H.lt_ [true, true, false] [] [false, false, false] [0, 1, 2, 3]
 refine loopC (fun (s : Int × List ByteArray × List Fiber × List Light) (a : Act) (w : World) => match s with | (i, m, m2, m3) => ∃ (A8 : Option Addr) (c8 : Nat) (A9 : Option Addr) (c9 : Nat) (A10 : Option Addr) (c10 : Nat), Fr a 35 [(1, (.slice A4 list.length c4)), (4, (.pointer (some ⟨b2, 0, none⟩))), (6, (.pointer (some ⟨b3, 0, none⟩))), (7, (.int .i64 i))] ∧ Mem ⟨w0, []⟩ S [⟨b3, 45, [(.slice A8 m.length c8), (.slice A9 m2.length c9), (.slice A10 m3.length c10)]⟩, ⟨b2, 45, [(.slice none 0 0), (.slice none 0 0), (.slice none 0 0)]⟩] [] [] [(true, MP.val [(.slice A10 m3.length c10)] (m3 : List Light)), (true, MP.val [(.slice A9 m2.length c9)] (m2 : List Fiber)), (true, MP.val [(.slice A8 m.length c8)] (m : List ByteArray)), (false, MP.val [(.slice A4 list.length c4)] (list : List Action))] w) (fun k (s : Int × List ByteArray × List Fiber × List Light) => spec_l20All_L1 fu list k s.1 s.2.1 s.2.2.1 s.2.2.2 = some out') (fun s => out' = Out.next s) (0, y.Network.Nodes, y.Network.Fibers, y.Lights) fu hB1 ⟨A5, c5, A6, c6, A7, c7, hf, H⟩ (fun s h => by cases h) ?_ ?_
 ·rintro fk ⟨i, m, m2, m3⟩ a w hR1 hI
  replace hR1 : spec_l20All_L1 fu list (fk + 1) i m m2 m3 = some out' := hR1
  rw [spec_l20All_L1] at hR1
  obtain ⟨A8, c8, A9, c9, A10, c10, hf, H⟩ := hI
  refine sq (sqz (pz 4 hf fun a hf => ?_))
  refine wl_end (then_n (ib hR1 hf (fun hc hR1 => ?_) fun hc hR1 => ?_))
  ·refine wp_skip (then_n (sq (wp_block (sq ?_))))
   obtain ⟨e, he, hR1⟩ := bs_ hR1
   obtain ⟨y2, hy2, hR1⟩ := bs_ hR1
   refine mid (fun a w => ∃ (b4 : Nat) (A12 : Option Addr) (c12 : Nat) (A13 : Option Addr) (c13 : Nat) (A14 : Option Addr) (c14 : Nat), Fr a 35 [(1, (.slice A4 list.length c4)), (4, (.pointer (some ⟨b2, 0, none⟩))), (6, (.pointer (some ⟨b3, 0, none⟩))), (7, (.int .i64 i)), (8, (.pointer (some ⟨b4, 0, none⟩))), (9, (.bool y2.2))] ∧ Mem ⟨w0, []⟩ S [⟨b4, 45, [(.slice A12 y2.1.Network.Nodes.length c12), (.slice A13 y2.1.Network.Fibers.length c13), (.slice A14 y2.1.Lights.length c14)]⟩, ⟨b3, 45, [(.slice A8 m.length c8), (.slice A9 m2.length c9), (.slice A10 m3.length c10)]⟩, ⟨b2, 45, [(.slice none 0 0), (.slice none 0 0), (.slice none 0 0)]⟩] [] [] [(true, MP.val [(.slice A14 y2.1.Lights.length c14)] (y2.1.Lights : List Light)), (true, MP.val [(.slice A13 y2.1.Network.Fibers.length c13)] (y2.1.Network.Fibers : List Fiber)), (true, MP.val [(.slice A12 y2.1.Network.Nodes.length c12)] (y2.1.Network.Nodes : List ByteArray)), (true, MP.val [(.slice A10 m3.length c10)] (m3 : List Light)), (true, MP.val [(.slice A9 m2.length c9)] (m2 : List Fiber)), (true, MP.val [(.slice A8 m.length c8)] (m : List ByteArray)), (false, MP.val [(.slice A4 list.length c4)] (list : List Action))] w) ?_ ?_
   ·refine dw [10] 12 fun w hb => ?_
    have H := H.keep hb
    refine strT (H.lt_ [true, false] [] [] []) (fun w H => trivial) fun hS => ?_
    refine zS 0 [0, 5, 6, 7, 8, 10, 11] rfl rfl rfl rfl hf hS (fun w H => rq_loadBN hf H TF.la45 0 rfl rfl rfl rfl) fun a hf => ?_
    refine zp 1 hf hS fun a hf => ?_
    refine zp 2 hf hS fun a hf => ?_
    obtain ⟨p2, o, cs, hx, hr, H⟩ := pre_iaddr H Tryz.underlying67 TF.sz54 3 rfl he
    refine zP 3 rfl rfl rfl rfl hf hS (fun w => rq_iaddrE hf rfl rfl rfl hx w) fun a hf => ?_
    obtain ⟨A11, c11, rfl, hl8⟩ := Action_cells hr
    have H := H.pF hl8
    refine strT (H.lt_ [true, false] [] [] [1]) (fun w H => H.lt_ [true] [] [] []) fun hS => ?_
    refine zS 4 [4, 5, 6, 7, 8, 10, 11] rfl rfl rfl rfl hf hS (fun w H => rq_loadIN hf H TF.la54 0 0 rfl rfl rfl rfl) fun a hf => ?_
    refine on2 (i := 5) (j := 9) (bi := [true, true, true, true, true, true, false, false, false, false, false, false]) (bj := [true, true, true, true, true, false, false, false, false, true, false, false]) (by kernel_rfl) rfl rfl rfl rfl rfl rfl ?_ ?_
    ·refine (oC hf TF.cl62 (spec_l20Apply_ok (S := TT) (Plan_mkv (x := ({ Network := ({ Nodes := m, Fibers := m2 } : Network), Lights := m3 } : Plan)) (H.rt 4 rfl) (H.rt 3 rfl) (H.rt 2 rfl)) (Action_mkv (x := e) (H.rt 0 rfl)) hy2) fun v2 w a hp3 hf => ?_)
     obtain ⟨hb2, v3, v4, rfl, hp4, hp5⟩ := hp3
     obtain ⟨A12, c12, A13, c13, A14, c14, rfl, hl9, hl10, hl11⟩ := Plan_open hp4
     replace hl9 := H.rF hl9
     replace hl10 := H.rF hl10
     replace hl11 := H.rF hl11
     obtain rfl := VR_bool hp5
     have H := H.keep hb2
     have H := H.pT hl9
     have H := H.pT hl10
     have H := H.pT hl11
     have hS := H.lt_ [true, false] [] [] [4]
     refine aS hS ?_
     refine zp 6 hf hS fun a hf => ?_
     refine zp 7 hf hS fun a hf => ?_
     refine zp 8 hf hS fun a hf => ?_
     refine nn 9 rfl (op_alloc hf H TF.zv45 rfl (by decide) fun b4 a w hf H => ?_)
     have hS := H.lt_ [false, true, false] [] [] [4]
     refine aS hS ?_
     refine nn 10 rfl (op_storeB hf H 0 TF.sz45 rfl rfl rfl rfl rfl rfl (nle rfl) fun w H => ?_)
     refine ⟨fun h => absurd h (by decide), ?_⟩
     refine tp 11 rfl rfl hf (by kernel_rfl) (fun h => absurd h (by decide)) rfl fun a hf => ?_
     refine dk ?_
     have hf := hf.pn [1, 4, 6, 7, 8, 9]
     have H := H.lt_ [true, true, true] [] [] [0, 1, 2, 5, 6, 7, 8]
     exact ⟨b4, A12, c12, A13, c13, A14, c14, hf, H⟩
    ·refine (op_alloc hf H TF.zv45 rfl (by decide) fun b4 a w hf H => ?_)
     have hS := H.lt_ [false, true, false] [] [] [1]
     refine aS hS ?_
     refine nn 5 rfl (oC hf TF.cl62 (spec_l20Apply_ok (S := TT) (Plan_mkv (x := ({ Network := ({ Nodes := m, Fibers := m2 } : Network), Lights := m3 } : Plan)) (H.rt 4 rfl) (H.rt 3 rfl) (H.rt 2 rfl)) (Action_mkv (x := e) (H.rt 0 rfl)) hy2) fun v2 w a hp3 hf => ?_)
     obtain ⟨hb2, v3, v4, rfl, hp4, hp5⟩ := hp3
     obtain ⟨A12, c12, A13, c13, A14, c14, rfl, hl9, hl10, hl11⟩ := Plan_open hp4
     replace hl9 := H.rF hl9
     replace hl10 := H.rF hl10
     replace hl11 := H.rF hl11
     obtain rfl := VR_bool hp5
     have H := H.keep hb2
     have H := H.pT hl9
     have H := H.pT hl10
     have H := H.pT hl11
     have hS := H.lt_ [false, true, false] [] [] [4]
     refine aS hS ?_
     refine zp 6 hf hS fun a hf => ?_
     refine zp 7 hf hS fun a hf => ?_
     refine zp 8 hf hS fun a hf => ?_
     refine nn 10 rfl (op_storeB hf H 0 TF.sz45 rfl rfl rfl rfl rfl rfl (nle rfl) fun w H => ?_)
     refine ⟨fun h => absurd h (by decide), ?_⟩
     refine tp 11 rfl rfl hf (by kernel_rfl) (fun h => absurd h (by decide)) rfl fun a hf => ?_
     refine dk ?_
     have hf := hf.pn [1, 4, 6, 7, 8, 9]
     have H := H.lt_ [true, true, true] [] [] [0, 1, 2, 5, 6, 7, 8]
     exact ⟨b4, A12, c12, A13, c13, A14, c14, hf, H⟩
   rintro a w ⟨b4, A12, c12, A13, c13, A14, c14, hf, H⟩
   refine then_n (sq (sqz (pz 2 hf fun a hf => ?_)))
   refine wl_end (then_n (ib hR1 hf (fun hc2 hR1 => ?_) fun hc2 hR1 => ?_))
   ·refine sq (reg (lN 1 hf H TF.la45 fun a hf => ?_))
    refine pz 1 hf fun a hf => ?_
    refine sB 2 hf H TF.sz45 fun w H => ?_
    refine pz 1 hf fun a hf => ?_
    refine wl_end (then_n (wp_ret (then_r (blk_r (then_r (then_r (blk_r (then_r (then_r (?_))))))))))
    obtain rfl := oi hR1
    replace hF := on_ret hF
    obtain rfl := oi hF
    refine ret_2 hf rfl (rv_cellN hf H 2 TF.la45 rfl rfl rfl) (rv_tmp hf rfl) ?_
    exact ⟨_, rfl, H.bel, _, _, rfl, (Plan_mkv (x := ({ Network := ({ Nodes := m, Fibers := m2 } : Network), Lights := m3 } : Plan)) (rep_end (α := List ByteArray) (H.get 5 rfl)) (rep_end (α := List Fiber) (H.get 4 rfl)) (rep_end (α := List Light) (H.get 3 rfl))), mk_int⟩
   ·refine wp_skip (then_n (reg (lN 0 hf H TF.la45 fun a hf => ?_)))
    refine sB 1 hf H TF.sz45 fun w H => ?_
    refine wl_end (blk_n (then_n (reg (pz 3 hf fun a hf => ?_))))
    refine wl_end ?_
    have hf := hf.pn [1, 4, 6, 7]
    have H := H.lt_ [false, true, true] [] [] [0, 1, 2, 6]
    exact then_n ⟨(w64 (i + 1), y2.1.Network.Nodes, y2.1.Network.Fibers, y2.1.Lights), hR1, A12, c12, A13, c13, A14, c14, hf, H⟩
  ·refine wp_exit (then_x (then_x (blk_e (?_))))
   have hf := hf.pn [1, 4, 6, 7]
   have H := H.lt_ [true, true] [] [] [0, 1, 2, 3]
   exact ⟨(i, m, m2, m3), (Option.some.inj hR1).symm, A8, c8, A9, c9, A10, c10, hf, H⟩
 rintro a w ⟨⟨i2, m4, m5, m6⟩, rfl, A15, c15, A16, c16, A17, c17, hf, H⟩
 replace hF := on_next hF
 try dsimp only at hF
 refine then_n (sq (reg (lN 0 hf H TF.la45 fun a hf => ?_)))
 refine pz 2 hf fun a hf => ?_
 refine sB 1 hf H TF.sz45 fun w H => ?_
 refine pz 1 hf fun a hf => ?_
 refine wer ?_
 obtain rfl := oi hF
 refine ret_2 hf rfl (rv_cellN hf H 1 TF.la45 rfl rfl rfl) (rv_tmp hf rfl) ?_
 exact ⟨_, rfl, H.bel, _, _, rfl, (Plan_mkv (x := ({ Network := ({ Nodes := m4, Fibers := m5 } : Network), Lights := m6 } : Plan)) (rep_end (α := List ByteArray) (H.get 2 rfl)) (rep_end (α := List Fiber) (H.get 1 rfl)) (rep_end (α := List Light) (H.get 0 rfl))), mk_int⟩
theorem impl_applied_ok {S : Nat → Prop} {v0_ : Value} {v1_ : Value} {p : Plan} {list : List Action} {r : Plan × Int} (h0 : VR w0 S v0_ p) (h1 : VR w0 S v1_ list) (hF : impl_applied fu p list = some r) :
    Calls Tryz.prog 82 [v0_, v1_].toArray w0 fun e w' => ∃ v, e = .returned v ∧ (Below w0.heap.size w0 w' ∧ ∃ F0, ∃ u0 u1, v = .tuple #[u0, u1] ∧ VO w' F0 u0 r.1 ∧ VR w' (St ⟨w0, []⟩ S [] [] [] true) u1 r.2 ∧ New w0 w' F0) := by
 obtain ⟨A, c, A2, c2, A3, c3, rfl, hl, hl2, hl3⟩ := Plan_open h0
 obtain ⟨A4, c4, rfl, hl4⟩ := VR_list h1
 have H := Mem.start ⟨w0, []⟩ S
 have H := H.pA hl
 have H := H.pA hl2
 have H := H.pA hl3
 have H := H.pA hl4
 refine en Tryz.func82 fun a hf => ?_
 rw [impl_applied] at hF
 refine bx hf H fun b' a w hf H => ?_
 refine aL hf H TF.zv45 fun b2 a w hf H => ?_
 refine pz 1 hf fun a hf => ?_
 refine wr (lN 1 hf H TF.la45 fun a hf => ?_)
 obtain ⟨y, hy, hF⟩ := bs_ hF
 refine oc hf TF.cl83 (impl_copyPlan_ok (S := TT) (Plan_mkv (x := p) (H.rt 3 rfl) (H.rt 2 rfl) (H.rt 1 rfl)) hy) fun v w a hp hf => ?_
 obtain ⟨hb, F, hp2, hN⟩ := hp
 obtain ⟨A5, c5, F2, A6, c6, F3, A7, c7, F4, rfl, rfl, hl5, hl6, hl7⟩ := Plan_vo hp2
 have H := H.aO3 hb hN hl5 hl6 hl7
 have H := H.lend 0 rfl
 have H := H.lend 1 rfl
 have H := H.lend 2 rfl
 refine aL hf H TF.zv45 fun b3 a w hf H => ?_
 refine sB 0 hf H TF.sz45 fun w H => ?_
 refine we (sqz (pz 3 hf fun a hf => ?_))
 refine wl_end (then_n ?_)
 obtain ⟨out', hB1, hF⟩ := bs_ hF
 have hf := hf.pn [1, 4, 6, 13, 14, 15]
 have H := H.frontD 1 rfl
 have H := H.frontD 2 rfl
 have H := H.lt_ [true, true, false] [] [true, true, true] [0, 1, 2, 3]
 refine loopC (fun (s : Int × List ByteArray × List Fiber × List Light) (a : Act) (w : World) => match s with | (i, m, m2, m3) => ∃ (A8 : Option Addr) (c8 : Nat) (F5 : List Nat) (A9 : Option Addr) (c9 : Nat) (F6 : List Nat) (A10 : Option Addr) (c10 : Nat) (F7 : List Nat), Fr a 35 [(1, (.slice A4 list.length c4)), (4, (.pointer (some ⟨b2, 0, none⟩))), (6, (.pointer (some ⟨b3, 0, none⟩))), (13, (.slice A4 list.length c4)), (14, (.int .i64 (list.length : Int))), (15, (.int .i64 i))] ∧ Mem ⟨w0, []⟩ S [⟨b3, 45, [(.slice A8 m.length c8), (.slice A9 m2.length c9), (.slice A10 m3.length c10)]⟩, ⟨b2, 45, [(.slice none 0 0), (.slice none 0 0), (.slice none 0 0)]⟩] [] [⟨F7, MP.own F7 [(.slice A10 m3.length c10)] (m3 : List Light)⟩, ⟨F6, MP.own F6 [(.slice A9 m2.length c9)] (m2 : List Fiber)⟩, ⟨F5, MP.own F5 [(.slice A8 m.length c8)] (m : List ByteArray)⟩] [(true, MP.val [(.slice A10 m3.length c10)] (m3 : List Light)), (true, MP.val [(.slice A9 m2.length c9)] (m2 : List Fiber)), (true, MP.val [(.slice A8 m.length c8)] (m : List ByteArray)), (false, MP.val [(.slice A4 list.length c4)] (list : List Action))] w) (fun k (s : Int × List ByteArray × List Fiber × List Light) => impl_applied_L1 fu list k s.1 s.2.1 s.2.2.1 s.2.2.2 = some out') (fun s => out' = Out.next s) (0, y.Network.Nodes, y.Network.Fibers, y.Lights) fu hB1 ⟨A5, c5, F2, A6, c6, F3, A7, c7, F4, hf, H⟩ (fun s h => by cases h) ?_ ?_
 ·rintro fk ⟨i, m, m2, m3⟩ a w hR1 hI
  replace hR1 : impl_applied_L1 fu list (fk + 1) i m m2 m3 = some out' := hR1
  rw [impl_applied_L1] at hR1
  obtain ⟨A8, c8, F5, A9, c9, F6, A10, c10, F7, hf, H⟩ := hI
  refine sqz (pz 1 hf fun a hf => ?_)
  refine wl_end (then_n (sq (ib hR1 hf (fun hc hR1 => ?_) fun hc hR1 => ?_)))
  ·refine ws (pz 1 hf fun a hf => ?_)
   obtain ⟨e, he, hR1⟩ := bs_ hR1
   refine wl0 rfl (op_iaddr hf H Tryz.underlying67 TF.sz54 3 rfl rfl rfl he (by decide) fun p2 o cs a hf hr H => ?_)
   obtain ⟨A11, c11, rfl, hl8⟩ := Action_cells hr
   have H := H.pF hl8
   refine oq hf (rq_loadIN hf H TF.la54 1 0 rfl rfl rfl rfl) fun a hf => ?_
   refine aL hf H TF.zv54 fun b4 a w hf H => ?_
   refine pz 1 hf fun a hf => ?_
   refine sB 0 hf H TF.sz54 fun w H => ?_
   refine wr (lN 1 hf H TF.la45 fun a hf => ?_)
   refine lN 0 hf H TF.la54 fun a hf => ?_
   obtain ⟨y2, hy2, hR1⟩ := bs_ hR1
   refine oc hf TF.cl16 (impl_ApplyAction_ok (S := TT) (Plan_mkv (x := ({ Network := ({ Nodes := m, Fibers := m2 } : Network), Lights := m3 } : Plan)) (H.rt 4 rfl) (H.rt 3 rfl) (H.rt 2 rfl)) (Action_mkv (x := e) (H.rt 0 rfl)) hy2) fun v2 w a hp3 hf => ?_
   obtain ⟨hb2, F8, v3, v4, rfl, hp4, hp5, hN2⟩ := hp3
   obtain ⟨A12, c12, F9, A13, c13, F10, A14, c14, F11, rfl, rfl, hl9, hl10, hl11⟩ := Plan_vo hp4
   obtain rfl := VR_bool hp5
   have H := H.aO3 hb2 hN2 hl9 hl10 hl11
   have H := H.lend 0 rfl
   have H := H.lend 1 rfl
   have H := H.lend 2 rfl
   refine pz 3 hf fun a hf => ?_
   refine aL hf H TF.zv45 fun b5 a w hf H => ?_
   refine sB 0 hf H TF.sz45 fun w H => ?_
   refine pz 1 hf fun a hf => ?_
   refine we (sqz (pz 2 hf fun a hf => ?_))
   have hf := hf.pn [1, 4, 6, 7, 9, 13, 14, 15, 27]
   refine wl_end (then_n (ib hR1 hf (fun hc2 hR1 => ?_) fun hc2 hR1 => ?_))
   ·refine sq (reg (lN 2 hf H TF.la45 fun a hf => ?_))
    refine pz 1 hf fun a hf => ?_
    refine sB 3 hf H TF.sz45 fun w H => ?_
    refine pz 1 hf fun a hf => ?_
    refine wl_end (then_n (wp_ret (then_r (blk_r (then_r (then_r (blk_r (then_r (then_r (?_))))))))))
    have H := H.frontD 3 rfl
    have H := H.frontD 4 rfl
    have H := H.frontD 5 rfl
    obtain rfl := oi hR1
    replace hF := on_ret hF
    obtain rfl := oi hF
    refine ret_2 hf rfl (rv_cellN hf H 3 TF.la45 rfl rfl rfl) (rv_tmp hf rfl) ?_
    have hN := H.ends3
    exact ⟨_, rfl, H.bel, (F5 ++ (F6 ++ F7)), _, _, rfl, ⟨_, Plan_ownmk (x := ({ Network := ({ Nodes := m, Fibers := m2 } : Network), Lights := m3 } : Plan)) (H.ownAt 0 rfl) (H.ownAt 1 rfl) (H.ownAt 2 rfl), rfl⟩, mk_int, hN⟩
   ·refine wp_skip (then_n (reg (lN 0 hf H TF.la45 fun a hf => ?_)))
    refine sB 2 hf H TF.sz45 fun w H => ?_
    refine wl_end (blk_n (then_n (reg (pz 2 hf fun a hf => ?_))))
    refine wl_end ?_
    have hf := hf.pn [1, 4, 6, 13, 14, 15]
    have H := H.frontD 1 rfl
    have H := H.frontD 2 rfl
    have H := H.lt_ [false, false, true, true] [] [true, true, true, false, false, false] [0, 1, 2, 8]
    exact then_n ⟨(w64 (i + 1), y2.1.Network.Nodes, y2.1.Network.Fibers, y2.1.Lights), hR1, A12, c12, F9, A13, c13, F10, A14, c14, F11, hf, H⟩
  ·refine wp_exit (then_x (then_x (blk_e (?_))))
   have hf := hf.pn [1, 4, 6, 13, 14, 15]
   have H := H.lt_ [true, true] [] [true, true, true] [0, 1, 2, 3]
   exact ⟨(i, m, m2, m3), (Option.some.inj hR1).symm, A8, c8, F5, A9, c9, F6, A10, c10, F7, hf, H⟩
 rintro a w ⟨⟨i2, m4, m5, m6⟩, rfl, A15, c15, F12, A16, c16, F13, A17, c17, F14, hf, H⟩
 replace hF := on_next hF
 try dsimp only at hF
 refine then_n (sq (reg (lN 0 hf H TF.la45 fun a hf => ?_)))
 refine pz 2 hf fun a hf => ?_
 refine sB 1 hf H TF.sz45 fun w H => ?_
 refine pz 1 hf fun a hf => ?_
 refine wer ?_
 have H := H.frontD 1 rfl
 have H := H.frontD 2 rfl
 obtain rfl := oi hF
 refine ret_2 hf rfl (rv_cellN hf H 1 TF.la45 rfl rfl rfl) (rv_tmp hf rfl) ?_
 have hN := H.ends3
 exact ⟨_, rfl, H.bel, (F12 ++ (F13 ++ F14)), _, _, rfl, ⟨_, Plan_ownmk (x := ({ Network := ({ Nodes := m4, Fibers := m5 } : Network), Lights := m6 } : Plan)) (H.ownAt 0 rfl) (H.ownAt 1 rfl) (H.ownAt 2 rfl), rfl⟩, mk_int, hN⟩
theorem laws_eqActionS_ok {S : Nat → Prop} {v0_ : Value} {v1_ : Value} {a' : List Action} {b' : List Action} {r : Bool} (h0 : VR w0 S v0_ a') (h1 : VR w0 S v1_ b') (hF : laws_eqActionS fu a' b' = some r) :
    Calls Tryz.prog 29 [v0_, v1_].toArray w0 fun e w' => ∃ v, e = .returned v ∧ (Below w0.heap.size w0 w' ∧ VR w' (St ⟨w0, []⟩ S [] [] [] true) v r) := by
 obtain ⟨A, c, rfl, hl⟩ := VR_list h0
 obtain ⟨A2, c2, rfl, hl2⟩ := VR_list h1
 have H := Mem.start ⟨w0, []⟩ S
 have H := H.pA hl
 have H := H.pA hl2
 refine en Tryz.func29 fun a hf => ?_
 rw [laws_eqActionS] at hF
 refine sqz (pz 1 hf fun a hf => ?_)
 refine we (sqz (pz 5 hf fun a hf => ?_))
 refine wl_end (then_n (ib hF hf (fun hc hF => ?_) fun hc hF => ?_))
 ·refine sqz (pz 1 hf fun a hf => ?_)
  refine wl_end (then_n (wp_ret (then_r (?_))))
  obtain rfl := oi hF
  refine rT hf ?_
  exact ⟨_, rfl, H.bel, mk_bool⟩
 ·refine wp_skip (then_n (sq (sqz (pz 1 hf fun a hf => ?_))))
  refine wl_end (then_n ?_)
  obtain ⟨out', hB1, hF⟩ := bs_ hF
  have hf := hf.pn [0, 1, 5]
  have H := H.lt_ [] [] [] [0, 1]
  refine loopC (fun (s : Int) (a : Act) (w : World) => match s with | i => Fr a 27 [(0, (.slice A a'.length c)), (1, (.slice A2 b'.length c2)), (5, (.int .i64 i))] ∧ Mem ⟨w0, []⟩ S [] [] [] [(false, MP.val [(.slice A2 b'.length c2)] (b' : List Action)), (false, MP.val [(.slice A a'.length c)] (a' : List Action))] w) (fun k (s : Int) => laws_eqActionS_L1 fu a' b' k s = some out') (fun s => out' = Out.next s) 0 fu hB1 ⟨hf, H⟩ (fun s h => by cases h) ?_ ?_
  ·rintro fk i a w hR1 hI
   replace hR1 : laws_eqActionS_L1 fu a' b' (fk + 1) i = some out' := hR1
   rw [laws_eqActionS_L1] at hR1
   obtain ⟨hf, H⟩ := hI
   refine sq (sqz (pz 4 hf fun a hf => ?_))
   refine wl_end (then_n (ib hR1 hf (fun hc2 hR1 => ?_) fun hc2 hR1 => ?_))
   ·refine wp_skip (then_n (sq (wp_block (sq (dw [] 10 fun w hb => ?_)))))
    have H := H.keep hb
    refine zp 0 hf trivial fun a hf => ?_
    refine zp 1 hf trivial fun a hf => ?_
    obtain ⟨e, he, hR1⟩ := bs_ hR1
    obtain ⟨p, o, cs, hx, hr, H⟩ := pre_iaddr H Tryz.underlying67 TF.sz54 1 rfl he
    refine tP 2 rfl rfl rfl rfl hf (by kernel_rfl) (fun _ => trivial) (fun w => rq_iaddrE hf rfl rfl rfl hx w) fun a hf => ?_
    obtain ⟨A3, c3, rfl, hl3⟩ := Action_cells hr
    have H := H.pF hl3
    refine strT (H.lt_ [] [] [] [1]) (fun w H => trivial) fun hS => ?_
    refine zS 3 [] rfl rfl rfl rfl hf hS (fun w H => rq_loadIN hf H TF.la54 0 0 rfl rfl rfl rfl) fun a hf => ?_
    refine zp 4 hf hS fun a hf => ?_
    refine zp 5 hf hS fun a hf => ?_
    obtain ⟨e2, he2, hR1⟩ := bs_ hR1
    obtain ⟨p2, o2, cs2, hx2, hr2, H⟩ := pre_iaddr H Tryz.underlying67 TF.sz54 2 rfl he2
    refine zP 6 rfl rfl rfl rfl hf hS (fun w => rq_iaddrE hf rfl rfl rfl hx2 w) fun a hf => ?_
    obtain ⟨A4, c4, rfl, hl4⟩ := Action_cells hr2
    have H := H.pF hl4
    refine strT (H.lt_ [] [] [] [1, 3]) (fun w H => H.lt_ [] [] [] [1]) fun hS => ?_
    refine zS 7 [] rfl rfl rfl rfl hf hS (fun w H => rq_loadIN hf H TF.la54 0 0 rfl rfl rfl rfl) fun a hf => ?_
    obtain ⟨y, hy, hR1⟩ := bs_ hR1
    refine nn 8 rfl (oC hf TF.cl18 (laws_eqAction_ok (S := TT) (Action_mkv (x := e) (H.rt 2 rfl)) (Action_mkv (x := e2) (H.rt 0 rfl)) hy) fun v w a hp hf => ?_)
    obtain ⟨hb, hp⟩ := hp
    obtain rfl := VR_bool hp
    have H := H.keep hb
    have hS := H.lt_ [] [] [] [1, 3]
    refine aS hS ?_
    refine zp 9 hf hS fun a hf => ?_
    refine dk ?_
    have hf := hf.pn [0, 1, 5, 26]
    refine then_n (ib hR1 hf (fun hc3 hR1 => ?_) fun hc3 hR1 => ?_)
    ·refine sqz (pz 1 hf fun a hf => ?_)
     refine wl_end (then_n (wp_ret (blk_r (then_r (then_r (blk_r (then_r (then_r (?_)))))))))
     obtain rfl := oi hR1
     replace hF := on_ret hF
     obtain rfl := oi hF
     refine rT hf ?_
     exact ⟨_, rfl, H.bel, mk_bool⟩
    ·refine wp_skip (blk_n (then_n (reg (pz 3 hf fun a hf => ?_))))
     refine wl_end ?_
     have hf := hf.pn [0, 1, 5]
     have H := H.lt_ [] [] [] [4, 5]
     exact then_n ⟨w64 (i + 1), hR1, hf, H⟩
   ·refine wp_exit (then_x (then_x (blk_e (?_))))
    have hf := hf.pn [0, 1, 5]
    have H := H.lt_ [] [] [] [0, 1]
    exact ⟨i, (Option.some.inj hR1).symm, hf, H⟩
  rintro a w ⟨i2, rfl, hf, H⟩
  replace hF := on_next hF
  refine then_n (sqz (pz 1 hf fun a hf => ?_))
  refine wer ?_
  obtain rfl := oi hF
  refine rT hf ?_
  exact ⟨_, rfl, H.bel, mk_bool⟩
end AT
