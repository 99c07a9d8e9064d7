/- The Go functions do what is told of them, by program (gen.py). -/
import Derived.Test.YtiedecncmihbeaaGreatWFnExactRunChange1
set_option linter.unusedVariables false
set_option linter.unusedSimpArgs false
set_option maxRecDepth 100000
set_option maxHeartbeats 1000000
namespace AT
open Go Go.RowKit Go.Proofs
variable {fu : Nat} {w0 : World}
theorem laws_szChange_ok {S : Nat → Prop} {v0_ : Value} {v1_ : Value} {a' : Change} {left : Int} {r : Int} (h0 : VR w0 S v0_ a') (h1 : VR w0 S v1_ left) (hF : laws_szChange fu a' left = some r) :
    Calls Tryz.prog 31 [v0_, v1_].toArray w0 fun e w' => ∃ v, e = .returned v ∧ (Below w0.heap.size w0 w' ∧ VR w' (St ⟨w0, []⟩ S [] [] [] true) v r) := by
 obtain ⟨A, c, A2, c2, A3, c3, A4, c4, A5, c5, rfl, hl, hl2, hl3, hl4, hl5⟩ := Change_open h0
 obtain rfl := VR_int h1
 have H := Mem.start ⟨w0, []⟩ S
 have H := H.pA hl
 have H := H.pA hl2
 have H := H.pA hl3
 have H := H.pA hl4
 have H := H.pA hl5
 refine en Tryz.func31 fun a hf => ?_
 rw [laws_szChange] at hF
 refine bx hf H fun b' a w hf H => ?_
 refine pz 1 hf fun a hf => ?_
 refine wr (pz 1 hf fun a hf => ?_)
 refine lN 0 hf H TF.la28 fun a hf => ?_
 refine pz 1 hf fun a hf => ?_
 obtain ⟨y, hy, hF⟩ := bs_ hF
 refine oc hf TF.cl11 (laws_szPlan_ok (S := TT) (Plan_mkv (x := a'.Plan) (H.rt 4 rfl) (H.rt 3 rfl) (H.rt 2 rfl)) mk_int hy) fun v w a hp hf => ?_
 obtain ⟨hb, hp⟩ := hp
 obtain rfl := VR_int hp
 have H := H.keep hb
 refine pz 1 hf fun a hf => ?_
 refine we (sqz (pz 2 hf fun a hf => ?_))
 refine wl_end (then_n (ib hF hf (fun hc hF => ?_) fun hc hF => ?_))
 ·refine sqz (pz 1 hf fun a hf => ?_)
  refine wl_end (then_n (wp_ret (then_r (?_))))
  obtain rfl := oi hF
  refine rT hf ?_
  exact ⟨_, rfl, H.bel, mk_int⟩
 ·refine wp_skip (then_n (sqz (pz 1 hf fun a hf => ?_)))
  refine lB 0 hf H TF.ls63 fun a hf => ?_
  refine pz 1 hf fun a hf => ?_
  obtain ⟨y2, hy2, hF⟩ := bs_ hF
  refine oc hf TF.cl25 (laws_szActionS_ok (S := TT) (mk_list (H.rt 1 rfl)) mk_int hy2) fun v2 w a hp2 hf => ?_
  obtain ⟨hb2, hp2⟩ := hp2
  obtain rfl := VR_int hp2
  have H := H.keep hb2
  refine pz 1 hf fun a hf => ?_
  refine we (sqz (pz 2 hf fun a hf => ?_))
  have hf := hf.pn [1, 2, 16]
  refine wl_end (then_n (ib hF hf (fun hc2 hF => ?_) fun hc2 hF => ?_))
  ·refine sqz (pz 1 hf fun a hf => ?_)
   refine wl_end (then_n (wp_ret (then_r (?_))))
   obtain rfl := oi hF
   refine rT hf ?_
   exact ⟨_, rfl, H.bel, mk_int⟩
  ·refine wp_skip (then_n (sqz (pz 1 hf fun a hf => ?_)))
   refine lB 0 hf H TF.ls63 fun a hf => ?_
   refine pz 1 hf fun a hf => ?_
   obtain ⟨y3, hy3, hF⟩ := bs_ hF
   refine oc hf TF.cl25 (laws_szActionS_ok (S := TT) (mk_list (H.rt 0 rfl)) mk_int hy3) fun v3 w a hp3 hf => ?_
   obtain ⟨hb3, hp3⟩ := hp3
   obtain rfl := VR_int hp3
   have H := H.keep hb3
   refine pz 1 hf fun a hf => ?_
   refine we (sqz (pz 2 hf fun a hf => ?_))
   refine wl_end (then_n (ib hF hf (fun hc3 hF => ?_) fun hc3 hF => ?_))
   ·refine sqz (pz 1 hf fun a hf => ?_)
    refine wl_end (then_n (wp_ret (then_r (?_))))
    obtain rfl := oi hF
    refine rT hf ?_
    exact ⟨_, rfl, H.bel, mk_int⟩
   ·refine wp_skip (then_n (sqz (pz 2 hf fun a hf => ?_)))
    refine wer ?_
    obtain rfl := oi hF
    refine rT hf ?_
    exact ⟨_, rfl, H.bel, mk_int⟩
theorem laws_toChange_ok {S : Nat → Prop} {v0_ : Value} {a' : Change} {r : Change} (h0 : VR w0 S v0_ a') (hF : laws_toChange fu a' = some r) :
    Calls Tryz.prog 33 [v0_].toArray w0 fun e w' => ∃ v, e = .returned v ∧ (Below w0.heap.size w0 w' ∧ ∃ F0, VO w' F0 v r ∧ New w0 w' F0) := by
 obtain ⟨A, c, A2, c2, A3, c3, A4, c4, A5, c5, rfl, hl, hl2, hl3, hl4, hl5⟩ := Change_open h0
 have H := Mem.start ⟨w0, []⟩ S
 have H := H.pA hl
 have H := H.pA hl2
 have H := H.pA hl3
 have H := H.pA hl4
 have H := H.pA hl5
 refine en Tryz.func33 fun a hf => ?_
 rw [laws_toChange] at hF
 refine bx hf H fun b' a w hf H => ?_
 refine aL hf H TF.zv76 fun b2 a w hf H => ?_
 refine wr (aL hf H TF.zv76 fun b3 a w hf H => ?_)
 refine wr (pz 1 hf fun a hf => ?_)
 refine lN 2 hf H TF.la28 fun a hf => ?_
 obtain ⟨y, hy, hF⟩ := bs_ hF
 refine oc hf TF.cl14 (laws_toPlan_ok (S := TT) (Plan_mkv (x := a'.Plan) (H.rt 4 rfl) (H.rt 3 rfl) (H.rt 2 rfl)) hy) fun v w a hp hf => ?_
 obtain ⟨hb, F, hp2, hN⟩ := hp
 obtain ⟨A6, c6, F2, A7, c7, F3, A8, c8, F4, rfl, rfl, hl6, hl7, hl8⟩ := Plan_vo hp2
 have H := H.aO3 hb hN hl6 hl7 hl8
 have H := H.lend 0 rfl
 have H := H.lend 1 rfl
 have H := H.lend 2 rfl
 refine pz 1 hf fun a hf => ?_
 refine sB 0 hf H TF.sz45 fun w H => ?_
 refine wr (pz 1 hf fun a hf => ?_)
 refine lB 2 hf H TF.ls63 fun a hf => ?_
 obtain ⟨y2, hy2, hF⟩ := bs_ hF
 refine oc hf TF.cl27 (laws_toActionS_ok (S := TT) (mk_list (H.rt 4 rfl)) hy2) fun v2 w a hp3 hf => ?_
 obtain ⟨hb2, F5, hp4, hN2⟩ := hp3
 obtain ⟨A9, c9, rfl, hl9⟩ := VO_list hp4
 have H := H.aO1 hb2 hN2 hl9
 have H := H.lend 0 rfl
 refine pz 1 hf fun a hf => ?_
 refine sB 0 hf H TF.sz67 fun w H => ?_
 refine wr (pz 1 hf fun a hf => ?_)
 refine lB 2 hf H TF.ls63 fun a hf => ?_
 obtain ⟨y3, hy3, hF⟩ := bs_ hF
 refine oc hf TF.cl27 (laws_toActionS_ok (S := TT) (mk_list (H.rt 4 rfl)) hy3) fun v3 w a hp5 hf => ?_
 obtain ⟨hb3, F7, hp6, hN3⟩ := hp5
 obtain ⟨A10, c10, rfl, hl10⟩ := VO_list hp6
 have H := H.aO1 hb3 hN3 hl10
 have H := H.lend 0 rfl
 refine pz 1 hf fun a hf => ?_
 refine sB 0 hf H TF.sz67 fun w H => ?_
 have hf := hf.pn [1, 2, 3]
 refine wr (pz 1 hf fun a hf => ?_)
 refine lB 2 hf H TF.ls4 fun a hf => ?_
 refine pz 1 hf fun a hf => ?_
 refine sB 0 hf H TF.sz4 fun w H => ?_
 refine wr (lN 0 hf H TF.la76 fun a hf => ?_)
 refine sB 1 hf H TF.sz76 fun w H => ?_
 refine wer ?_
 have H := H.frontD 1 rfl
 have H := H.tl
 have H := H.lendTl 0 rfl
 have H := H.frontD 1 rfl
 have H := H.tl
 have H := H.lendTl 0 rfl
 have H := H.frontD 1 rfl
 have H := H.frontD 4 rfl
 have H := H.frontD 4 rfl
 have H := H.frontD 4 rfl
 obtain rfl := oi hF
 refine ret_1 hf rfl (rv_cellN hf H 1 TF.la76 rfl rfl rfl) ?_
 have hN := H.ends (X := [(⟨F2, MP.own F2 [(.slice A6 y.Network.Nodes.length c6)] (y.Network.Nodes : List ByteArray)⟩ : DI), (⟨F3, MP.own F3 [(.slice A7 y.Network.Fibers.length c7)] (y.Network.Fibers : List Fiber)⟩ : DI), (⟨F4, MP.own F4 [(.slice A8 y.Lights.length c8)] (y.Lights : List Light)⟩ : DI), (⟨F5, MP.own F5 [(.slice A9 y2.length c9)] (Tl.mk (y2 : List Action))⟩ : DI), (⟨F7, MP.own F7 [(.slice A10 y3.length c10)] (Tl.mk (y3 : List Action))⟩ : DI)])
 simp only [List.flatMap_cons, List.flatMap_nil, List.append_nil, List.append_assoc] at hN
 exact ⟨_, rfl, H.bel, (F2 ++ (F3 ++ (F4 ++ (F5 ++ F7)))), ⟨_, Change_ownmk (x := ({ Plan := y, Actions := y2, Undo := y3, Back := a'.Back } : Change)) (H.ownAt 0 rfl) (H.ownAt 1 rfl) (H.ownAt 2 rfl) (H.ownAt 3 rfl) (H.ownAt 4 rfl), rfl⟩, by first | exact hN | simpa using hN⟩
theorem spec_l20Good_ok {S : Nat → Prop} {v0_ : Value} {c : Change} {r : Bool} (h0 : VR w0 S v0_ c) (hF : spec_l20Good fu c = some r) :
    Calls Tryz.prog 85 [v0_].toArray w0 fun e w' => ∃ v, e = .returned v ∧ (Below w0.heap.size w0 w' ∧ VR w' (St ⟨w0, []⟩ S [] [] [] true) v r) := by
 obtain ⟨A, c2, A2, c3, A3, c4, A4, c5, A5, c6, rfl, hl, hl2, hl3, hl4, hl5⟩ := Change_open h0
 have H := Mem.start ⟨w0, []⟩ S
 have H := H.pA hl
 have H := H.pA hl2
 have H := H.pA hl3
 have H := H.pA hl4
 have H := H.pA hl5
 refine en Tryz.func85 fun a hf => ?_
 rw [spec_l20Good] at hF
 refine bx hf H fun b' a w hf H => ?_
 refine pz 1 hf fun a hf => ?_
 refine wl_end (then_n (sq (sq ?_)))
 obtain ⟨c7, hGc7, hF⟩ := bs_ hF
 have fh := hf.prune [1] rfl
 have Hm := H.lt_ [true] [] [] [0, 1, 2, 3, 4]
 refine midF 28 (.bool c7) fh Hm ?_ fun a w hf H => ?_
 ·refine reg (pz 1 hf fun a hf => ?_)
  refine lN 0 hf H TF.la45 fun a hf => ?_
  obtain ⟨y, hy, hGc7⟩ := bs_ hGc7
  refine oc hf TF.cl61 (spec_l9Good_ok (S := TT) (Plan_mkv (x := c.Plan) (H.rt 4 rfl) (H.rt 3 rfl) (H.rt 2 rfl)) hy) fun v w a hp hf => ?_
  obtain ⟨hb, hp⟩ := hp
  obtain rfl := VR_bool hp
  have H := H.keep hb
  refine pz 2 hf fun a hf => ?_
  refine iteB hGc7 (fun hc hGc7 => ?_) fun hc hGc7 => ?_
  ·have hf := hf.lit 9 rfl hc
   refine pz 13 hf fun a hf => ?_
   refine wlsu hf rfl rfl rfl rfl (by decide) fun a hf => ?_
   refine wlsu hf rfl rfl rfl rfl (by decide) fun a hf => ?_
   refine wlsu hf rfl rfl rfl rfl (by decide) fun a hf => ?_
   refine wlsu hf rfl rfl rfl rfl (by decide) fun a hf => ?_
   refine pz 2 hf fun a hf => ?_
   obtain rfl := oi hGc7
   have hf := hf.pn [28, 1]
   have H := H.lt_ [true] [] [] [0, 1, 2, 3, 4]
   exact wl_end ⟨hf, H⟩
  ·have hf := hf.lit 9 rfl hc
   refine pz 1 hf fun a hf => ?_
   refine wlg hf rfl rfl rfl (op_q hf (rq_loadB hf H TF.ls67 0 rfl rfl rfl) rfl (by decide) fun a hf => ?_)
   refine pz 2 hf fun a hf => ?_
   refine wlg hf rfl rfl rfl (op_q hf (rq_loadB hf H TF.ls67 0 rfl rfl rfl) rfl (by decide) fun a hf => ?_)
   refine pz 5 hf fun a hf => ?_
   refine iteB hGc7 (fun hc2 hGc7 => ?_) fun hc2 hGc7 => ?_
   ·have hf := hf.lit 19 rfl hc2
    refine pz 3 hf fun a hf => ?_
    refine wlsu hf rfl rfl rfl rfl (by decide) fun a hf => ?_
    refine wlsu hf rfl rfl rfl rfl (by decide) fun a hf => ?_
    refine wlsu hf rfl rfl rfl rfl (by decide) fun a hf => ?_
    refine wlsu hf rfl rfl rfl rfl (by decide) fun a hf => ?_
    refine pz 2 hf fun a hf => ?_
    obtain rfl := oi hGc7
    have hf := hf.pn [28, 1]
    have H := H.lt_ [true] [] [] [0, 1, 2, 3, 4]
    exact wl_end ⟨hf, H⟩
   ·have hf := hf.lit 19 rfl hc2
    refine pz 1 hf fun a hf => ?_
    refine wlg hf rfl rfl rfl (op_q hf (rq_loadB hf H TF.ls4 0 rfl rfl rfl) rfl (by decide) fun a hf => ?_)
    refine pz 1 hf fun a hf => ?_
    refine iteB hGc7 (fun hc3 hGc7 => ?_) fun hc3 hGc7 => ?_
    ·have hf := hf.lit 22 rfl hc3
     refine pz 1 hf fun a hf => ?_
     refine wlg hf rfl rfl rfl (op_q hf (rq_loadB hf H TF.ls67 0 rfl rfl rfl) rfl (by decide) fun a hf => ?_)
     refine pz 4 hf fun a hf => ?_
     obtain rfl := oi hGc7
     have hf := hf.pn [28, 1]
     have H := H.lt_ [true] [] [] [0, 1, 2, 3, 4]
     exact wl_end ⟨hf, H⟩
    ·have hf := hf.lit 22 rfl hc3
     refine pz 6 hf fun a hf => ?_
     obtain rfl := oi hGc7
     have hf := hf.pn [28, 1]
     have H := H.lt_ [true] [] [] [0, 1, 2, 3, 4]
     exact wl_end ⟨hf, H⟩
 refine then_n (ib hF hf (fun hc4 hF => ?_) fun hc4 hF => ?_)
 ·refine sqz (pz 1 hf fun a hf => ?_)
  refine wl_end (then_n (wp_ret (then_r (?_))))
  obtain rfl := oi hF
  refine rT hf ?_
  exact ⟨_, rfl, H.bel, mk_bool⟩
 ·refine wp_skip (then_n (sqz (pz 1 hf fun a hf => ?_)))
  refine lN 0 hf H TF.la45 fun a hf => ?_
  refine pz 1 hf fun a hf => ?_
  refine lB 0 hf H TF.ls67 fun a hf => ?_
  obtain ⟨y2, hy2, hF⟩ := bs_ hF
  refine oc hf TF.cl80 (spec_l20All_ok (S := TT) (Plan_mkv (x := c.Plan) (H.rt 4 rfl) (H.rt 3 rfl) (H.rt 2 rfl)) (mk_list (H.rt 0 rfl)) hy2) fun v2 w a hp2 hf => ?_
  obtain ⟨hb2, v3, v4, rfl, hp3, hp4⟩ := hp2
  obtain ⟨A6, c8, A7, c9, A8, c10, rfl, hl6, hl7, hl8⟩ := Plan_open hp3
  replace hl6 := H.rF hl6
  replace hl7 := H.rF hl7
  replace hl8 := H.rF hl8
  obtain rfl := VR_int hp4
  have H := H.keep hb2
  have H := H.pT hl6
  have H := H.pT hl7
  have H := H.pT hl8
  refine pz 3 hf fun a hf => ?_
  refine aL hf H TF.zv45 fun b2 a w hf H => ?_
  refine sB 0 hf H TF.sz45 fun w H => ?_
  refine pz 1 hf fun a hf => ?_
  refine wr (pz 2 hf fun a hf => ?_)
  refine lB 1 hf H TF.ls67 fun a hf => ?_
  refine pz 3 hf fun a hf => ?_
  have hf := hf.pn [2]
  refine wer ?_
  obtain rfl := oi hF
  refine rT hf ?_
  exact ⟨_, rfl, H.bel, mk_bool⟩
theorem spec_l20Copies_ok {S : Nat → Prop} {v0_ : Value} {list : List Action} {r : List Action} (h0 : VR w0 S v0_ list) (hF : spec_l20Copies fu list = some r) :
    Calls Tryz.prog 92 [v0_].toArray w0 fun e w' => ∃ v, e = .returned v ∧ (Below w0.heap.size w0 w' ∧ ∃ F0, VO w' F0 v r ∧ New w0 w' F0) := by
 obtain ⟨A, c, rfl, hl⟩ := VR_list h0
 have H := Mem.start ⟨w0, []⟩ S
 have H := H.pA hl
 refine en Tryz.func92 fun a hf => ?_
 rw [spec_l20Copies] at hF
 refine sqz (pz 1 hf fun a hf => ?_)
 refine wr (wl0 rfl (op_bslice hf H (.ow []) rfl 54 ([] : List Action) [] rfl (fun w => by kernel_rfl) rfl (by decide) rfl rfl (fun i x h => by simp at h) (by decide) fun A2 a w hf H => ?_))
 refine pz 1 hf fun a hf => ?_
 refine we (sqz (pz 1 hf fun a hf => ?_))
 refine wl_end (then_n ?_)
 obtain ⟨out2, hB1, hF⟩ := bs_ hF
 have hf := hf.pn [0, 3, 4]
 have H := H.lt_ [] [true] [] [0]
 refine loopC (fun (s : List Action × Int) (a : Act) (w : World) => match s with | (out', i) => ∃ (A3 : Option Addr) (c2 : Nat) (E : Go.TypeId) (Fs : List (List Nat)), Fr a 28 [(0, (.slice A list.length c)), (3, (.slice A3 out'.length c2)), (4, (.int .i64 i))] ∧ Mem ⟨w0, []⟩ S [] [⟨.ow Fs, E, A3, c2, (out' : List Action)⟩] [] [(false, MP.val [(.slice A list.length c)] (list : List Action))] w) (fun k (s : List Action × Int) => spec_l20Copies_L1 fu list k s.1 s.2 = some out2) (fun s => out2 = s) (([] : List Action), 0) fu hB1 ⟨A2, 0, 54, [], hf, H⟩ (fun s h => by cases h) ?_ ?_
 ·rintro fk ⟨out', i⟩ a w hR1 hI
  replace hR1 : spec_l20Copies_L1 fu list (fk + 1) out' i = some out2 := hR1
  rw [spec_l20Copies_L1] at hR1
  obtain ⟨A3, c2, E, Fs, hf, H⟩ := hI
  refine sq (sqz (pz 4 hf fun a hf => ?_))
  refine wl_end (then_n (ib hR1 hf (fun hc hR1 => ?_) fun hc hR1 => ?_))
  ·refine wp_skip (then_n (sq (wp_block (dw [] 16 fun w hb => ?_))))
   have H := H.keep hb
   refine zp 0 hf trivial fun a hf => ?_
   refine zp 1 hf trivial fun a hf => ?_
   refine zp 2 hf trivial fun a hf => ?_
   obtain ⟨e, he, hR1⟩ := bs_ hR1
   obtain ⟨p, o, cs, hx, hr, H⟩ := pre_iaddr H Tryz.underlying67 TF.sz54 0 rfl he
   refine tP 3 rfl rfl rfl rfl hf (by kernel_rfl) (fun _ => trivial) (fun w => rq_iaddrE hf rfl rfl rfl hx w) fun a hf => ?_
   obtain ⟨A4, c3, rfl, hl2⟩ := Action_cells hr
   have H := H.pF hl2
   refine zp 4 hf trivial fun a hf => ?_
   refine strT (H.lt_ [] [false] [] [1]) (fun w H => trivial) fun hS => ?_
   refine zS 5 [] rfl rfl rfl rfl hf hS (fun w H => rq_loadI hf H TF.ls3 0 0 rfl rfl rfl) fun a hf => ?_
   refine zp 6 hf hS fun a hf => ?_
   refine zp 7 hf hS fun a hf => ?_
   obtain ⟨e2, he2, hR1⟩ := bs_ hR1
   obtain ⟨p2, o2, cs2, hx2, hr2, H⟩ := pre_iaddr H Tryz.underlying67 TF.sz54 2 rfl he2
   refine zP 8 rfl rfl rfl rfl hf hS (fun w => rq_iaddrE hf rfl rfl rfl hx2 w) fun a hf => ?_
   obtain ⟨A5, c4, rfl, hl3⟩ := Action_cells hr2
   have H := H.pF hl3
   refine zp 9 hf hS fun a hf => ?_
   refine strT (H.lt_ [] [false] [] [1, 3]) (fun w H => H.lt_ [] [] [] [1]) fun hS => ?_
   refine zS 10 [] rfl rfl rfl rfl hf hS (fun w H => rq_loadIN hf H TF.la52 0 1 rfl rfl rfl rfl) fun a hf => ?_
   obtain ⟨y, hy, hR1⟩ := bs_ hR1
   refine nn 11 rfl (oC hf TF.cl140 (spec_l9Copy_ok (S := TT) (Light_mkv (x := e2.Light) (H.rt 0 rfl)) hy) fun v w a hp hf => ?_)
   obtain ⟨hb, F, hp2, hN⟩ := hp
   obtain ⟨A6, c5, F2, rfl, rfl, hl4⟩ := Light_vo hp2
   have H := H.aO1 hb hN hl4
   have H := H.lend 0 rfl
   have hS := H.lt_ [] [false] [false] [2, 4]
   refine aS hS ?_
   refine zP 12 rfl rfl rfl rfl hf hS (fun w => rq_build hf (cs := [(.int .i64 e.Kind), (.int .i64 y.Id), (.int .i64 y.Route.Start), (.slice A6 y.Route.Fibers.length c5), (.int .i64 y.Block.First), (.int .i64 y.Block.Count)]) rfl (fun w => by kernel_rfl)) fun a hf => ?_
   have H := H.recast (X := [(⟨F2, MP.own F2 [(.slice A6 y.Route.Fibers.length c5)] (y.Route.Fibers : List Int)⟩ : DI)]) (Y := [(⟨F2, MP.own F2 [(.int .i64 e.Kind), (.int .i64 y.Id), (.int .i64 y.Route.Start), (.slice A6 y.Route.Fibers.length c5), (.int .i64 y.Block.First), (.int .i64 y.Block.Count)] (({ Kind := e.Kind, Light := y } : Action) : Action)⟩ : DI)]) (List.Perm.of_eq (by simp)) fun _ => ps1 (Action_ownmk (x := ({ Kind := e.Kind, Light := y } : Action)) (H.ownAt 0 rfl)) ps0
   refine nn 13 rfl (op_bsliceO hf 54 H rfl (fun w => by kernel_rfl) (by decide) fun A7 a w hf H => ?_)
   have hS := H.lt_ [] [false, false] [] [2, 4]
   refine aS hS ?_
   obtain ⟨al, hal, hR1⟩ := bs_ hR1
   have H := H.frontR 1 rfl
   refine nn 14 rfl (op_appO hf H Tryz.underlying67 TF.ai54 rfl (by decide) rfl rfl hal (by decide) fun E2 A8 c6 a w hf H => ?_)
   have hS := H.lt_ [] [false] [] [2, 4]
   refine aS hS ?_
   refine zp 15 hf hS fun a hf => ?_
   refine dk ?_
   have hf := hf.pn [0, 3, 4]
   refine blk_n (then_n (reg (pz 3 hf fun a hf => ?_)))
   refine wl_end ?_
   have hf := hf.pn [0, 3, 4]
   have H := H.lt_ [] [true] [] [5]
   exact then_n ⟨(al, w64 (i + 1)), hR1, A8, c6, E2, Fs ++ [F2], hf, H⟩
  ·refine wp_exit (then_x (then_x (blk_e (?_))))
   have hf := hf.pn [0, 3, 4]
   have H := H.lt_ [] [true] [] [0]
   exact ⟨(out', i), (Option.some.inj hR1).symm, A3, c2, E, Fs, hf, H⟩
 rintro a w ⟨⟨out3, i2⟩, rfl, A9, c7, E3, Fs2, hf, H⟩
 try dsimp only at hF
 refine then_n (sqz (pz 2 hf fun a hf => ?_))
 refine wer ?_
 obtain ⟨F3, H⟩ := H.freezeOwn 0 rfl
 have H := H.lend 0 rfl
 obtain rfl := oi hF
 refine rT hf ?_
 have hN := H.ends1
 exact ⟨_, rfl, H.bel, F3, (mko_list (H.ownAt 0 rfl)), hN⟩
theorem spec_l20Step_ok {S : Nat → Prop} {v0_ : Value} {c : Change} {r : Change} (h0 : VR w0 S v0_ c) (hF : spec_l20Step fu c = some r) :
    Calls Tryz.prog 86 [v0_].toArray w0 fun e w' => ∃ v, e = .returned v ∧ (Below w0.heap.size w0 w' ∧ VR w' (St ⟨w0, []⟩ S [] [] [] true) v r) := by
 obtain ⟨A, c2, A2, c3, A3, c4, A4, c5, A5, c6, rfl, hl, hl2, hl3, hl4, hl5⟩ := Change_open h0
 have H := Mem.start ⟨w0, []⟩ S
 have H := H.pA hl
 have H := H.pA hl2
 have H := H.pA hl3
 have H := H.pA hl4
 have H := H.pA hl5
 refine en Tryz.func86 fun a hf => ?_
 rw [spec_l20Step] at hF
 refine bx hf H fun b' a w hf H => ?_
 refine aL hf H TF.zv76 fun b2 a w hf H => ?_
 refine wl_end (then_n (sq ?_))
 obtain ⟨y, hy, hF⟩ := bs_ hF
 obtain ⟨y2, hy2, hF⟩ := bs_ hF
 obtain ⟨y3, hy3, hF⟩ := bs_ hF
 refine mid (fun a w => ∃ (b3 : Nat) (A6 : Option Addr) (c7 : Nat) (F2 : List Nat) (A7 : Option Addr) (c8 : Nat) (F3 : List Nat) (A8 : Option Addr) (c9 : Nat) (F4 : List Nat) (A9 : Option Addr) (c10 : Nat) (F5 : List Nat) (A10 : Option Addr) (c11 : Nat) (F7 : List Nat), Fr a 89 [(1, (.pointer (some ⟨b', 0, none⟩))), (2, (.pointer (some ⟨b2, 0, none⟩))), (3, (.pointer (some ⟨b3, 0, none⟩)))] ∧ Mem ⟨w0, []⟩ S [⟨b3, 76, [(.slice A6 y.Network.Nodes.length c7), (.slice A7 y.Network.Fibers.length c8), (.slice A8 y.Lights.length c9), (.slice A9 y2.length c10), (.slice A10 y3.length c11), (.bool c.Back)]⟩, ⟨b2, 76, [(.slice none 0 0), (.slice none 0 0), (.slice none 0 0), (.slice none 0 0), (.slice none 0 0), (.bool false)]⟩, ⟨b', 76, [(.slice A c.Plan.Network.Nodes.length c2), (.slice A2 c.Plan.Network.Fibers.length c3), (.slice A3 c.Plan.Lights.length c4), (.slice A4 c.Actions.length c5), (.slice A5 c.Undo.length c6), (.bool c.Back)]⟩] [] [⟨F7, MP.own F7 [(.slice A10 y3.length c11)] (y3 : List Action)⟩, ⟨F5, MP.own F5 [(.slice A9 y2.length c10)] (y2 : List Action)⟩, ⟨F2, MP.own F2 [(.slice A6 y.Network.Nodes.length c7)] (y.Network.Nodes : List ByteArray)⟩, ⟨F3, MP.own F3 [(.slice A7 y.Network.Fibers.length c8)] (y.Network.Fibers : List Fiber)⟩, ⟨F4, MP.own F4 [(.slice A8 y.Lights.length c9)] (y.Lights : List Light)⟩] [(true, MP.val [(.slice A10 y3.length c11)] (y3 : List Action)), (true, MP.val [(.slice A9 y2.length c10)] (y2 : List Action)), (true, MP.val [(.slice A8 y.Lights.length c9)] (y.Lights : List Light)), (true, MP.val [(.slice A7 y.Network.Fibers.length c8)] (y.Network.Fibers : List Fiber)), (true, MP.val [(.slice A6 y.Network.Nodes.length c7)] (y.Network.Nodes : List ByteArray)), (false, MP.val [(.slice A5 c.Undo.length c6)] (c.Undo : List Action)), (false, MP.val [(.slice A4 c.Actions.length c5)] (c.Actions : List Action)), (false, MP.val [(.slice A3 c.Plan.Lights.length c4)] (c.Plan.Lights : List Light)), (false, MP.val [(.slice A2 c.Plan.Network.Fibers.length c3)] (c.Plan.Network.Fibers : List Fiber)), (false, MP.val [(.slice A c.Plan.Network.Nodes.length c2)] (c.Plan.Network.Nodes : List ByteArray))] w) ?_ ?_
 ·refine dw [13] 14 fun w hb => ?_
  have H := H.keep hb
  refine zp 0 hf trivial fun a hf => ?_
  refine strT (H.lt_ [false, true] [] [] []) (fun w H => trivial) fun hS => ?_
  refine zS 1 [1, 2, 5, 8, 11, 13] rfl rfl rfl rfl hf hS (fun w H => rq_loadBN hf H TF.la45 0 rfl rfl rfl rfl) fun a hf => ?_
  refine zp 3 hf hS fun a hf => ?_
  refine zS 4 [4, 5, 8, 11, 13] rfl rfl rfl rfl hf hS (fun w H => rq_loadB hf H TF.ls67 0 rfl rfl rfl) fun a hf => ?_
  refine zp 6 hf hS fun a hf => ?_
  refine zS 7 [7, 8, 11, 13] rfl rfl rfl rfl hf hS (fun w H => rq_loadB hf H TF.ls67 0 rfl rfl rfl) fun a hf => ?_
  refine zp 9 hf hS fun a hf => ?_
  refine zS 10 [10, 11, 13] rfl rfl rfl rfl hf hS (fun w H => rq_loadB hf H TF.ls4 0 rfl rfl rfl) fun a hf => ?_
  refine on2 (i := 2) (j := 12) (bi := [true, true, true, true, true, false, true, true, false, true, true, false, false, false]) (bj := [true, true, false, true, true, false, true, true, false, true, true, false, true, false]) (by kernel_rfl) rfl rfl rfl rfl rfl rfl ?_ ?_
  ·refine (oC hf TF.cl81 (spec_l9Own_ok (S := TT) (Plan_mkv (x := c.Plan) (H.rt 4 rfl) (H.rt 3 rfl) (H.rt 2 rfl)) hy) fun v w a hp hf => ?_)
   obtain ⟨hb, F, hp2, hN⟩ := hp
   obtain ⟨A6, c7, F2, A7, c8, F3, A8, c9, F4, rfl, rfl, hl6, hl7, hl8⟩ := Plan_vo hp2
   have H := H.aO3 hb hN hl6 hl7 hl8
   have H := H.lend 0 rfl
   have H := H.lend 1 rfl
   have H := H.lend 2 rfl
   have hS := H.lt_ [false, true] [] [false, false, false] []
   refine aS hS ?_
   refine on2 (i := 5) (j := 12) (bi := [true, true, true, true, true, true, true, true, false, true, true, false, false, false]) (bj := [true, true, true, true, true, false, true, true, false, true, true, false, true, false]) (by kernel_rfl) rfl rfl rfl rfl rfl rfl ?_ ?_
   ·refine (oC hf TF.cl92 (spec_l20Copies_ok (S := TT) (mk_list (H.rt 4 rfl)) hy2) fun v2 w a hp3 hf => ?_)
    obtain ⟨hb2, F5, hp4, hN2⟩ := hp3
    obtain ⟨A9, c10, rfl, hl9⟩ := VO_list hp4
    have H := H.aO1 hb2 hN2 hl9
    have H := H.lend 0 rfl
    have hS := H.lt_ [false, true] [] [false, false, false, false] []
    refine aS hS ?_
    refine on2 (i := 8) (j := 12) (bi := [true, true, true, true, true, true, true, true, true, true, true, false, false, false]) (bj := [true, true, true, true, true, true, true, true, false, true, true, false, true, false]) (by kernel_rfl) rfl rfl rfl rfl rfl rfl ?_ ?_
    ·refine (oC hf TF.cl92 (spec_l20Copies_ok (S := TT) (mk_list (H.rt 4 rfl)) hy3) fun v3 w a hp5 hf => ?_)
     obtain ⟨hb3, F7, hp6, hN3⟩ := hp5
     obtain ⟨A10, c11, rfl, hl10⟩ := VO_list hp6
     have H := H.aO1 hb3 hN3 hl10
     have H := H.lend 0 rfl
     have hS := H.lt_ [false, true] [] [false, false, false, false, false] []
     refine aS hS ?_
     refine zP 11 rfl rfl rfl rfl hf hS (fun w => rq_build hf (cs := [(.slice A6 y.Network.Nodes.length c7), (.slice A7 y.Network.Fibers.length c8), (.slice A8 y.Lights.length c9), (.slice A9 y2.length c10), (.slice A10 y3.length c11), (.bool c.Back)]) rfl (fun w => by kernel_rfl)) fun a hf => ?_
     refine nn 12 rfl (op_alloc hf H TF.zv76 rfl (by decide) fun b3 a w hf H => ?_)
     have hS := H.lt_ [false, false, true] [] [false, false, false, false, false] []
     refine aS hS ?_
     refine nn 13 rfl (op_storeB hf H 0 TF.sz76 rfl rfl rfl rfl rfl rfl (nle rfl) fun w H => ?_)
     refine ⟨fun h => absurd h (by decide), ?_⟩
     refine dk ?_
     have hf := hf.pn [1, 2, 3]
     have H := H.lt_ [true, true, true] [] [true, true, true, true, true] [0, 1, 2, 3, 4, 5, 6, 7, 8, 9]
     exact ⟨b3, A6, c7, F2, A7, c8, F3, A8, c9, F4, A9, c10, F5, A10, c11, F7, hf, H⟩
    ·refine (op_alloc hf H TF.zv76 rfl (by decide) fun b3 a w hf H => ?_)
     have hS := H.lt_ [false, false, true] [] [false, false, false, false] []
     refine aS hS ?_
     refine nn 8 rfl (oC hf TF.cl92 (spec_l20Copies_ok (S := TT) (mk_list (H.rt 4 rfl)) hy3) fun v3 w a hp5 hf => ?_)
     obtain ⟨hb3, F7, hp6, hN3⟩ := hp5
     obtain ⟨A10, c11, rfl, hl10⟩ := VO_list hp6
     have H := H.aO1 hb3 hN3 hl10
     have H := H.lend 0 rfl
     have hS := H.lt_ [false, false, true] [] [false, false, false, false, false] []
     refine aS hS ?_
     refine zP 11 rfl rfl rfl rfl hf hS (fun w => rq_build hf (cs := [(.slice A6 y.Network.Nodes.length c7), (.slice A7 y.Network.Fibers.length c8), (.slice A8 y.Lights.length c9), (.slice A9 y2.length c10), (.slice A10 y3.length c11), (.bool c.Back)]) rfl (fun w => by kernel_rfl)) fun a hf => ?_
     refine nn 13 rfl (op_storeB hf H 0 TF.sz76 rfl rfl rfl rfl rfl rfl (nle rfl) fun w H => ?_)
     refine ⟨fun h => absurd h (by decide), ?_⟩
     refine dk ?_
     have hf := hf.pn [1, 2, 3]
     have H := H.lt_ [true, true, true] [] [true, true, true, true, true] [0, 1, 2, 3, 4, 5, 6, 7, 8, 9]
     exact ⟨b3, A6, c7, F2, A7, c8, F3, A8, c9, F4, A9, c10, F5, A10, c11, F7, hf, H⟩
   ·refine (op_alloc hf H TF.zv76 rfl (by decide) fun b3 a w hf H => ?_)
    have hS := H.lt_ [false, false, true] [] [false, false, false] []
    refine aS hS ?_
    refine nn 5 rfl (oC hf TF.cl92 (spec_l20Copies_ok (S := TT) (mk_list (H.rt 4 rfl)) hy2) fun v2 w a hp3 hf => ?_)
    obtain ⟨hb2, F5, hp4, hN2⟩ := hp3
    obtain ⟨A9, c10, rfl, hl9⟩ := VO_list hp4
    have H := H.aO1 hb2 hN2 hl9
    have H := H.lend 0 rfl
    have hS := H.lt_ [false, false, true] [] [false, false, false, false] []
    refine aS hS ?_
    refine nn 8 rfl (oC hf TF.cl92 (spec_l20Copies_ok (S := TT) (mk_list (H.rt 4 rfl)) hy3) fun v3 w a hp5 hf => ?_)
    obtain ⟨hb3, F7, hp6, hN3⟩ := hp5
    obtain ⟨A10, c11, rfl, hl10⟩ := VO_list hp6
    have H := H.aO1 hb3 hN3 hl10
    have H := H.lend 0 rfl
    have hS := H.lt_ [false, false, true] [] [false, false, false, false, false] []
    refine aS hS ?_
    refine zP 11 rfl rfl rfl rfl hf hS (fun w => rq_build hf (cs := [(.slice A6 y.Network.Nodes.length c7), (.slice A7 y.Network.Fibers.length c8), (.slice A8 y.Lights.length c9), (.slice A9 y2.length c10), (.slice A10 y3.length c11), (.bool c.Back)]) rfl (fun w => by kernel_rfl)) fun a hf => ?_
    refine nn 13 rfl (op_storeB hf H 0 TF.sz76 rfl rfl rfl rfl rfl rfl (nle rfl) fun w H => ?_)
    refine ⟨fun h => absurd h (by decide), ?_⟩
    refine dk ?_
    have hf := hf.pn [1, 2, 3]
    have H := H.lt_ [true, true, true] [] [true, true, true, true, true] [0, 1, 2, 3, 4, 5, 6, 7, 8, 9]
    exact ⟨b3, A6, c7, F2, A7, c8, F3, A8, c9, F4, A9, c10, F5, A10, c11, F7, hf, H⟩
  ·refine (op_alloc hf H TF.zv76 rfl (by decide) fun b3 a w hf H => ?_)
   have hS := H.lt_ [false, false, true] [] [] []
   refine aS hS ?_
   refine nn 2 rfl (oC hf TF.cl81 (spec_l9Own_ok (S := TT) (Plan_mkv (x := c.Plan) (H.rt 4 rfl) (H.rt 3 rfl) (H.rt 2 rfl)) hy) fun v w a hp hf => ?_)
   obtain ⟨hb, F, hp2, hN⟩ := hp
   obtain ⟨A6, c7, F2, A7, c8, F3, A8, c9, F4, rfl, rfl, hl6, hl7, hl8⟩ := Plan_vo hp2
   have H := H.aO3 hb hN hl6 hl7 hl8
   have H := H.lend 0 rfl
   have H := H.lend 1 rfl
   have H := H.lend 2 rfl
   have hS := H.lt_ [false, false, true] [] [false, false, false] []
   refine aS hS ?_
   refine nn 5 rfl (oC hf TF.cl92 (spec_l20Copies_ok (S := TT) (mk_list (H.rt 4 rfl)) hy2) fun v2 w a hp3 hf => ?_)
   obtain ⟨hb2, F5, hp4, hN2⟩ := hp3
   obtain ⟨A9, c10, rfl, hl9⟩ := VO_list hp4
   have H := H.aO1 hb2 hN2 hl9
   have H := H.lend 0 rfl
   have hS := H.lt_ [false, false, true] [] [false, false, false, false] []
   refine aS hS ?_
   refine nn 8 rfl (oC hf TF.cl92 (spec_l20Copies_ok (S := TT) (mk_list (H.rt 4 rfl)) hy3) fun v3 w a hp5 hf => ?_)
   obtain ⟨hb3, F7, hp6, hN3⟩ := hp5
   obtain ⟨A10, c11, rfl, hl10⟩ := VO_list hp6
   have H := H.aO1 hb3 hN3 hl10
   have H := H.lend 0 rfl
   have hS := H.lt_ [false, false, true] [] [false, false, false, false, false] []
   refine aS hS ?_
   refine zP 11 rfl rfl rfl rfl hf hS (fun w => rq_build hf (cs := [(.slice A6 y.Network.Nodes.length c7), (.slice A7 y.Network.Fibers.length c8), (.slice A8 y.Lights.length c9), (.slice A9 y2.length c10), (.slice A10 y3.length c11), (.bool c.Back)]) rfl (fun w => by kernel_rfl)) fun a hf => ?_
   refine nn 13 rfl (op_storeB hf H 0 TF.sz76 rfl rfl rfl rfl rfl rfl (nle rfl) fun w H => ?_)
   refine ⟨fun h => absurd h (by decide), ?_⟩
   refine dk ?_
   have hf := hf.pn [1, 2, 3]
   have H := H.lt_ [true, true, true] [] [true, true, true, true, true] [0, 1, 2, 3, 4, 5, 6, 7, 8, 9]
   exact ⟨b3, A6, c7, F2, A7, c8, F3, A8, c9, F4, A9, c10, F5, A10, c11, F7, hf, H⟩
 rintro a w ⟨b3, A6, c7, F2, A7, c8, F3, A8, c9, F4, A9, c10, F5, A10, c11, F7, hf, H⟩
 refine then_n (sq (wp_block (sq ?_)))
 obtain ⟨c12, hGc12, hF⟩ := bs_ hF
 have fh := hf.prune [1, 2, 3] rfl
 have Hm := H.lt_ [true, true, true] [] [true, true, true, true, true] [0, 1, 2, 3, 4, 5, 6, 7, 8, 9]
 refine midF 21 (.bool c12) fh Hm ?_ fun a w hf H => ?_
 ·refine reg (pz 1 hf fun a hf => ?_)
  refine lB 2 hf H TF.ls4 fun a hf => ?_
  refine pz 2 hf fun a hf => ?_
  refine iteB hGc12 (fun hc hGc12 => ?_) fun hc hGc12 => ?_
  ·have hf := hf.lit 25 rfl hc
   refine pz 1 hf fun a hf => ?_
   refine wlg hf rfl rfl rfl (op_q hf (rq_loadB hf H TF.ls67 2 rfl rfl rfl) rfl (by decide) fun a hf => ?_)
   refine pz 4 hf fun a hf => ?_
   obtain rfl := oi hGc12
   have hf := hf.pn [21, 1, 2, 3]
   have H := H.lt_ [true, true, true] [] [true, true, true, true, true] [0, 1, 2, 3, 4, 5, 6, 7, 8, 9]
   exact wl_end ⟨hf, H⟩
  ·have hf := hf.lit 25 rfl hc
   refine pz 6 hf fun a hf => ?_
   obtain rfl := oi hGc12
   have hf := hf.pn [21, 1, 2, 3]
   have H := H.lt_ [true, true, true] [] [true, true, true, true, true] [0, 1, 2, 3, 4, 5, 6, 7, 8, 9]
   exact wl_end ⟨hf, H⟩
 refine then_n (ib hF hf (fun hc2 hF => ?_) fun hc2 hF => ?_)
 ·refine sqz (pz 1 hf fun a hf => ?_)
  refine lB 0 hf H TF.ls67 fun a hf => ?_
  obtain ⟨e, he, hF⟩ := bs_ hF
  refine wl0 rfl (op_iaddr hf H Tryz.underlying67 TF.sz54 1 rfl rfl rfl he (by decide) fun p o cs a hf hr H => ?_)
  obtain ⟨A11, c13, rfl, hl11⟩ := Action_cells hr
  have H := H.pT hl11
  refine oq hf (rq_loadIN hf H TF.la54 1 0 rfl rfl rfl rfl) fun a hf => ?_
  refine aL hf H TF.zv54 fun b4 a w hf H => ?_
  refine sB 0 hf H TF.sz54 fun w H => ?_
  refine wr (pz 1 hf fun a hf => ?_)
  refine lN 1 hf H TF.la45 fun a hf => ?_
  refine lN 0 hf H TF.la54 fun a hf => ?_
  obtain ⟨y4, hy4, hF⟩ := bs_ hF
  refine oc hf TF.cl62 (spec_l20Apply_ok (S := TT) (Plan_mkv (x := y) (H.rt 6 rfl) (H.rt 5 rfl) (H.rt 4 rfl)) (Action_mkv (x := e) (H.rt 0 rfl)) hy4) fun v4 w a hp7 hf => ?_
  obtain ⟨hb4, v5, v6, rfl, hp8, hp9⟩ := hp7
  obtain ⟨A12, c14, A13, c15, A14, c16, rfl, hl12, hl13, hl14⟩ := Plan_open hp8
  replace hl12 := H.rF hl12
  replace hl13 := H.rF hl13
  replace hl14 := H.rF hl14
  obtain rfl := VR_bool hp9
  have H := H.keep hb4
  have H := H.pT hl12
  have H := H.pT hl13
  have H := H.pT hl14
  refine pz 3 hf fun a hf => ?_
  refine aL hf H TF.zv45 fun b5 a w hf H => ?_
  refine sB 0 hf H TF.sz45 fun w H => ?_
  refine pz 1 hf fun a hf => ?_
  have hf := hf.pn [2, 3, 4, 5, 6]
  refine we (sqz (pz 2 hf fun a hf => ?_))
  refine wl_end (then_n (ib hF hf (fun hc3 hF => ?_) fun hc3 hF => ?_))
  ·refine sq (reg (wl0 rfl (bl hf H 54 ([] : List Action) [] el0 fun A15 a w hf H => ?_)))
   refine pz 1 hf fun a hf => ?_
   refine sB 2 hf H TF.sz67 fun w H => ?_
   refine wr (pz 1 hf fun a hf => ?_)
   refine sB 2 hf H TF.sz4 fun w H => ?_
   refine wr (lN 2 hf H TF.la76 fun a hf => ?_)
   refine sB 3 hf H TF.sz76 fun w H => ?_
   refine wl_end (then_n (wp_ret (then_r (blk_r (then_r (?_))))))
   have H := H.freeze 0 rfl
   obtain rfl := oi hF
   refine ret_1 hf rfl (rv_cellN hf H 3 TF.la76 rfl rfl rfl) ?_
   exact ⟨_, rfl, H.bel, (Change_mkv (x := ({ Plan := y, Actions := ([] : List Action), Undo := y3, Back := true } : Change)) (rep_end (α := List ByteArray) (H.get 10 rfl)) (rep_end (α := List Fiber) (H.get 9 rfl)) (rep_end (α := List Light) (H.get 8 rfl)) (rep_end (α := List Action) (H.get 0 rfl)) (rep_end (α := List Action) (H.get 6 rfl)))⟩
  ·refine wp_skip (then_n (sq (dw [9] 10 fun w hb => ?_)))
   have H := H.keep hb
   refine zp 0 hf trivial fun a hf => ?_
   refine strT (H.lt_ [false, false, true, false, false] [] [false, false, false, false, false] []) (fun w H => trivial) fun hS => ?_
   refine zS 1 [1, 3, 4, 7, 8, 9] rfl rfl rfl rfl hf hS (fun w H => rq_loadBN hf H TF.la45 0 rfl rfl rfl rfl) fun a hf => ?_
   refine strT (H.lt_ [false, true, true, false, false] [] [false, false, false, false, false] []) (fun w H => H.lt_ [false, true] [] [] []) fun hS => ?_
   refine zS 2 [2, 3, 4, 7, 8, 9] rfl rfl rfl rfl hf hS (fun w H => rq_loadBN hf H TF.la54 0 rfl rfl rfl rfl) fun a hf => ?_
   refine zp 5 hf hS fun a hf => ?_
   refine zS 6 [6, 7, 8, 9] rfl rfl rfl rfl hf hS (fun w H => rq_loadB hf H TF.ls67 1 rfl rfl rfl) fun a hf => ?_
   obtain ⟨y5, hy5, hF⟩ := bs_ hF
   refine nn 3 rfl (oC hf TF.cl77 (spec_l20Inverse_ok (S := TT) (Plan_mkv (x := y) (H.rt 9 rfl) (H.rt 8 rfl) (H.rt 7 rfl)) (Action_mkv (x := e) (H.rt 3 rfl)) hy5) fun v7 w a hp10 hf => ?_)
   obtain ⟨hb5, F9, hp11, hN4⟩ := hp10
   obtain ⟨A16, c17, F10, rfl, rfl, hl15⟩ := Action_vo hp11
   have H := H.aO1 hb5 hN4 hl15
   have H := H.lend 0 rfl
   have hS := H.lt_ [false, true, true, false, false] [] [false, false, false, false, false, false] []
   refine aS hS ?_
   refine nn 4 rfl (bl hf H 54 ([y5] : List Action) [(.int .i64 y5.Kind), (.int .i64 y5.Light.Id), (.int .i64 y5.Light.Route.Start), (.slice A16 y5.Light.Route.Fibers.length c17), (.int .i64 y5.Light.Block.First), (.int .i64 y5.Light.Block.Count)] (el1 (y := y5) ((Action_mk (x := y5) (H.get 0 rfl)))) fun A17 a w hf H => ?_)
   have hS := H.lt_ [false, true, true, false, false] [false] [false, false, false, false, false, false] []
   refine aS hS ?_
   obtain ⟨l, hl, hF⟩ := bs_ hF
   refine nn 7 rfl (op_appI hf H Tryz.underlying67 TF.ai54 rfl (by decide) 0 6 rfl rfl rfl rfl (.inr rfl) hl (by decide) fun E A18 c18 a w hf H => ?_)
   have hS := H.lt_ [false, true, true, false, false] [false] [false, false, false, false, false, false] []
   refine aS hS ?_
   refine zp 8 hf hS fun a hf => ?_
   refine nn 9 rfl (op_storeB hf H 2 TF.sz67 rfl rfl rfl rfl rfl rfl (nle rfl) fun w H => ?_)
   refine ⟨fun h => absurd h (by decide), ?_⟩
   refine dk ?_
   have hf := hf.pn [2, 3, 5]
   refine then_n (sq (reg (lN 0 hf H TF.la45 fun a hf => ?_)))
   refine pz 1 hf fun a hf => ?_
   refine sB 2 hf H TF.sz45 fun w H => ?_
   refine wl_end (then_n (reg (pz 1 hf fun a hf => ?_)))
   refine lB 2 hf H TF.ls67 fun a hf => ?_
   obtain ⟨l2, hl2, hF⟩ := bs_ hF
   refine wl0 rfl (op_sliceI hf H Tryz.underlying67 TF.sz54 7 rfl rfl rfl rfl hl2 (by decide) fun A19 c19 a hf H => ?_)
   refine pz 1 hf fun a hf => ?_
   refine sB 2 hf H TF.sz67 fun w H => ?_
   refine wl_end (blk_n (then_n (sq (reg (lN 2 hf H TF.la76 fun a hf => ?_)))))
   refine sB 3 hf H TF.sz76 fun w H => ?_
   refine wer ?_
   have H := H.freeze 0 rfl
   obtain rfl := oi hF
   refine ret_1 hf rfl (rv_cellN hf H 3 TF.la76 rfl rfl rfl) ?_
   exact ⟨_, rfl, H.bel, (Change_mkv (x := ({ Plan := y4.1, Actions := l2, Undo := l, Back := c.Back } : Change)) (rep_end (α := List ByteArray) (H.get 5 rfl)) (rep_end (α := List Fiber) (H.get 4 rfl)) (rep_end (α := List Light) (H.get 3 rfl)) (rep_end (α := List Action) (H.get 1 rfl)) (rep_end (α := List Action) (H.get 0 rfl)))⟩
 ·refine sq ?_
  obtain ⟨c20, hGc20, hF⟩ := bs_ hF
  have fh2 := hf.prune [2, 3] rfl
  have Hm2 := H.lt_ [true, true, false] [] [true, true, true, true, true] [0, 1, 2, 3, 4]
  refine midF 63 (.bool c20) fh2 Hm2 ?_ fun a w hf H => ?_
  ·refine reg (pz 1 hf fun a hf => ?_)
   refine lB 2 hf H TF.ls4 fun a hf => ?_
   refine pz 1 hf fun a hf => ?_
   refine iteB hGc20 (fun hc4 hGc20 => ?_) fun hc4 hGc20 => ?_
   ·have hf := hf.lit 66 rfl hc4
    refine pz 1 hf fun a hf => ?_
    refine wlg hf rfl rfl rfl (op_q hf (rq_loadB hf H TF.ls67 2 rfl rfl rfl) rfl (by decide) fun a hf => ?_)
    refine pz 4 hf fun a hf => ?_
    obtain rfl := oi hGc20
    have hf := hf.pn [63, 2, 3]
    have H := H.lt_ [true, true, false] [] [true, true, true, true, true] [0, 1, 2, 3, 4]
    exact wl_end ⟨hf, H⟩
   ·have hf := hf.lit 66 rfl hc4
    refine pz 6 hf fun a hf => ?_
    obtain rfl := oi hGc20
    have hf := hf.pn [63, 2, 3]
    have H := H.lt_ [true, true, false] [] [true, true, true, true, true] [0, 1, 2, 3, 4]
    exact wl_end ⟨hf, H⟩
  refine then_n (ib hF hf (fun hc5 hF => ?_) fun hc5 hF => ?_)
  ·refine sq ?_
   obtain ⟨e2, he2, hF⟩ := bs_ hF
   obtain ⟨y6, hy6, hF⟩ := bs_ hF
   refine mid (fun a w => ∃ (b6 : Nat) (A21 : Option Addr) (c22 : Nat) (A22 : Option Addr) (c23 : Nat) (A23 : Option Addr) (c24 : Nat), Fr a 89 [(2, (.pointer (some ⟨b2, 0, none⟩))), (3, (.pointer (some ⟨b3, 0, none⟩))), (7, (.pointer (some ⟨b6, 0, none⟩)))] ∧ Mem ⟨w0, []⟩ S [⟨b6, 45, [(.slice A21 y6.1.Network.Nodes.length c22), (.slice A22 y6.1.Network.Fibers.length c23), (.slice A23 y6.1.Lights.length c24)]⟩, ⟨b3, 76, [(.slice A6 y.Network.Nodes.length c7), (.slice A7 y.Network.Fibers.length c8), (.slice A8 y.Lights.length c9), (.slice A9 y2.length c10), (.slice A10 y3.length c11), (.bool c.Back)]⟩, ⟨b2, 76, [(.slice none 0 0), (.slice none 0 0), (.slice none 0 0), (.slice none 0 0), (.slice none 0 0), (.bool false)]⟩] [] [⟨F7, MP.own F7 [(.slice A10 y3.length c11)] (y3 : List Action)⟩, ⟨F5, MP.own F5 [(.slice A9 y2.length c10)] (y2 : List Action)⟩, ⟨F2, MP.own F2 [(.slice A6 y.Network.Nodes.length c7)] (y.Network.Nodes : List ByteArray)⟩, ⟨F3, MP.own F3 [(.slice A7 y.Network.Fibers.length c8)] (y.Network.Fibers : List Fiber)⟩, ⟨F4, MP.own F4 [(.slice A8 y.Lights.length c9)] (y.Lights : List Light)⟩] [(true, MP.val [(.slice A23 y6.1.Lights.length c24)] (y6.1.Lights : List Light)), (true, MP.val [(.slice A22 y6.1.Network.Fibers.length c23)] (y6.1.Network.Fibers : List Fiber)), (true, MP.val [(.slice A21 y6.1.Network.Nodes.length c22)] (y6.1.Network.Nodes : List ByteArray)), (true, MP.val [(.slice A10 y3.length c11)] (y3 : List Action)), (true, MP.val [(.slice A9 y2.length c10)] (y2 : List Action)), (true, MP.val [(.slice A8 y.Lights.length c9)] (y.Lights : List Light)), (true, MP.val [(.slice A7 y.Network.Fibers.length c8)] (y.Network.Fibers : List Fiber)), (true, MP.val [(.slice A6 y.Network.Nodes.length c7)] (y.Network.Nodes : List ByteArray))] w) ?_ ?_
   ·refine dw [11] 13 fun w hb => ?_
    have H := H.keep hb
    refine zp 0 hf trivial fun a hf => ?_
    refine strT (H.lt_ [true, false] [] [false, false, false, false, false] []) (fun w H => trivial) fun hS => ?_
    refine zS 1 [1, 6, 7, 8, 9, 11, 12] rfl rfl rfl rfl hf hS (fun w H => rq_loadBN hf H TF.la45 0 rfl rfl rfl rfl) fun a hf => ?_
    refine zp 2 hf hS fun a hf => ?_
    refine zS 3 [3, 4, 5, 6, 7, 8, 9, 11, 12] rfl rfl rfl rfl hf hS (fun w H => rq_loadB hf H TF.ls67 0 rfl rfl rfl) fun a hf => ?_
    obtain ⟨p2, o2, cs2, hx, hr2, H⟩ := pre_iaddr H Tryz.underlying67 TF.sz54 0 rfl he2
    refine zP 4 rfl rfl rfl rfl hf hS (fun w => rq_iaddrE hf rfl rfl rfl hx w) fun a hf => ?_
    obtain ⟨A20, c21, rfl, hl16⟩ := Action_cells hr2
    have H := H.pT hl16
    refine strT (H.lt_ [true, false] [] [false, false, false, false, false] [1]) (fun w H => H.lt_ [true] [] [] []) fun hS => ?_
    refine zS 5 [5, 6, 7, 8, 9, 11, 12] rfl rfl rfl rfl hf hS (fun w H => rq_loadIN hf H TF.la54 0 0 rfl rfl rfl rfl) fun a hf => ?_
    refine on2 (i := 6) (j := 10) (bi := [true, true, true, true, true, true, true, false, false, false, false, false, false]) (bj := [true, true, true, true, true, true, false, false, false, false, true, false, false]) (by kernel_rfl) rfl rfl rfl rfl rfl rfl ?_ ?_
    ·refine (oC hf TF.cl62 (spec_l20Apply_ok (S := TT) (Plan_mkv (x := y) (H.rt 6 rfl) (H.rt 5 rfl) (H.rt 4 rfl)) (Action_mkv (x := e2) (H.rt 0 rfl)) hy6) fun v8 w a hp12 hf => ?_)
     obtain ⟨hb6, v9, v10, rfl, hp13, hp14⟩ := hp12
     obtain ⟨A21, c22, A22, c23, A23, c24, rfl, hl17, hl18, hl19⟩ := Plan_open hp13
     replace hl17 := H.rF hl17
     replace hl18 := H.rF hl18
     replace hl19 := H.rF hl19
     obtain rfl := VR_bool hp14
     have H := H.keep hb6
     have H := H.pT hl17
     have H := H.pT hl18
     have H := H.pT hl19
     have hS := H.lt_ [true, false] [] [false, false, false, false, false] [4]
     refine aS hS ?_
     refine zp 7 hf hS fun a hf => ?_
     refine zp 8 hf hS fun a hf => ?_
     refine zp 9 hf hS fun a hf => ?_
     refine nn 10 rfl (op_alloc hf H TF.zv45 rfl (by decide) fun b6 a w hf H => ?_)
     have hS := H.lt_ [false, true, false] [] [false, false, false, false, false] [4]
     refine aS hS ?_
     refine nn 11 rfl (op_storeB hf H 0 TF.sz45 rfl rfl rfl rfl rfl rfl (nle rfl) fun w H => ?_)
     refine ⟨fun h => absurd h (by decide), ?_⟩
     refine tp 12 rfl rfl hf (by kernel_rfl) (fun h => absurd h (by decide)) rfl fun a hf => ?_
     refine dk ?_
     have hf := hf.pn [2, 3, 7]
     have H := H.lt_ [true, true, true] [] [true, true, true, true, true] [0, 1, 2, 5, 6, 7, 8, 9]
     exact ⟨b6, A21, c22, A22, c23, A23, c24, hf, H⟩
    ·refine (op_alloc hf H TF.zv45 rfl (by decide) fun b6 a w hf H => ?_)
     have hS := H.lt_ [false, true, false] [] [false, false, false, false, false] [1]
     refine aS hS ?_
     refine nn 6 rfl (oC hf TF.cl62 (spec_l20Apply_ok (S := TT) (Plan_mkv (x := y) (H.rt 6 rfl) (H.rt 5 rfl) (H.rt 4 rfl)) (Action_mkv (x := e2) (H.rt 0 rfl)) hy6) fun v8 w a hp12 hf => ?_)
     obtain ⟨hb6, v9, v10, rfl, hp13, hp14⟩ := hp12
     obtain ⟨A21, c22, A22, c23, A23, c24, rfl, hl17, hl18, hl19⟩ := Plan_open hp13
     replace hl17 := H.rF hl17
     replace hl18 := H.rF hl18
     replace hl19 := H.rF hl19
     obtain rfl := VR_bool hp14
     have H := H.keep hb6
     have H := H.pT hl17
     have H := H.pT hl18
     have H := H.pT hl19
     have hS := H.lt_ [false, true, false] [] [false, false, false, false, false] [4]
     refine aS hS ?_
     refine zp 7 hf hS fun a hf => ?_
     refine zp 8 hf hS fun a hf => ?_
     refine zp 9 hf hS fun a hf => ?_
     refine nn 11 rfl (op_storeB hf H 0 TF.sz45 rfl rfl rfl rfl rfl rfl (nle rfl) fun w H => ?_)
     refine ⟨fun h => absurd h (by decide), ?_⟩
     refine tp 12 rfl rfl hf (by kernel_rfl) (fun h => absurd h (by decide)) rfl fun a hf => ?_
     refine dk ?_
     have hf := hf.pn [2, 3, 7]
     have H := H.lt_ [true, true, true] [] [true, true, true, true, true] [0, 1, 2, 5, 6, 7, 8, 9]
     exact ⟨b6, A21, c22, A22, c23, A23, c24, hf, H⟩
   rintro a w ⟨b6, A21, c22, A22, c23, A23, c24, hf, H⟩
   refine then_n (sq (reg (lN 0 hf H TF.la45 fun a hf => ?_)))
   refine pz 1 hf fun a hf => ?_
   refine sB 1 hf H TF.sz45 fun w H => ?_
   refine wl_end (then_n (reg (pz 1 hf fun a hf => ?_)))
   refine lB 1 hf H TF.ls67 fun a hf => ?_
   obtain ⟨l3, hl3, hF⟩ := bs_ hF
   refine wl0 rfl (op_sliceI hf H Tryz.underlying67 TF.sz54 3 rfl rfl rfl rfl hl3 (by decide) fun A24 c25 a hf H => ?_)
   refine pz 1 hf fun a hf => ?_
   refine sB 1 hf H TF.sz67 fun w H => ?_
   refine wl_end (blk_n (then_n (sq (reg (lN 1 hf H TF.la76 fun a hf => ?_)))))
   refine sB 2 hf H TF.sz76 fun w H => ?_
   refine wer ?_
   obtain rfl := oi hF
   refine ret_1 hf rfl (rv_cellN hf H 2 TF.la76 rfl rfl rfl) ?_
   exact ⟨_, rfl, H.bel, (Change_mkv (x := ({ Plan := y6.1, Actions := y2, Undo := l3, Back := c.Back } : Change)) (rep_end (α := List ByteArray) (H.get 3 rfl)) (rep_end (α := List Fiber) (H.get 2 rfl)) (rep_end (α := List Light) (H.get 1 rfl)) (rep_end (α := List Action) (H.get 5 rfl)) (rep_end (α := List Action) (H.get 0 rfl)))⟩
  ·refine wp_skip (blk_n (then_n (sq (reg (lN 0 hf H TF.la76 fun a hf => ?_)))))
   refine sB 1 hf H TF.sz76 fun w H => ?_
   refine wer ?_
   obtain rfl := oi hF
   refine ret_1 hf rfl (rv_cellN hf H 1 TF.la76 rfl rfl rfl) ?_
   exact ⟨_, rfl, H.bel, (Change_mkv (x := ({ Plan := y, Actions := y2, Undo := y3, Back := c.Back } : Change)) (rep_end (α := List ByteArray) (H.get 4 rfl)) (rep_end (α := List Fiber) (H.get 3 rfl)) (rep_end (α := List Light) (H.get 2 rfl)) (rep_end (α := List Action) (H.get 1 rfl)) (rep_end (α := List Action) (H.get 0 rfl)))⟩
theorem spec_l20State_ok {S : Nat → Prop} {v0_ : Value} {c : Change} {r : Int} (h0 : VR w0 S v0_ c) (hF : spec_l20State fu c = some r) :
    Calls Tryz.prog 87 [v0_].toArray w0 fun e w' => ∃ v, e = .returned v ∧ (Below w0.heap.size w0 w' ∧ VR w' (St ⟨w0, []⟩ S [] [] [] true) v r) := by
 obtain ⟨A, c2, A2, c3, A3, c4, A4, c5, A5, c6, rfl, hl, hl2, hl3, hl4, hl5⟩ := Change_open h0
 have H := Mem.start ⟨w0, []⟩ S
 have H := H.pA hl
 have H := H.pA hl2
 have H := H.pA hl3
 have H := H.pA hl4
 have H := H.pA hl5
 refine en Tryz.func87 fun a hf => ?_
 rw [spec_l20State] at hF
 refine bx hf H fun b' a w hf H => ?_
 refine pz 1 hf fun a hf => ?_
 refine wl_end (then_n (sq (wp_block (sq ?_))))
 obtain ⟨c7, hGc7, hF⟩ := bs_ hF
 have fh := hf.prune [1] rfl
 have Hm := H.lt_ [true] [] [] [0, 1, 2, 3, 4]
 refine midF 3 (.bool c7) fh Hm ?_ fun a w hf H => ?_
 ·refine reg (pz 1 hf fun a hf => ?_)
  refine lB 0 hf H TF.ls4 fun a hf => ?_
  refine pz 2 hf fun a hf => ?_
  refine iteB hGc7 (fun hc hGc7 => ?_) fun hc hGc7 => ?_
  ·have hf := hf.lit 7 rfl hc
   refine pz 1 hf fun a hf => ?_
   refine wlg hf rfl rfl rfl (op_q hf (rq_loadB hf H TF.ls67 0 rfl rfl rfl) rfl (by decide) fun a hf => ?_)
   refine pz 4 hf fun a hf => ?_
   obtain rfl := oi hGc7
   have hf := hf.pn [3, 1]
   have H := H.lt_ [true] [] [] [0, 1, 2, 3, 4]
   exact wl_end ⟨hf, H⟩
  ·have hf := hf.lit 7 rfl hc
   refine pz 6 hf fun a hf => ?_
   obtain rfl := oi hGc7
   have hf := hf.pn [3, 1]
   have H := H.lt_ [true] [] [] [0, 1, 2, 3, 4]
   exact wl_end ⟨hf, H⟩
 refine then_n (ib hF hf (fun hc2 hF => ?_) fun hc2 hF => ?_)
 ·refine sqz (pz 1 hf fun a hf => ?_)
  refine wl_end (then_n (wp_ret (blk_r (then_r (?_)))))
  obtain rfl := oi hF
  refine rT hf ?_
  exact ⟨_, rfl, H.bel, mk_int⟩
 ·refine sq ?_
  obtain ⟨c8, hGc8, hF⟩ := bs_ hF
  have fh2 := hf.prune [] rfl
  have Hm2 := H.lt_ [false] [] [] []
  refine midF 13 (.bool c8) fh2 Hm2 ?_ fun a w hf H => ?_
  ·refine reg (pz 1 hf fun a hf => ?_)
   refine lB 0 hf H TF.ls4 fun a hf => ?_
   refine pz 1 hf fun a hf => ?_
   refine iteB hGc8 (fun hc3 hGc8 => ?_) fun hc3 hGc8 => ?_
   ·have hf := hf.lit 16 rfl hc3
    refine pz 1 hf fun a hf => ?_
    refine wlg hf rfl rfl rfl (op_q hf (rq_loadB hf H TF.ls67 0 rfl rfl rfl) rfl (by decide) fun a hf => ?_)
    refine pz 4 hf fun a hf => ?_
    obtain rfl := oi hGc8
    have hf := hf.pn [13]
    have H := H.lt_ [false] [] [] []
    exact wl_end ⟨hf, H⟩
   ·have hf := hf.lit 16 rfl hc3
    refine pz 6 hf fun a hf => ?_
    obtain rfl := oi hGc8
    have hf := hf.pn [13]
    have H := H.lt_ [false] [] [] []
    exact wl_end ⟨hf, H⟩
  refine then_n (ib hF hf (fun hc4 hF => ?_) fun hc4 hF => ?_)
  ·refine sqz (pz 1 hf fun a hf => ?_)
   refine wl_end (then_n (wp_ret (blk_r (then_r (?_)))))
   obtain rfl := oi hF
   refine rT hf ?_
   exact ⟨_, rfl, H.bel, mk_int⟩
  ·refine wp_skip (blk_n (then_n (sqz (pz 1 hf fun a hf => ?_))))
   refine wer ?_
   obtain rfl := oi hF
   refine rT hf ?_
   exact ⟨_, rfl, H.bel, mk_int⟩
theorem impl_IsValidChange_ok {S : Nat → Prop} {v0_ : Value} {c : Change} {r : Bool} (h0 : VR w0 S v0_ c) (hF : impl_IsValidChange fu c = some r) :
    Calls Tryz.prog 49 [v0_].toArray w0 fun e w' => ∃ v, e = .returned v ∧ (Below w0.heap.size w0 w' ∧ VR w' (St ⟨w0, []⟩ S [] [] [] true) v r) := by
 obtain ⟨A, c2, A2, c3, A3, c4, A4, c5, A5, c6, rfl, hl, hl2, hl3, hl4, hl5⟩ := Change_open h0
 have H := Mem.start ⟨w0, []⟩ S
 have H := H.pA hl
 have H := H.pA hl2
 have H := H.pA hl3
 have H := H.pA hl4
 have H := H.pA hl5
 refine en Tryz.func49 fun a hf => ?_
 rw [impl_IsValidChange] at hF
 refine bx hf H fun b' a w hf H => ?_
 refine pz 1 hf fun a hf => ?_
 refine wl_end (then_n (sq (sq ?_)))
 obtain ⟨c7, hGc7, hF⟩ := bs_ hF
 have fh := hf.prune [1] rfl
 have Hm := H.lt_ [true] [] [] [0, 1, 2, 3, 4]
 refine midF 28 (.bool c7) fh Hm ?_ fun a w hf H => ?_
 ·refine reg (pz 1 hf fun a hf => ?_)
  refine lN 0 hf H TF.la45 fun a hf => ?_
  obtain ⟨y, hy, hGc7⟩ := bs_ hGc7
  refine oc hf TF.cl50 (impl_IsValidPlan_ok (S := TT) (Plan_mkv (x := c.Plan) (H.rt 4 rfl) (H.rt 3 rfl) (H.rt 2 rfl)) hy) fun v w a hp hf => ?_
  obtain ⟨hb, hp⟩ := hp
  obtain rfl := VR_bool hp
  have H := H.keep hb
  refine pz 2 hf fun a hf => ?_
  refine iteB hGc7 (fun hc hGc7 => ?_) fun hc hGc7 => ?_
  ·have hf := hf.lit 9 rfl hc
   refine pz 13 hf fun a hf => ?_
   refine wlsu hf rfl rfl rfl rfl (by decide) fun a hf => ?_
   refine wlsu hf rfl rfl rfl rfl (by decide) fun a hf => ?_
   refine wlsu hf rfl rfl rfl rfl (by decide) fun a hf => ?_
   refine wlsu hf rfl rfl rfl rfl (by decide) fun a hf => ?_
   refine pz 2 hf fun a hf => ?_
   obtain rfl := oi hGc7
   have hf := hf.pn [28, 1]
   have H := H.lt_ [true] [] [] [0, 1, 2, 3, 4]
   exact wl_end ⟨hf, H⟩
  ·have hf := hf.lit 9 rfl hc
   refine pz 1 hf fun a hf => ?_
   refine wlg hf rfl rfl rfl (op_q hf (rq_loadB hf H TF.ls67 0 rfl rfl rfl) rfl (by decide) fun a hf => ?_)
   refine pz 2 hf fun a hf => ?_
   refine wlg hf rfl rfl rfl (op_q hf (rq_loadB hf H TF.ls67 0 rfl rfl rfl) rfl (by decide) fun a hf => ?_)
   refine pz 5 hf fun a hf => ?_
   refine iteB hGc7 (fun hc2 hGc7 => ?_) fun hc2 hGc7 => ?_
   ·have hf := hf.lit 19 rfl hc2
    refine pz 3 hf fun a hf => ?_
    refine wlsu hf rfl rfl rfl rfl (by decide) fun a hf => ?_
    refine wlsu hf rfl rfl rfl rfl (by decide) fun a hf => ?_
    refine wlsu hf rfl rfl rfl rfl (by decide) fun a hf => ?_
    refine wlsu hf rfl rfl rfl rfl (by decide) fun a hf => ?_
    refine pz 2 hf fun a hf => ?_
    obtain rfl := oi hGc7
    have hf := hf.pn [28, 1]
    have H := H.lt_ [true] [] [] [0, 1, 2, 3, 4]
    exact wl_end ⟨hf, H⟩
   ·have hf := hf.lit 19 rfl hc2
    refine pz 1 hf fun a hf => ?_
    refine wlg hf rfl rfl rfl (op_q hf (rq_loadB hf H TF.ls4 0 rfl rfl rfl) rfl (by decide) fun a hf => ?_)
    refine pz 1 hf fun a hf => ?_
    refine iteB hGc7 (fun hc3 hGc7 => ?_) fun hc3 hGc7 => ?_
    ·have hf := hf.lit 22 rfl hc3
     refine pz 1 hf fun a hf => ?_
     refine wlg hf rfl rfl rfl (op_q hf (rq_loadB hf H TF.ls67 0 rfl rfl rfl) rfl (by decide) fun a hf => ?_)
     refine pz 4 hf fun a hf => ?_
     obtain rfl := oi hGc7
     have hf := hf.pn [28, 1]
     have H := H.lt_ [true] [] [] [0, 1, 2, 3, 4]
     exact wl_end ⟨hf, H⟩
    ·have hf := hf.lit 22 rfl hc3
     refine pz 6 hf fun a hf => ?_
     obtain rfl := oi hGc7
     have hf := hf.pn [28, 1]
     have H := H.lt_ [true] [] [] [0, 1, 2, 3, 4]
     exact wl_end ⟨hf, H⟩
 refine then_n (ib hF hf (fun hc4 hF => ?_) fun hc4 hF => ?_)
 ·refine sqz (pz 1 hf fun a hf => ?_)
  refine wl_end (then_n (wp_ret (then_r (?_))))
  obtain rfl := oi hF
  refine rT hf ?_
  exact ⟨_, rfl, H.bel, mk_bool⟩
 ·refine wp_skip (then_n (sqz (pz 1 hf fun a hf => ?_)))
  refine lN 0 hf H TF.la45 fun a hf => ?_
  refine pz 1 hf fun a hf => ?_
  refine lB 0 hf H TF.ls67 fun a hf => ?_
  obtain ⟨y2, hy2, hF⟩ := bs_ hF
  refine oc hf TF.cl82 (impl_applied_ok (S := TT) (Plan_mkv (x := c.Plan) (H.rt 4 rfl) (H.rt 3 rfl) (H.rt 2 rfl)) (mk_list (H.rt 0 rfl)) hy2) fun v2 w a hp2 hf => ?_
  obtain ⟨hb2, F, v3, v4, rfl, hp3, hp4, hN⟩ := hp2
  obtain ⟨A6, c8, F2, A7, c9, F3, A8, c10, F4, rfl, rfl, hl6, hl7, hl8⟩ := Plan_vo hp3
  obtain rfl := VR_int hp4
  have H := H.aO3 hb2 hN hl6 hl7 hl8
  have H := H.lend 0 rfl
  have H := H.lend 1 rfl
  have H := H.lend 2 rfl
  refine pz 3 hf fun a hf => ?_
  refine aL hf H TF.zv45 fun b2 a w hf H => ?_
  refine sB 0 hf H TF.sz45 fun w H => ?_
  refine pz 1 hf fun a hf => ?_
  refine wr (pz 2 hf fun a hf => ?_)
  refine lB 1 hf H TF.ls67 fun a hf => ?_
  refine pz 3 hf fun a hf => ?_
  have hf := hf.pn [2]
  refine wer ?_
  obtain rfl := oi hF
  refine rT hf ?_
  exact ⟨_, rfl, H.bel, mk_bool⟩
theorem impl_copyActions_ok {S : Nat → Prop} {v0_ : Value} {l : List Action} {r : List Action} (h0 : VR w0 S v0_ l) (hF : impl_copyActions fu l = some r) :
    Calls Tryz.prog 144 [v0_].toArray w0 fun e w' => ∃ v, e = .returned v ∧ (Below w0.heap.size w0 w' ∧ ∃ F0, VO w' F0 v r ∧ New w0 w' F0) := by
 obtain ⟨A, c, rfl, hl⟩ := VR_list h0
 have H := Mem.start ⟨w0, []⟩ S
 have H := H.pA hl
 refine en Tryz.func144 fun a hf => ?_
 rw [impl_copyActions] at hF
 refine sqz (pz 1 hf fun a hf => ?_)
 refine wr (wl0 rfl (op_bslice hf H (.ow []) rfl 54 ([] : List Action) [] rfl (fun w => by kernel_rfl) rfl (by decide) rfl rfl (fun i x h => by simp at h) (by decide) fun A2 a w hf H => ?_))
 refine pz 1 hf fun a hf => ?_
 refine we (sqz (pz 3 hf fun a hf => ?_))
 refine wl_end (then_n ?_)
 obtain ⟨out2, hB1, hF⟩ := bs_ hF
 have hf := hf.pn [3, 7, 8, 9]
 have H := H.lt_ [] [true] [] [0]
 refine loopC (fun (s : List Action × Int) (a : Act) (w : World) => match s with | (out', i) => ∃ (A3 : Option Addr) (c2 : Nat) (E : Go.TypeId) (Fs : List (List Nat)), Fr a 24 [(3, (.slice A3 out'.length c2)), (7, (.slice A l.length c)), (8, (.int .i64 (l.length : Int))), (9, (.int .i64 i))] ∧ Mem ⟨w0, []⟩ S [] [⟨.ow Fs, E, A3, c2, (out' : List Action)⟩] [] [(false, MP.val [(.slice A l.length c)] (l : List Action))] w) (fun k (s : List Action × Int) => impl_copyActions_L1 fu l k s.1 s.2 = some out2) (fun s => out2 = s) (([] : List Action), 0) fu hB1 ⟨A2, 0, 54, [], hf, H⟩ (fun s h => by cases h) ?_ ?_
 ·rintro fk ⟨out', i⟩ a w hR1 hI
  replace hR1 : impl_copyActions_L1 fu l (fk + 1) out' i = some out2 := hR1
  rw [impl_copyActions_L1] at hR1
  obtain ⟨A3, c2, E, Fs, hf, H⟩ := hI
  refine sqz (pz 1 hf fun a hf => ?_)
  refine wl_end (then_n (sq (ib hR1 hf (fun hc hR1 => ?_) fun hc hR1 => ?_)))
  ·refine wp_skip (then_n (sq (wp_block (sq (reg ?_)))))
   obtain ⟨e, he, hR1⟩ := bs_ hR1
   refine wl0 rfl (op_iaddr hf H Tryz.underlying67 TF.sz54 0 rfl rfl rfl he (by decide) fun p o cs a hf hr H => ?_)
   obtain ⟨A4, c3, rfl, hl2⟩ := Action_cells hr
   have H := H.pF hl2
   refine oq hf (rq_loadIN hf H TF.la54 1 0 rfl rfl rfl rfl) fun a hf => ?_
   refine aL hf H TF.zv54 fun b' a w hf H => ?_
   refine sB 0 hf H TF.sz54 fun w H => ?_
   refine wl_end (then_n (dw [] 10 fun w hb => ?_))
   have H := H.keep hb
   refine zp 0 hf trivial fun a hf => ?_
   refine zp 1 hf trivial fun a hf => ?_
   refine strT (H.lt_ [true] [false] [] []) (fun w H => trivial) fun hS => ?_
   refine zS 2 [] rfl rfl rfl rfl hf hS (fun w H => rq_loadB hf H TF.ls3 0 rfl rfl rfl) fun a hf => ?_
   refine zp 3 hf hS fun a hf => ?_
   refine zS 4 [] rfl rfl rfl rfl hf hS (fun w H => rq_loadBN hf H TF.la52 0 rfl rfl rfl rfl) fun a hf => ?_
   obtain ⟨y, hy, hR1⟩ := bs_ hR1
   refine nn 5 rfl (oC hf TF.cl78 (impl_copyLight_ok (S := TT) (Light_mkv (x := e.Light) (H.rt 0 rfl)) hy) fun v w a hp hf => ?_)
   obtain ⟨hb, F, hp2, hN⟩ := hp
   obtain ⟨A5, c4, F2, rfl, rfl, hl3⟩ := Light_vo hp2
   have H := H.aO1 hb hN hl3
   have H := H.lend 0 rfl
   have hS := H.lt_ [true] [false] [false] []
   refine aS hS ?_
   refine zP 6 rfl rfl rfl rfl hf hS (fun w => rq_build hf (cs := [(.int .i64 e.Kind), (.int .i64 y.Id), (.int .i64 y.Route.Start), (.slice A5 y.Route.Fibers.length c4), (.int .i64 y.Block.First), (.int .i64 y.Block.Count)]) rfl (fun w => by kernel_rfl)) fun a hf => ?_
   have H := H.recast (X := [(⟨F2, MP.own F2 [(.slice A5 y.Route.Fibers.length c4)] (y.Route.Fibers : List Int)⟩ : DI)]) (Y := [(⟨F2, MP.own F2 [(.int .i64 e.Kind), (.int .i64 y.Id), (.int .i64 y.Route.Start), (.slice A5 y.Route.Fibers.length c4), (.int .i64 y.Block.First), (.int .i64 y.Block.Count)] (({ Kind := e.Kind, Light := y } : Action) : Action)⟩ : DI)]) (List.Perm.of_eq (by simp)) fun _ => ps1 (Action_ownmk (x := ({ Kind := e.Kind, Light := y } : Action)) (H.ownAt 0 rfl)) ps0
   refine nn 7 rfl (op_bsliceO hf 54 H rfl (fun w => by kernel_rfl) (by decide) fun A6 a w hf H => ?_)
   have hS := H.lt_ [true] [false, false] [] []
   refine aS hS ?_
   obtain ⟨al, hal, hR1⟩ := bs_ hR1
   have H := H.frontR 1 rfl
   refine nn 8 rfl (op_appO hf H Tryz.underlying67 TF.ai54 rfl (by decide) rfl rfl hal (by decide) fun E2 A7 c5 a w hf H => ?_)
   have hS := H.lt_ [true] [false] [] []
   refine aS hS ?_
   refine zp 9 hf hS fun a hf => ?_
   refine dk ?_
   have hf := hf.pn [3, 7, 8, 9]
   refine blk_n (then_n (reg (pz 2 hf fun a hf => ?_)))
   refine wl_end ?_
   have hf := hf.pn [3, 7, 8, 9]
   have H := H.lt_ [false] [true] [] [3]
   exact then_n ⟨(al, w64 (i + 1)), hR1, A7, c5, E2, Fs ++ [F2], hf, H⟩
  ·refine wp_exit (then_x (then_x (blk_e (?_))))
   have hf := hf.pn [3, 7, 8, 9]
   have H := H.lt_ [] [true] [] [0]
   exact ⟨(out', i), (Option.some.inj hR1).symm, A3, c2, E, Fs, hf, H⟩
 rintro a w ⟨⟨out3, i2⟩, rfl, A8, c6, E3, Fs2, hf, H⟩
 try dsimp only at hF
 refine then_n (sqz (pz 2 hf fun a hf => ?_))
 refine wer ?_
 obtain ⟨F3, H⟩ := H.freezeOwn 0 rfl
 have H := H.lend 0 rfl
 obtain rfl := oi hF
 refine rT hf ?_
 have hN := H.ends1
 exact ⟨_, rfl, H.bel, F3, (mko_list (H.ownAt 0 rfl)), hN⟩
theorem impl_copyChange_ok {S : Nat → Prop} {v0_ : Value} {c : Change} {r : Change} (h0 : VR w0 S v0_ c) (hF : impl_copyChange fu c = some r) :
    Calls Tryz.prog 94 [v0_].toArray w0 fun e w' => ∃ v, e = .returned v ∧ (Below w0.heap.size w0 w' ∧ ∃ F0, VO w' F0 v r ∧ New w0 w' F0) := by
 obtain ⟨A, c2, A2, c3, A3, c4, A4, c5, A5, c6, rfl, hl, hl2, hl3, hl4, hl5⟩ := Change_open h0
 have H := Mem.start ⟨w0, []⟩ S
 have H := H.pA hl
 have H := H.pA hl2
 have H := H.pA hl3
 have H := H.pA hl4
 have H := H.pA hl5
 refine en Tryz.func94 fun a hf => ?_
 rw [impl_copyChange] at hF
 refine bx hf H fun b' a w hf H => ?_
 refine aL hf H TF.zv76 fun b2 a w hf H => ?_
 refine wl_end (then_n (sq (dw [12] 13 fun w hb => ?_)))
 have H := H.keep hb
 refine zp 0 hf trivial fun a hf => ?_
 refine strT (H.lt_ [false, true] [] [] []) (fun w H => trivial) fun hS => ?_
 refine zS 1 [1, 2, 5, 8, 11, 12] rfl rfl rfl rfl hf hS (fun w H => rq_loadBN hf H TF.la45 0 rfl rfl rfl rfl) fun a hf => ?_
 refine zp 3 hf hS fun a hf => ?_
 refine zS 4 [4, 5, 8, 11, 12] rfl rfl rfl rfl hf hS (fun w H => rq_loadB hf H TF.ls67 0 rfl rfl rfl) fun a hf => ?_
 refine zp 6 hf hS fun a hf => ?_
 refine zS 7 [7, 8, 11, 12] rfl rfl rfl rfl hf hS (fun w H => rq_loadB hf H TF.ls67 0 rfl rfl rfl) fun a hf => ?_
 refine zp 9 hf hS fun a hf => ?_
 refine zS 10 [10, 11, 12] rfl rfl rfl rfl hf hS (fun w H => rq_loadB hf H TF.ls4 0 rfl rfl rfl) fun a hf => ?_
 obtain ⟨y, hy, hF⟩ := bs_ hF
 refine nn 2 rfl (oC hf TF.cl83 (impl_copyPlan_ok (S := TT) (Plan_mkv (x := c.Plan) (H.rt 4 rfl) (H.rt 3 rfl) (H.rt 2 rfl)) hy) fun v w a hp hf => ?_)
 obtain ⟨hb, F, hp2, hN⟩ := hp
 obtain ⟨A6, c7, F2, A7, c8, F3, A8, c9, F4, rfl, rfl, hl6, hl7, hl8⟩ := Plan_vo hp2
 have H := H.aO3 hb hN hl6 hl7 hl8
 have H := H.lend 0 rfl
 have H := H.lend 1 rfl
 have H := H.lend 2 rfl
 have hS := H.lt_ [false, true] [] [false, false, false] []
 refine aS hS ?_
 obtain ⟨y2, hy2, hF⟩ := bs_ hF
 refine nn 5 rfl (oC hf TF.cl144 (impl_copyActions_ok (S := TT) (mk_list (H.rt 4 rfl)) hy2) fun v2 w a hp3 hf => ?_)
 obtain ⟨hb2, F5, hp4, hN2⟩ := hp3
 obtain ⟨A9, c10, rfl, hl9⟩ := VO_list hp4
 have H := H.aO1 hb2 hN2 hl9
 have H := H.lend 0 rfl
 have hS := H.lt_ [false, true] [] [false, false, false, false] []
 refine aS hS ?_
 obtain ⟨y3, hy3, hF⟩ := bs_ hF
 refine nn 8 rfl (oC hf TF.cl144 (impl_copyActions_ok (S := TT) (mk_list (H.rt 4 rfl)) hy3) fun v3 w a hp5 hf => ?_)
 obtain ⟨hb3, F7, hp6, hN3⟩ := hp5
 obtain ⟨A10, c11, rfl, hl10⟩ := VO_list hp6
 have H := H.aO1 hb3 hN3 hl10
 have H := H.lend 0 rfl
 have hS := H.lt_ [false, true] [] [false, false, false, false, false] []
 refine aS hS ?_
 refine zP 11 rfl rfl rfl rfl hf hS (fun w => rq_build hf (cs := [(.slice A6 y.Network.Nodes.length c7), (.slice A7 y.Network.Fibers.length c8), (.slice A8 y.Lights.length c9), (.slice A9 y2.length c10), (.slice A10 y3.length c11), (.bool c.Back)]) rfl (fun w => by kernel_rfl)) fun a hf => ?_
 refine nn 12 rfl (op_storeB hf H 0 TF.sz76 rfl rfl rfl rfl rfl rfl (nle rfl) fun w H => ?_)
 refine ⟨fun h => absurd h (by decide), ?_⟩
 refine dk ?_
 have hf := hf.pn [2]
 refine then_n (wp_ret (?_))
 have H := H.frontD 1 rfl
 have H := H.tl
 have H := H.lendTl 0 rfl
 have H := H.frontD 1 rfl
 have H := H.tl
 have H := H.lendTl 0 rfl
 have H := H.frontD 1 rfl
 have H := H.frontD 4 rfl
 have H := H.frontD 4 rfl
 have H := H.frontD 4 rfl
 obtain rfl := oi hF
 refine ret_1 hf rfl (rv_cellN hf H 0 TF.la76 rfl rfl rfl) ?_
 have hN := H.ends (X := [(⟨F2, MP.own F2 [(.slice A6 y.Network.Nodes.length c7)] (y.Network.Nodes : List ByteArray)⟩ : DI), (⟨F3, MP.own F3 [(.slice A7 y.Network.Fibers.length c8)] (y.Network.Fibers : List Fiber)⟩ : DI), (⟨F4, MP.own F4 [(.slice A8 y.Lights.length c9)] (y.Lights : List Light)⟩ : DI), (⟨F5, MP.own F5 [(.slice A9 y2.length c10)] (Tl.mk (y2 : List Action))⟩ : DI), (⟨F7, MP.own F7 [(.slice A10 y3.length c11)] (Tl.mk (y3 : List Action))⟩ : DI)])
 simp only [List.flatMap_cons, List.flatMap_nil, List.append_nil, List.append_assoc] at hN
 exact ⟨_, rfl, H.bel, (F2 ++ (F3 ++ (F4 ++ (F5 ++ F7)))), ⟨_, Change_ownmk (x := ({ Plan := y, Actions := y2, Undo := y3, Back := c.Back } : Change)) (H.ownAt 0 rfl) (H.ownAt 1 rfl) (H.ownAt 2 rfl) (H.ownAt 3 rfl) (H.ownAt 4 rfl), rfl⟩, by first | exact hN | simpa using hN⟩
theorem impl_stepped_ok {S : Nat → Prop} {v0_ : Value} {c : Change} {r : Change} (h0 : VR w0 S v0_ c) (hF : impl_stepped fu c = some r) :
    Calls Tryz.prog 88 [v0_].toArray w0 fun e w' => ∃ v, e = .returned v ∧ (Below w0.heap.size w0 w' ∧ ∃ F0, VO w' F0 v r ∧ New w0 w' F0) := by
 obtain ⟨A, c2, A2, c3, A3, c4, A4, c5, A5, c6, rfl, hl, hl2, hl3, hl4, hl5⟩ := Change_open h0
 have H := Mem.start ⟨w0, []⟩ S
 have H := H.pA hl
 have H := H.pA hl2
 have H := H.pA hl3
 have H := H.pA hl4
 have H := H.pA hl5
 refine en Tryz.func88 fun a hf => ?_
 rw [impl_stepped] at hF
 refine bx hf H fun b' a w hf H => ?_
 refine aL hf H TF.zv76 fun b2 a w hf H => ?_
 refine wr (lN 1 hf H TF.la76 fun a hf => ?_)
 obtain ⟨y, hy, hF⟩ := bs_ hF
 refine oc hf TF.cl94 (impl_copyChange_ok (S := TT) (Change_mkv (x := c) (H.rt 4 rfl) (H.rt 3 rfl) (H.rt 2 rfl) (H.rt 1 rfl) (H.rt 0 rfl)) hy) fun v w a hp hf => ?_
 obtain ⟨hb, F, hp2, hN⟩ := hp
 obtain ⟨A6, c7, F2, A7, c8, F3, A8, c9, F4, A9, c10, F5, A10, c11, F6, rfl, rfl, hl6, hl7, hl8, hl9, hl10⟩ := Change_vo hp2
 have H := H.addOwn hb (X := [(⟨F2, MP.own F2 [(.slice A6 y.Plan.Network.Nodes.length c7)] (y.Plan.Network.Nodes : List ByteArray)⟩ : DI), (⟨F3, MP.own F3 [(.slice A7 y.Plan.Network.Fibers.length c8)] (y.Plan.Network.Fibers : List Fiber)⟩ : DI), (⟨F4, MP.own F4 [(.slice A8 y.Plan.Lights.length c9)] (y.Plan.Lights : List Light)⟩ : DI), (⟨F5, MP.own F5 [(.slice A9 y.Actions.length c10)] (Tl.mk (y.Actions : List Action))⟩ : DI), (⟨F6, MP.own F6 [(.slice A10 y.Undo.length c11)] (Tl.mk (y.Undo : List Action))⟩ : DI)]) (by simpa using hN.1) (ps1 hl6 (ps1 hl7 (ps1 hl8 (ps1 hl9 (ps1 hl10 ps0))))) (by simpa using hN.2)
 have H := H.lend 0 rfl
 have H := H.lend 1 rfl
 have H := H.lend 2 rfl
 have H := H.lendTl 3 rfl
 have H := H.lendTl 4 rfl
 refine aL hf H TF.zv76 fun b3 a w hf H => ?_
 refine sB 0 hf H TF.sz76 fun w H => ?_
 refine wl_end (then_n (sq (wp_block (sq ?_))))
 obtain ⟨c12, hGc12, hF⟩ := bs_ hF
 have fh := hf.prune [1, 2, 3] rfl
 have Hm := H.lt_ [true, true, true] [] [true, true, true, true, true] [0, 1, 2, 3, 4, 5, 6, 7, 8, 9]
 refine midF 10 (.bool c12) fh Hm ?_ fun a w hf H => ?_
 ·refine reg (pz 1 hf fun a hf => ?_)
  refine lB 2 hf H TF.ls4 fun a hf => ?_
  refine pz 2 hf fun a hf => ?_
  refine iteB hGc12 (fun hc hGc12 => ?_) fun hc hGc12 => ?_
  ·have hf := hf.lit 14 rfl hc
   refine pz 1 hf fun a hf => ?_
   refine wlg hf rfl rfl rfl (op_q hf (rq_loadB hf H TF.ls67 2 rfl rfl rfl) rfl (by decide) fun a hf => ?_)
   refine pz 4 hf fun a hf => ?_
   obtain rfl := oi hGc12
   have hf := hf.pn [10, 1, 2, 3]
   have H := H.lt_ [true, true, true] [] [true, true, true, true, true] [0, 1, 2, 3, 4, 5, 6, 7, 8, 9]
   exact wl_end ⟨hf, H⟩
  ·have hf := hf.lit 14 rfl hc
   refine pz 6 hf fun a hf => ?_
   obtain rfl := oi hGc12
   have hf := hf.pn [10, 1, 2, 3]
   have H := H.lt_ [true, true, true] [] [true, true, true, true, true] [0, 1, 2, 3, 4, 5, 6, 7, 8, 9]
   exact wl_end ⟨hf, H⟩
 refine then_n (ib hF hf (fun hc2 hF => ?_) fun hc2 hF => ?_)
 ·refine sq ?_
  obtain ⟨e, he, hF⟩ := bs_ hF
  obtain ⟨y2, hy2, hF⟩ := bs_ hF
  refine mid (fun a w => ∃ (b4 : Nat) (A12 : Option Addr) (c14 : Nat) (F8 : List Nat), Fr a 82 [(1, (.pointer (some ⟨b', 0, none⟩))), (2, (.pointer (some ⟨b2, 0, none⟩))), (3, (.pointer (some ⟨b3, 0, none⟩))), (4, (.pointer (some ⟨b4, 0, none⟩)))] ∧ Mem ⟨w0, []⟩ S [⟨b4, 54, [(.int .i64 y2.1.Kind), (.int .i64 y2.1.Light.Id), (.int .i64 y2.1.Light.Route.Start), (.slice A12 y2.1.Light.Route.Fibers.length c14), (.int .i64 y2.1.Light.Block.First), (.int .i64 y2.1.Light.Block.Count)]⟩, ⟨b3, 76, [(.slice A6 y.Plan.Network.Nodes.length c7), (.slice A7 y.Plan.Network.Fibers.length c8), (.slice A8 y.Plan.Lights.length c9), (.slice A9 y.Actions.length c10), (.slice A10 y.Undo.length c11), (.bool y.Back)]⟩, ⟨b2, 76, [(.slice none 0 0), (.slice none 0 0), (.slice none 0 0), (.slice none 0 0), (.slice none 0 0), (.bool false)]⟩, ⟨b', 76, [(.slice A c.Plan.Network.Nodes.length c2), (.slice A2 c.Plan.Network.Fibers.length c3), (.slice A3 c.Plan.Lights.length c4), (.slice A4 c.Actions.length c5), (.slice A5 c.Undo.length c6), (.bool c.Back)]⟩] [] [⟨F8, MP.own F8 [(.slice A12 y2.1.Light.Route.Fibers.length c14)] (y2.1.Light.Route.Fibers : List Int)⟩, ⟨F2, MP.own F2 [(.slice A6 y.Plan.Network.Nodes.length c7)] (y.Plan.Network.Nodes : List ByteArray)⟩, ⟨F3, MP.own F3 [(.slice A7 y.Plan.Network.Fibers.length c8)] (y.Plan.Network.Fibers : List Fiber)⟩, ⟨F4, MP.own F4 [(.slice A8 y.Plan.Lights.length c9)] (y.Plan.Lights : List Light)⟩, ⟨F5, MP.own F5 [(.slice A9 y.Actions.length c10)] (Tl.mk (y.Actions : List Action))⟩, ⟨F6, MP.own F6 [(.slice A10 y.Undo.length c11)] (Tl.mk (y.Undo : List Action))⟩] [(true, MP.val [(.slice A12 y2.1.Light.Route.Fibers.length c14)] (y2.1.Light.Route.Fibers : List Int)), (true, MP.val [(.slice A10 y.Undo.length c11)] (y.Undo : List Action)), (true, MP.val [(.slice A9 y.Actions.length c10)] (y.Actions : List Action)), (true, MP.val [(.slice A8 y.Plan.Lights.length c9)] (y.Plan.Lights : List Light)), (true, MP.val [(.slice A7 y.Plan.Network.Fibers.length c8)] (y.Plan.Network.Fibers : List Fiber)), (true, MP.val [(.slice A6 y.Plan.Network.Nodes.length c7)] (y.Plan.Network.Nodes : List ByteArray)), (false, MP.val [(.slice A5 c.Undo.length c6)] (c.Undo : List Action)), (false, MP.val [(.slice A4 c.Actions.length c5)] (c.Actions : List Action)), (false, MP.val [(.slice A3 c.Plan.Lights.length c4)] (c.Plan.Lights : List Light)), (false, MP.val [(.slice A2 c.Plan.Network.Fibers.length c3)] (c.Plan.Network.Fibers : List Fiber)), (false, MP.val [(.slice A c.Plan.Network.Nodes.length c2)] (c.Plan.Network.Nodes : List ByteArray))] w) ?_ ?_
  ·refine dw [11] 13 fun w hb => ?_
   have H := H.keep hb
   refine zp 0 hf trivial fun a hf => ?_
   refine strT (H.lt_ [false, false, true] [] [false, false, false, false, false] []) (fun w H => trivial) fun hS => ?_
   refine zS 1 [1, 6, 7, 8, 9, 11, 12] rfl rfl rfl rfl hf hS (fun w H => rq_loadBN hf H TF.la45 0 rfl rfl rfl rfl) fun a hf => ?_
   refine zp 2 hf hS fun a hf => ?_
   refine zS 3 [3, 4, 5, 6, 7, 8, 9, 11, 12] rfl rfl rfl rfl hf hS (fun w H => rq_loadB hf H TF.ls67 0 rfl rfl rfl) fun a hf => ?_
   obtain ⟨p, o, cs, hx, hr, H⟩ := pre_iaddr H Tryz.underlying67 TF.sz54 6 rfl he
   refine zP 4 rfl rfl rfl rfl hf hS (fun w => rq_iaddrE hf rfl rfl rfl hx w) fun a hf => ?_
   obtain ⟨A11, c13, rfl, hl11⟩ := Action_cells hr
   have H := H.pF hl11
   refine strT (H.lt_ [false, false, true] [] [false, false, false, false, false] [1]) (fun w H => H.lt_ [true] [] [] []) fun hS => ?_
   refine zS 5 [5, 6, 7, 8, 9, 11, 12] rfl rfl rfl rfl hf hS (fun w H => rq_loadIN hf H TF.la54 0 0 rfl rfl rfl rfl) fun a hf => ?_
   refine on2 (i := 6) (j := 10) (bi := [true, true, true, true, true, true, true, false, false, false, false, false, false]) (bj := [true, true, true, true, true, true, false, false, false, false, true, false, false]) (by kernel_rfl) rfl rfl rfl rfl rfl rfl ?_ ?_
   ·refine (oC hf TF.cl23 (impl_InverseAction_ok (S := TT) (Plan_mkv (x := c.Plan) (H.rt 11 rfl) (H.rt 10 rfl) (H.rt 9 rfl)) (Action_mkv (x := e) (H.rt 0 rfl)) hy2) fun v2 w a hp3 hf => ?_)
    obtain ⟨hb2, F7, v3, v4, rfl, hp4, hp5, hN2⟩ := hp3
    obtain ⟨A12, c14, F8, rfl, rfl, hl12⟩ := Action_vo hp4
    obtain rfl := VR_bool hp5
    have H := H.aO1 hb2 hN2 hl12
    have H := H.lend 0 rfl
    have hS := H.lt_ [false, false, true] [] [false, false, false, false, false, false] [2]
    refine aS hS ?_
    refine zp 7 hf hS fun a hf => ?_
    refine zp 8 hf hS fun a hf => ?_
    refine zp 9 hf hS fun a hf => ?_
    refine nn 10 rfl (op_alloc hf H TF.zv54 rfl (by decide) fun b4 a w hf H => ?_)
    have hS := H.lt_ [false, false, false, true] [] [false, false, false, false, false, false] [2]
    refine aS hS ?_
    refine nn 11 rfl (op_storeB hf H 0 TF.sz54 rfl rfl rfl rfl rfl rfl (nle rfl) fun w H => ?_)
    refine ⟨fun h => absurd h (by decide), ?_⟩
    refine tp 12 rfl rfl hf (by kernel_rfl) (fun h => absurd h (by decide)) rfl fun a hf => ?_
    refine dk ?_
    have hf := hf.pn [1, 2, 3, 4]
    have H := H.lt_ [true, true, true, true] [] [true, true, true, true, true, true] [0, 3, 4, 5, 6, 7, 8, 9, 10, 11, 12]
    exact ⟨b4, A12, c14, F8, hf, H⟩
   ·refine (op_alloc hf H TF.zv54 rfl (by decide) fun b4 a w hf H => ?_)
    have hS := H.lt_ [false, false, false, true] [] [false, false, false, false, false] [1]
    refine aS hS ?_
    refine nn 6 rfl (oC hf TF.cl23 (impl_InverseAction_ok (S := TT) (Plan_mkv (x := c.Plan) (H.rt 11 rfl) (H.rt 10 rfl) (H.rt 9 rfl)) (Action_mkv (x := e) (H.rt 0 rfl)) hy2) fun v2 w a hp3 hf => ?_)
    obtain ⟨hb2, F7, v3, v4, rfl, hp4, hp5, hN2⟩ := hp3
    obtain ⟨A12, c14, F8, rfl, rfl, hl12⟩ := Action_vo hp4
    obtain rfl := VR_bool hp5
    have H := H.aO1 hb2 hN2 hl12
    have H := H.lend 0 rfl
    have hS := H.lt_ [false, false, false, true] [] [false, false, false, false, false, false] [2]
    refine aS hS ?_
    refine zp 7 hf hS fun a hf => ?_
    refine zp 8 hf hS fun a hf => ?_
    refine zp 9 hf hS fun a hf => ?_
    refine nn 11 rfl (op_storeB hf H 0 TF.sz54 rfl rfl rfl rfl rfl rfl (nle rfl) fun w H => ?_)
    refine ⟨fun h => absurd h (by decide), ?_⟩
    refine tp 12 rfl rfl hf (by kernel_rfl) (fun h => absurd h (by decide)) rfl fun a hf => ?_
    refine dk ?_
    have hf := hf.pn [1, 2, 3, 4]
    have H := H.lt_ [true, true, true, true] [] [true, true, true, true, true, true] [0, 3, 4, 5, 6, 7, 8, 9, 10, 11, 12]
    exact ⟨b4, A12, c14, F8, hf, H⟩
  rintro a w ⟨b4, A12, c14, F8, hf, H⟩
  refine then_n (sq ?_)
  obtain ⟨e2, he2, hF⟩ := bs_ hF
  obtain ⟨y3, hy3, hF⟩ := bs_ hF
  refine mid (fun a w => ∃ (b5 : Nat) (A14 : Option Addr) (c16 : Nat) (F10 : List Nat) (A15 : Option Addr) (c17 : Nat) (F11 : List Nat) (A16 : Option Addr) (c18 : Nat) (F12 : List Nat), Fr a 82 [(2, (.pointer (some ⟨b2, 0, none⟩))), (3, (.pointer (some ⟨b3, 0, none⟩))), (4, (.pointer (some ⟨b4, 0, none⟩))), (6, (.pointer (some ⟨b5, 0, none⟩))), (7, (.bool y3.2))] ∧ Mem ⟨w0, []⟩ S [⟨b5, 45, [(.slice A14 y3.1.Network.Nodes.length c16), (.slice A15 y3.1.Network.Fibers.length c17), (.slice A16 y3.1.Lights.length c18)]⟩, ⟨b4, 54, [(.int .i64 y2.1.Kind), (.int .i64 y2.1.Light.Id), (.int .i64 y2.1.Light.Route.Start), (.slice A12 y2.1.Light.Route.Fibers.length c14), (.int .i64 y2.1.Light.Block.First), (.int .i64 y2.1.Light.Block.Count)]⟩, ⟨b3, 76, [(.slice A6 y.Plan.Network.Nodes.length c7), (.slice A7 y.Plan.Network.Fibers.length c8), (.slice A8 y.Plan.Lights.length c9), (.slice A9 y.Actions.length c10), (.slice A10 y.Undo.length c11), (.bool y.Back)]⟩, ⟨b2, 76, [(.slice none 0 0), (.slice none 0 0), (.slice none 0 0), (.slice none 0 0), (.slice none 0 0), (.bool false)]⟩] [] [⟨F10, MP.own F10 [(.slice A14 y3.1.Network.Nodes.length c16)] (y3.1.Network.Nodes : List ByteArray)⟩, ⟨F11, MP.own F11 [(.slice A15 y3.1.Network.Fibers.length c17)] (y3.1.Network.Fibers : List Fiber)⟩, ⟨F12, MP.own F12 [(.slice A16 y3.1.Lights.length c18)] (y3.1.Lights : List Light)⟩, ⟨F8, MP.own F8 [(.slice A12 y2.1.Light.Route.Fibers.length c14)] (y2.1.Light.Route.Fibers : List Int)⟩, ⟨F2, MP.own F2 [(.slice A6 y.Plan.Network.Nodes.length c7)] (y.Plan.Network.Nodes : List ByteArray)⟩, ⟨F3, MP.own F3 [(.slice A7 y.Plan.Network.Fibers.length c8)] (y.Plan.Network.Fibers : List Fiber)⟩, ⟨F4, MP.own F4 [(.slice A8 y.Plan.Lights.length c9)] (y.Plan.Lights : List Light)⟩, ⟨F5, MP.own F5 [(.slice A9 y.Actions.length c10)] (Tl.mk (y.Actions : List Action))⟩, ⟨F6, MP.own F6 [(.slice A10 y.Undo.length c11)] (Tl.mk (y.Undo : List Action))⟩] [(true, MP.val [(.slice A16 y3.1.Lights.length c18)] (y3.1.Lights : List Light)), (true, MP.val [(.slice A15 y3.1.Network.Fibers.length c17)] (y3.1.Network.Fibers : List Fiber)), (true, MP.val [(.slice A14 y3.1.Network.Nodes.length c16)] (y3.1.Network.Nodes : List ByteArray)), (true, MP.val [(.slice A12 y2.1.Light.Route.Fibers.length c14)] (y2.1.Light.Route.Fibers : List Int)), (true, MP.val [(.slice A10 y.Undo.length c11)] (y.Undo : List Action)), (true, MP.val [(.slice A9 y.Actions.length c10)] (y.Actions : List Action)), (true, MP.val [(.slice A8 y.Plan.Lights.length c9)] (y.Plan.Lights : List Light)), (true, MP.val [(.slice A7 y.Plan.Network.Fibers.length c8)] (y.Plan.Network.Fibers : List Fiber)), (true, MP.val [(.slice A6 y.Plan.Network.Nodes.length c7)] (y.Plan.Network.Nodes : List ByteArray))] w) ?_ ?_
  ·refine dw [11] 13 fun w hb => ?_
   have H := H.keep hb
   refine zp 0 hf trivial fun a hf => ?_
   refine strT (H.lt_ [false, false, false, true] [] [false, false, false, false, false, false] []) (fun w H => trivial) fun hS => ?_
   refine zS 1 [1, 6, 7, 8, 9, 11, 12] rfl rfl rfl rfl hf hS (fun w H => rq_loadBN hf H TF.la45 0 rfl rfl rfl rfl) fun a hf => ?_
   refine zp 2 hf hS fun a hf => ?_
   refine zS 3 [3, 4, 5, 6, 7, 8, 9, 11, 12] rfl rfl rfl rfl hf hS (fun w H => rq_loadB hf H TF.ls67 0 rfl rfl rfl) fun a hf => ?_
   obtain ⟨p2, o2, cs2, hx2, hr2, H⟩ := pre_iaddr H Tryz.underlying67 TF.sz54 7 rfl he2
   refine zP 4 rfl rfl rfl rfl hf hS (fun w => rq_iaddrE hf rfl rfl rfl hx2 w) fun a hf => ?_
   obtain ⟨A13, c15, rfl, hl13⟩ := Action_cells hr2
   have H := H.pF hl13
   refine strT (H.lt_ [false, false, false, true] [] [false, false, false, false, false, false] [1]) (fun w H => H.lt_ [true] [] [] []) fun hS => ?_
   refine zS 5 [5, 6, 7, 8, 9, 11, 12] rfl rfl rfl rfl hf hS (fun w H => rq_loadIN hf H TF.la54 0 0 rfl rfl rfl rfl) fun a hf => ?_
   refine on2 (i := 6) (j := 10) (bi := [true, true, true, true, true, true, true, false, false, false, false, false, false]) (bj := [true, true, true, true, true, true, false, false, false, false, true, false, false]) (by kernel_rfl) rfl rfl rfl rfl rfl rfl ?_ ?_
   ·refine (oC hf TF.cl16 (impl_ApplyAction_ok (S := TT) (Plan_mkv (x := c.Plan) (H.rt 12 rfl) (H.rt 11 rfl) (H.rt 10 rfl)) (Action_mkv (x := e2) (H.rt 0 rfl)) hy3) fun v5 w a hp6 hf => ?_)
    obtain ⟨hb3, F9, v6, v7, rfl, hp7, hp8, hN3⟩ := hp6
    obtain ⟨A14, c16, F10, A15, c17, F11, A16, c18, F12, rfl, rfl, hl14, hl15, hl16⟩ := Plan_vo hp7
    obtain rfl := VR_bool hp8
    have H := H.aO3 hb3 hN3 hl14 hl15 hl16
    have H := H.lend 0 rfl
    have H := H.lend 1 rfl
    have H := H.lend 2 rfl
    have hS := H.lt_ [false, false, false, true] [] [false, false, false, false, false, false, false, false, false] [4]
    refine aS hS ?_
    refine zp 7 hf hS fun a hf => ?_
    refine zp 8 hf hS fun a hf => ?_
    refine zp 9 hf hS fun a hf => ?_
    refine nn 10 rfl (op_alloc hf H TF.zv45 rfl (by decide) fun b5 a w hf H => ?_)
    have hS := H.lt_ [false, false, false, false, true] [] [false, false, false, false, false, false, false, false, false] [4]
    refine aS hS ?_
    refine nn 11 rfl (op_storeB hf H 0 TF.sz45 rfl rfl rfl rfl rfl rfl (nle rfl) fun w H => ?_)
    refine ⟨fun h => absurd h (by decide), ?_⟩
    refine tp 12 rfl rfl hf (by kernel_rfl) (fun h => absurd h (by decide)) rfl fun a hf => ?_
    refine dk ?_
    have hf := hf.pn [2, 3, 4, 6, 7]
    have H := H.lt_ [true, true, true, true, false] [] [true, true, true, true, true, true, true, true, true] [0, 1, 2, 5, 6, 7, 8, 9, 10]
    exact ⟨b5, A14, c16, F10, A15, c17, F11, A16, c18, F12, hf, H⟩
   ·refine (op_alloc hf H TF.zv45 rfl (by decide) fun b5 a w hf H => ?_)
    have hS := H.lt_ [false, false, false, false, true] [] [false, false, false, false, false, false] [1]
    refine aS hS ?_
    refine nn 6 rfl (oC hf TF.cl16 (impl_ApplyAction_ok (S := TT) (Plan_mkv (x := c.Plan) (H.rt 12 rfl) (H.rt 11 rfl) (H.rt 10 rfl)) (Action_mkv (x := e2) (H.rt 0 rfl)) hy3) fun v5 w a hp6 hf => ?_)
    obtain ⟨hb3, F9, v6, v7, rfl, hp7, hp8, hN3⟩ := hp6
    obtain ⟨A14, c16, F10, A15, c17, F11, A16, c18, F12, rfl, rfl, hl14, hl15, hl16⟩ := Plan_vo hp7
    obtain rfl := VR_bool hp8
    have H := H.aO3 hb3 hN3 hl14 hl15 hl16
    have H := H.lend 0 rfl
    have H := H.lend 1 rfl
    have H := H.lend 2 rfl
    have hS := H.lt_ [false, false, false, false, true] [] [false, false, false, false, false, false, false, false, false] [4]
    refine aS hS ?_
    refine zp 7 hf hS fun a hf => ?_
    refine zp 8 hf hS fun a hf => ?_
    refine zp 9 hf hS fun a hf => ?_
    refine nn 11 rfl (op_storeB hf H 0 TF.sz45 rfl rfl rfl rfl rfl rfl (nle rfl) fun w H => ?_)
    refine ⟨fun h => absurd h (by decide), ?_⟩
    refine tp 12 rfl rfl hf (by kernel_rfl) (fun h => absurd h (by decide)) rfl fun a hf => ?_
    refine dk ?_
    have hf := hf.pn [2, 3, 4, 6, 7]
    have H := H.lt_ [true, true, true, true, false] [] [true, true, true, true, true, true, true, true, true] [0, 1, 2, 5, 6, 7, 8, 9, 10]
    exact ⟨b5, A14, c16, F10, A15, c17, F11, A16, c18, F12, hf, H⟩
  rintro a w ⟨b5, A14, c16, F10, A15, c17, F11, A16, c18, F12, hf, H⟩
  refine then_n (sq (sqz (pz 2 hf fun a hf => ?_)))
  refine wl_end (then_n (ib hF hf (fun hc3 hF => ?_) fun hc3 hF => ?_))
  ·refine sqz (pz 1 hf fun a hf => ?_)
   refine sB 2 hf H TF.sz67 fun w H => ?_
   refine pz 1 hf fun a hf => ?_
   refine sB 2 hf H TF.sz4 fun w H => ?_
   refine wr (lN 2 hf H TF.la76 fun a hf => ?_)
   refine sB 3 hf H TF.sz76 fun w H => ?_
   refine wl_end (then_n (wp_ret (then_r (blk_r (then_r (?_))))))
   have H := H.ownNil (Action)
   have H := H.lend 0 rfl
   have H := H.tl
   have H := H.lendTl 0 rfl
   have H := H.frontD 9 rfl
   have H := H.frontD 1 rfl
   have H := H.frontD 8 rfl
   have H := H.frontD 8 rfl
   have H := H.frontD 8 rfl
   obtain rfl := oi hF
   refine ret_1 hf rfl (rv_cellN hf H 3 TF.la76 rfl rfl rfl) ?_
   have hN := H.ends (X := [(⟨F2, MP.own F2 [(.slice A6 y.Plan.Network.Nodes.length c7)] (y.Plan.Network.Nodes : List ByteArray)⟩ : DI), (⟨F3, MP.own F3 [(.slice A7 y.Plan.Network.Fibers.length c8)] (y.Plan.Network.Fibers : List Fiber)⟩ : DI), (⟨F4, MP.own F4 [(.slice A8 y.Plan.Lights.length c9)] (y.Plan.Lights : List Light)⟩ : DI), (⟨[], MP.own [] [(.slice none 0 0)] (Tl.mk ([] : List Action))⟩ : DI), (⟨F6, MP.own F6 [(.slice A10 y.Undo.length c11)] (Tl.mk (y.Undo : List Action))⟩ : DI)])
   simp only [List.flatMap_cons, List.flatMap_nil, List.append_nil, List.append_assoc] at hN
   exact ⟨_, rfl, H.bel, (F2 ++ (F3 ++ (F4 ++ ([] ++ F6)))), ⟨_, Change_ownmk (x := ({ Plan := y.Plan, Actions := [], Undo := y.Undo, Back := true } : Change)) (H.ownAt 0 rfl) (H.ownAt 1 rfl) (H.ownAt 2 rfl) (H.ownAt 3 rfl) (H.ownAt 4 rfl), rfl⟩, by first | exact hN | simpa using hN⟩
  ·refine wp_skip (then_n (sq (dw [5, 7] 8 fun w hb => ?_)))
   have H := H.keep hb
   refine strT (H.lt_ [true, false, false, false] [] [false, false, false, false, false, false, false, false, false] []) (fun w H => trivial) fun hS => ?_
   refine zS 0 [0, 4, 5, 6, 7] rfl rfl rfl rfl hf hS (fun w H => rq_loadBN hf H TF.la45 0 rfl rfl rfl rfl) fun a hf => ?_
   refine zp 1 hf hS fun a hf => ?_
   refine strT (H.lt_ [true, false, true, false] [] [false, false, false, false, false, false, false, false, false] []) (fun w H => H.lt_ [true, false] [] [] []) fun hS => ?_
   refine zS 2 [2, 3, 4, 5, 6, 7] rfl rfl rfl rfl hf hS (fun w H => rq_loadB hf H TF.ls67 1 rfl rfl rfl) fun a hf => ?_
   obtain ⟨cl, hcl, hF⟩ := bs_ hF
   have H := H.frontD 7 rfl
   obtain ⟨F13, A17, c19, hx3, H⟩ := pre_cutTl H Tryz.underlying67 TF.sz54 (lov := some (.int .i64 1)) (hiv := none) (.inr rfl) (.inl ⟨rfl, rfl⟩) hcl
   refine zP 3 rfl rfl rfl rfl hf hS (fun w => rq_sliceE hf rfl rfl rfl hx3 w) fun a hf => ?_
   have H := H.lendTl 0 rfl
   refine zp 4 hf hS fun a hf => ?_
   refine nn 5 rfl (op_storeB hf H 2 TF.sz45 rfl rfl rfl rfl rfl rfl (nle rfl) fun w H => ?_)
   refine ⟨fun h => absurd h (by decide), ?_⟩
   refine tp 6 rfl rfl hf (by kernel_rfl) (fun h => absurd h (by decide)) rfl fun a hf => ?_
   refine nn 7 rfl (op_storeB hf H 2 TF.sz67 rfl rfl rfl rfl rfl rfl (nle rfl) fun w H => ?_)
   refine ⟨fun h => absurd h (by decide), ?_⟩
   refine dk ?_
   refine then_n (reg (lN 1 hf H TF.la54 fun a hf => ?_))
   have H := H.frontD 4 rfl
   have H := H.recast (X := [(⟨F8, MP.own F8 [(.slice A12 y2.1.Light.Route.Fibers.length c14)] (y2.1.Light.Route.Fibers : List Int)⟩ : DI)]) (Y := [(⟨F8, MP.own F8 [(.int .i64 y2.1.Kind), (.int .i64 y2.1.Light.Id), (.int .i64 y2.1.Light.Route.Start), (.slice A12 y2.1.Light.Route.Fibers.length c14), (.int .i64 y2.1.Light.Block.First), (.int .i64 y2.1.Light.Block.Count)] (y2.1 : Action)⟩ : DI)]) (List.Perm.of_eq (by simp)) fun _ => ps1 (Action_ownmk (x := y2.1) (H.ownAt 0 rfl)) ps0
   refine wl0 rfl (op_bsliceO hf 54 H rfl (fun w => by kernel_rfl) (by decide) fun A18 a w hf H => ?_)
   refine pz 1 hf fun a hf => ?_
   refine lB 2 hf H TF.ls67 fun a hf => ?_
   have H := H.frontD 7 rfl
   obtain ⟨Fs, E, H, -⟩ := H.thawTl rfl
   have H := H.pA hl
   have H := H.pA hl2
   have H := H.pA hl3
   have H := H.pA hl4
   have H := H.pA hl5
   have H := H.lendTl 0 rfl
   have H := H.lend 1 rfl
   have H := H.lend 2 rfl
   have H := H.lend 3 rfl
   have H := H.lend 4 rfl
   have H := H.lend 5 rfl
   have H := H.lend 6 rfl
   obtain ⟨al, hal, hF⟩ := bs_ hF
   have H := H.frontR 1 rfl
   refine wl0 rfl (op_appO hf H Tryz.underlying67 TF.ai54 rfl (by decide) rfl rfl hal (by decide) fun E2 A19 c20 a w hf H => ?_)
   refine pz 1 hf fun a hf => ?_
   refine sB 2 hf H TF.sz67 fun w H => ?_
   have hf := hf.pn [2, 3]
   refine wl_end (blk_n (then_n (sq (reg (lN 2 hf H TF.la76 fun a hf => ?_)))))
   refine sB 3 hf H TF.sz76 fun w H => ?_
   refine wer ?_
   obtain ⟨F14, H⟩ := H.freezeOwn 0 rfl
   have H := H.lend 0 rfl
   have H := H.tl
   have H := H.lendTl 0 rfl
   have H := H.frontD 1 rfl
   have H := H.frontD 4 rfl
   have H := H.frontD 4 rfl
   have H := H.frontD 4 rfl
   obtain rfl := oi hF
   refine ret_1 hf rfl (rv_cellN hf H 3 TF.la76 rfl rfl rfl) ?_
   have hN := H.ends (X := [(⟨F10, MP.own F10 [(.slice A14 y3.1.Network.Nodes.length c16)] (y3.1.Network.Nodes : List ByteArray)⟩ : DI), (⟨F11, MP.own F11 [(.slice A15 y3.1.Network.Fibers.length c17)] (y3.1.Network.Fibers : List Fiber)⟩ : DI), (⟨F12, MP.own F12 [(.slice A16 y3.1.Lights.length c18)] (y3.1.Lights : List Light)⟩ : DI), (⟨F13, MP.own F13 [(.slice A17 cl.length c19)] (Tl.mk (cl : List Action))⟩ : DI), (⟨F14, MP.own F14 [(.slice A19 al.length c20)] (Tl.mk (al : List Action))⟩ : DI)])
   simp only [List.flatMap_cons, List.flatMap_nil, List.append_nil, List.append_assoc] at hN
   exact ⟨_, rfl, H.bel, (F10 ++ (F11 ++ (F12 ++ (F13 ++ F14)))), ⟨_, Change_ownmk (x := ({ Plan := y3.1, Actions := cl, Undo := al, Back := y.Back } : Change)) (H.ownAt 0 rfl) (H.ownAt 1 rfl) (H.ownAt 2 rfl) (H.ownAt 3 rfl) (H.ownAt 4 rfl), rfl⟩, by first | exact hN | simpa using hN⟩
 ·refine sq ?_
  obtain ⟨c21, hGc21, hF⟩ := bs_ hF
  have fh2 := hf.prune [1, 2, 3] rfl
  have Hm2 := H.lt_ [true, true, true] [] [true, true, true, true, true] [0, 1, 2, 3, 4, 5, 6, 7, 8, 9]
  refine midF 57 (.bool c21) fh2 Hm2 ?_ fun a w hf H => ?_
  ·refine reg (pz 1 hf fun a hf => ?_)
   refine lB 2 hf H TF.ls4 fun a hf => ?_
   refine pz 1 hf fun a hf => ?_
   refine iteB hGc21 (fun hc4 hGc21 => ?_) fun hc4 hGc21 => ?_
   ·have hf := hf.lit 60 rfl hc4
    refine pz 1 hf fun a hf => ?_
    refine wlg hf rfl rfl rfl (op_q hf (rq_loadB hf H TF.ls67 2 rfl rfl rfl) rfl (by decide) fun a hf => ?_)
    refine pz 4 hf fun a hf => ?_
    obtain rfl := oi hGc21
    have hf := hf.pn [57, 1, 2, 3]
    have H := H.lt_ [true, true, true] [] [true, true, true, true, true] [0, 1, 2, 3, 4, 5, 6, 7, 8, 9]
    exact wl_end ⟨hf, H⟩
   ·have hf := hf.lit 60 rfl hc4
    refine pz 6 hf fun a hf => ?_
    obtain rfl := oi hGc21
    have hf := hf.pn [57, 1, 2, 3]
    have H := H.lt_ [true, true, true] [] [true, true, true, true, true] [0, 1, 2, 3, 4, 5, 6, 7, 8, 9]
    exact wl_end ⟨hf, H⟩
  refine then_n (ib hF hf (fun hc5 hF => ?_) fun hc5 hF => ?_)
  ·refine sq (dw [11] 12 fun w hb => ?_)
   have H := H.keep hb
   refine zp 0 hf trivial fun a hf => ?_
   refine strT (H.lt_ [false, false, true] [] [false, false, false, false, false] []) (fun w H => trivial) fun hS => ?_
   refine zS 1 [1, 6, 7, 8, 9, 10, 11] rfl rfl rfl rfl hf hS (fun w H => rq_loadBN hf H TF.la45 0 rfl rfl rfl rfl) fun a hf => ?_
   refine zp 2 hf hS fun a hf => ?_
   refine zS 3 [3, 4, 5, 6, 7, 8, 9, 10, 11] rfl rfl rfl rfl hf hS (fun w H => rq_loadB hf H TF.ls67 0 rfl rfl rfl) fun a hf => ?_
   obtain ⟨e3, he3, hF⟩ := bs_ hF
   obtain ⟨p3, o3, cs3, hx4, hr3, H⟩ := pre_iaddr H Tryz.underlying67 TF.sz54 5 rfl he3
   refine zP 4 rfl rfl rfl rfl hf hS (fun w => rq_iaddrE hf rfl rfl rfl hx4 w) fun a hf => ?_
   obtain ⟨A20, c22, rfl, hl17⟩ := Action_cells hr3
   have H := H.pF hl17
   refine strT (H.lt_ [false, false, true] [] [false, false, false, false, false] [1]) (fun w H => H.lt_ [true] [] [] []) fun hS => ?_
   refine zS 5 [5, 6, 7, 8, 9, 10, 11] rfl rfl rfl rfl hf hS (fun w H => rq_loadIN hf H TF.la54 0 0 rfl rfl rfl rfl) fun a hf => ?_
   obtain ⟨y4, hy4, hF⟩ := bs_ hF
   refine nn 6 rfl (oC hf TF.cl16 (impl_ApplyAction_ok (S := TT) (Plan_mkv (x := c.Plan) (H.rt 11 rfl) (H.rt 10 rfl) (H.rt 9 rfl)) (Action_mkv (x := e3) (H.rt 0 rfl)) hy4) fun v8 w a hp9 hf => ?_)
   obtain ⟨hb4, F15, v9, v10, rfl, hp10, hp11, hN4⟩ := hp9
   obtain ⟨A21, c23, F16, A22, c24, F17, A23, c25, F18, rfl, rfl, hl18, hl19, hl20⟩ := Plan_vo hp10
   obtain rfl := VR_bool hp11
   have H := H.aO3 hb4 hN4 hl18 hl19 hl20
   have H := H.lend 0 rfl
   have H := H.lend 1 rfl
   have H := H.lend 2 rfl
   have hS := H.lt_ [false, false, true] [] [false, false, false, false, false, false, false, false] [4]
   refine aS hS ?_
   refine zp 7 hf hS fun a hf => ?_
   refine zp 8 hf hS fun a hf => ?_
   refine zp 9 hf hS fun a hf => ?_
   refine zp 10 hf hS fun a hf => ?_
   refine nn 11 rfl (op_storeB hf H 0 TF.sz45 rfl rfl rfl rfl rfl rfl (nle rfl) fun w H => ?_)
   refine ⟨fun h => absurd h (by decide), ?_⟩
   refine dk ?_
   have hf := hf.pn [2, 3]
   refine then_n (reg (pz 1 hf fun a hf => ?_))
   refine lB 0 hf H TF.ls67 fun a hf => ?_
   obtain ⟨cl2, hcl2, hF⟩ := bs_ hF
   have H := H.frontD 7 rfl
   refine wl0 rfl (op_cutTl hf H Tryz.underlying67 TF.sz54 rfl rfl rfl (.inr rfl) (.inl ⟨rfl, rfl⟩) hcl2 (by decide) fun F19 A24 c26 a hf H => ?_)
   have H := H.lendTl 0 rfl
   refine pz 1 hf fun a hf => ?_
   refine sB 0 hf H TF.sz67 fun w H => ?_
   refine wl_end (blk_n (then_n (sq (reg (lN 0 hf H TF.la76 fun a hf => ?_)))))
   refine sB 1 hf H TF.sz76 fun w H => ?_
   refine wer ?_
   have H := H.frontD 7 rfl
   have H := H.frontD 4 rfl
   have H := H.frontD 4 rfl
   have H := H.frontD 4 rfl
   obtain rfl := oi hF
   refine ret_1 hf rfl (rv_cellN hf H 1 TF.la76 rfl rfl rfl) ?_
   have hN := H.ends (X := [(⟨F16, MP.own F16 [(.slice A21 y4.1.Network.Nodes.length c23)] (y4.1.Network.Nodes : List ByteArray)⟩ : DI), (⟨F17, MP.own F17 [(.slice A22 y4.1.Network.Fibers.length c24)] (y4.1.Network.Fibers : List Fiber)⟩ : DI), (⟨F18, MP.own F18 [(.slice A23 y4.1.Lights.length c25)] (y4.1.Lights : List Light)⟩ : DI), (⟨F5, MP.own F5 [(.slice A9 y.Actions.length c10)] (Tl.mk (y.Actions : List Action))⟩ : DI), (⟨F19, MP.own F19 [(.slice A24 cl2.length c26)] (Tl.mk (cl2 : List Action))⟩ : DI)])
   simp only [List.flatMap_cons, List.flatMap_nil, List.append_nil, List.append_assoc] at hN
   exact ⟨_, rfl, H.bel, (F16 ++ (F17 ++ (F18 ++ (F5 ++ F19)))), ⟨_, Change_ownmk (x := ({ Plan := y4.1, Actions := y.Actions, Undo := cl2, Back := y.Back } : Change)) (H.ownAt 0 rfl) (H.ownAt 1 rfl) (H.ownAt 2 rfl) (H.ownAt 3 rfl) (H.ownAt 4 rfl), rfl⟩, by first | exact hN | simpa using hN⟩
  ·refine wp_skip (blk_n (then_n (sq (reg (lN 0 hf H TF.la76 fun a hf => ?_)))))
   refine sB 1 hf H TF.sz76 fun w H => ?_
   refine wer ?_
   have H := H.frontD 4 rfl
   have H := H.frontD 4 rfl
   have H := H.frontD 4 rfl
   have H := H.frontD 4 rfl
   have H := H.frontD 4 rfl
   obtain rfl := oi hF
   refine ret_1 hf rfl (rv_cellN hf H 1 TF.la76 rfl rfl rfl) ?_
   have hN := H.ends (X := [(⟨F2, MP.own F2 [(.slice A6 y.Plan.Network.Nodes.length c7)] (y.Plan.Network.Nodes : List ByteArray)⟩ : DI), (⟨F3, MP.own F3 [(.slice A7 y.Plan.Network.Fibers.length c8)] (y.Plan.Network.Fibers : List Fiber)⟩ : DI), (⟨F4, MP.own F4 [(.slice A8 y.Plan.Lights.length c9)] (y.Plan.Lights : List Light)⟩ : DI), (⟨F5, MP.own F5 [(.slice A9 y.Actions.length c10)] (Tl.mk (y.Actions : List Action))⟩ : DI), (⟨F6, MP.own F6 [(.slice A10 y.Undo.length c11)] (Tl.mk (y.Undo : List Action))⟩ : DI)])
   simp only [List.flatMap_cons, List.flatMap_nil, List.append_nil, List.append_assoc] at hN
   exact ⟨_, rfl, H.bel, (F2 ++ (F3 ++ (F4 ++ (F5 ++ F6)))), ⟨_, Change_ownmk (x := y) (H.ownAt 0 rfl) (H.ownAt 1 rfl) (H.ownAt 2 rfl) (H.ownAt 3 rfl) (H.ownAt 4 rfl), rfl⟩, by first | exact hN | simpa using hN⟩
theorem impl_stateOf_ok {S : Nat → Prop} {v0_ : Value} {c : Change} {r : Int} (h0 : VR w0 S v0_ c) (hF : impl_stateOf fu c = some r) :
    Calls Tryz.prog 89 [v0_].toArray w0 fun e w' => ∃ v, e = .returned v ∧ (Below w0.heap.size w0 w' ∧ VR w' (St ⟨w0, []⟩ S [] [] [] true) v r) := by
 obtain ⟨A, c2, A2, c3, A3, c4, A4, c5, A5, c6, rfl, hl, hl2, hl3, hl4, hl5⟩ := Change_open h0
 have H := Mem.start ⟨w0, []⟩ S
 have H := H.pA hl
 have H := H.pA hl2
 have H := H.pA hl3
 have H := H.pA hl4
 have H := H.pA hl5
 refine en Tryz.func89 fun a hf => ?_
 rw [impl_stateOf] at hF
 refine bx hf H fun b' a w hf H => ?_
 refine pz 1 hf fun a hf => ?_
 refine wl_end (then_n (sq (wp_block (sq ?_))))
 obtain ⟨c7, hGc7, hF⟩ := bs_ hF
 have fh := hf.prune [1] rfl
 have Hm := H.lt_ [true] [] [] [0, 1, 2, 3, 4]
 refine midF 3 (.bool c7) fh Hm ?_ fun a w hf H => ?_
 ·refine reg (pz 1 hf fun a hf => ?_)
  refine lB 0 hf H TF.ls4 fun a hf => ?_
  refine pz 2 hf fun a hf => ?_
  refine iteB hGc7 (fun hc hGc7 => ?_) fun hc hGc7 => ?_
  ·have hf := hf.lit 7 rfl hc
   refine pz 1 hf fun a hf => ?_
   refine wlg hf rfl rfl rfl (op_q hf (rq_loadB hf H TF.ls67 0 rfl rfl rfl) rfl (by decide) fun a hf => ?_)
   refine pz 4 hf fun a hf => ?_
   obtain rfl := oi hGc7
   have hf := hf.pn [3, 1]
   have H := H.lt_ [true] [] [] [0, 1, 2, 3, 4]
   exact wl_end ⟨hf, H⟩
  ·have hf := hf.lit 7 rfl hc
   refine pz 6 hf fun a hf => ?_
   obtain rfl := oi hGc7
   have hf := hf.pn [3, 1]
   have H := H.lt_ [true] [] [] [0, 1, 2, 3, 4]
   exact wl_end ⟨hf, H⟩
 refine then_n (ib hF hf (fun hc2 hF => ?_) fun hc2 hF => ?_)
 ·refine sqz (pz 1 hf fun a hf => ?_)
  refine wl_end (then_n (wp_ret (blk_r (then_r (?_)))))
  obtain rfl := oi hF
  refine rT hf ?_
  exact ⟨_, rfl, H.bel, mk_int⟩
 ·refine sq ?_
  obtain ⟨c8, hGc8, hF⟩ := bs_ hF
  have fh2 := hf.prune [] rfl
  have Hm2 := H.lt_ [false] [] [] []
  refine midF 13 (.bool c8) fh2 Hm2 ?_ fun a w hf H => ?_
  ·refine reg (pz 1 hf fun a hf => ?_)
   refine lB 0 hf H TF.ls4 fun a hf => ?_
   refine pz 1 hf fun a hf => ?_
   refine iteB hGc8 (fun hc3 hGc8 => ?_) fun hc3 hGc8 => ?_
   ·have hf := hf.lit 16 rfl hc3
    refine pz 1 hf fun a hf => ?_
    refine wlg hf rfl rfl rfl (op_q hf (rq_loadB hf H TF.ls67 0 rfl rfl rfl) rfl (by decide) fun a hf => ?_)
    refine pz 4 hf fun a hf => ?_
    obtain rfl := oi hGc8
    have hf := hf.pn [13]
    have H := H.lt_ [false] [] [] []
    exact wl_end ⟨hf, H⟩
   ·have hf := hf.lit 16 rfl hc3
    refine pz 6 hf fun a hf => ?_
    obtain rfl := oi hGc8
    have hf := hf.pn [13]
    have H := H.lt_ [false] [] [] []
    exact wl_end ⟨hf, H⟩
  refine then_n (ib hF hf (fun hc4 hF => ?_) fun hc4 hF => ?_)
  ·refine sqz (pz 1 hf fun a hf => ?_)
   refine wl_end (then_n (wp_ret (blk_r (then_r (?_)))))
   obtain rfl := oi hF
   refine rT hf ?_
   exact ⟨_, rfl, H.bel, mk_int⟩
  ·refine wp_skip (blk_n (then_n (sqz (pz 1 hf fun a hf => ?_))))
   refine wer ?_
   obtain rfl := oi hF
   refine rT hf ?_
   exact ⟨_, rfl, H.bel, mk_int⟩
theorem laws_eqChange_ok {S : Nat → Prop} {v0_ : Value} {v1_ : Value} {a' : Change} {b' : Change} {r : Bool} (h0 : VR w0 S v0_ a') (h1 : VR w0 S v1_ b') (hF : laws_eqChange fu a' b' = some r) :
    Calls Tryz.prog 35 [v0_, v1_].toArray w0 fun e w' => ∃ v, e = .returned v ∧ (Below w0.heap.size w0 w' ∧ VR w' (St ⟨w0, []⟩ S [] [] [] true) v r) := by
 obtain ⟨A, c, A2, c2, A3, c3, A4, c4, A5, c5, rfl, hl, hl2, hl3, hl4, hl5⟩ := Change_open h0
 obtain ⟨A6, c6, A7, c7, A8, c8, A9, c9, A10, c10, rfl, hl6, hl7, hl8, hl9, hl10⟩ := Change_open h1
 have H := Mem.start ⟨w0, []⟩ S
 have H := H.pA hl
 have H := H.pA hl2
 have H := H.pA hl3
 have H := H.pA hl4
 have H := H.pA hl5
 have H := H.pA hl6
 have H := H.pA hl7
 have H := H.pA hl8
 have H := H.pA hl9
 have H := H.pA hl10
 refine en Tryz.func35 fun a hf => ?_
 rw [laws_eqChange] at hF
 refine bx hf H fun b2 a w hf H => ?_
 refine wl0 rfl (op_box hf H rfl rfl (by decide) fun b3 a w hf H => ?_)
 refine pz 1 hf fun a hf => ?_
 refine we (sqz (pz 1 hf fun a hf => ?_))
 refine lN 1 hf H TF.la45 fun a hf => ?_
 refine pz 1 hf fun a hf => ?_
 refine lN 0 hf H TF.la45 fun a hf => ?_
 obtain ⟨y, hy, hF⟩ := bs_ hF
 refine oc hf TF.cl17 (laws_eqPlan_ok (S := TT) (Plan_mkv (x := a'.Plan) (H.rt 9 rfl) (H.rt 8 rfl) (H.rt 7 rfl)) (Plan_mkv (x := b'.Plan) (H.rt 4 rfl) (H.rt 3 rfl) (H.rt 2 rfl)) hy) fun v w a hp hf => ?_
 obtain ⟨hb, hp⟩ := hp
 obtain rfl := VR_bool hp
 have H := H.keep hb
 refine pz 1 hf fun a hf => ?_
 refine wl_end (then_n (ib hF hf (fun hc hF => ?_) fun hc hF => ?_))
 ·refine sqz (pz 1 hf fun a hf => ?_)
  refine wl_end (then_n (wp_ret (then_r (?_))))
  obtain rfl := oi hF
  refine rT hf ?_
  exact ⟨_, rfl, H.bel, mk_bool⟩
 ·refine wp_skip (then_n (sq (sqz (pz 1 hf fun a hf => ?_))))
  refine lB 1 hf H TF.ls67 fun a hf => ?_
  refine pz 1 hf fun a hf => ?_
  refine lB 0 hf H TF.ls67 fun a hf => ?_
  obtain ⟨y2, hy2, hF⟩ := bs_ hF
  refine oc hf TF.cl29 (laws_eqActionS_ok (S := TT) (mk_list (H.rt 6 rfl)) (mk_list (H.rt 1 rfl)) hy2) fun v2 w a hp2 hf => ?_
  obtain ⟨hb2, hp2⟩ := hp2
  obtain rfl := VR_bool hp2
  have H := H.keep hb2
  refine pz 1 hf fun a hf => ?_
  have hf := hf.pn [2, 3, 16]
  refine wl_end (then_n (ib hF hf (fun hc2 hF => ?_) fun hc2 hF => ?_))
  ·refine sqz (pz 1 hf fun a hf => ?_)
   refine wl_end (then_n (wp_ret (then_r (?_))))
   obtain rfl := oi hF
   refine rT hf ?_
   exact ⟨_, rfl, H.bel, mk_bool⟩
  ·refine wp_skip (then_n (sq (sqz (pz 1 hf fun a hf => ?_))))
   refine lB 1 hf H TF.ls67 fun a hf => ?_
   refine pz 1 hf fun a hf => ?_
   refine lB 0 hf H TF.ls67 fun a hf => ?_
   obtain ⟨y3, hy3, hF⟩ := bs_ hF
   refine oc hf TF.cl29 (laws_eqActionS_ok (S := TT) (mk_list (H.rt 5 rfl)) (mk_list (H.rt 0 rfl)) hy3) fun v3 w a hp3 hf => ?_
   obtain ⟨hb3, hp3⟩ := hp3
   obtain rfl := VR_bool hp3
   have H := H.keep hb3
   refine pz 1 hf fun a hf => ?_
   refine wl_end (then_n (ib hF hf (fun hc3 hF => ?_) fun hc3 hF => ?_))
   ·refine sqz (pz 1 hf fun a hf => ?_)
    refine wl_end (then_n (wp_ret (then_r (?_))))
    obtain rfl := oi hF
    refine rT hf ?_
    exact ⟨_, rfl, H.bel, mk_bool⟩
   ·refine wp_skip (then_n (sq (sqz (pz 1 hf fun a hf => ?_))))
    refine lB 1 hf H TF.ls4 fun a hf => ?_
    refine pz 1 hf fun a hf => ?_
    refine lB 0 hf H TF.ls4 fun a hf => ?_
    refine pz 1 hf fun a hf => ?_
    have hf := hf.pn [27]
    refine wl_end (then_n (ib hF hf (fun hc4 hF => ?_) fun hc4 hF => ?_))
    ·refine sqz (pz 1 hf fun a hf => ?_)
     refine wl_end (then_n (wp_ret (then_r (?_))))
     obtain rfl := oi hF
     refine rT hf ?_
     exact ⟨_, rfl, H.bel, mk_bool⟩
    ·refine wp_skip (then_n (sqz (pz 1 hf fun a hf => ?_)))
     refine wer ?_
     obtain rfl := oi hF
     refine rT hf ?_
     exact ⟨_, rfl, H.bel, mk_bool⟩
theorem laws_markActionS_tl {S : Nat → Prop} {F : List Nat} {cs : List Value} {v1_ : Value} {a' : List Action} {k' : Int} {r : Int × List Action} (hO : GoTy.own w0 F cs (Tl.mk a')) (hn : F.Nodup) (h1 : VR w0 S v1_ k') (hF : laws_markActionS fu a' k' = some r) :
    Calls Tryz.prog 30 [(bif GoTy.agg (List Action) then .agg cs.toArray else cs.headD undef), v1_].toArray w0 fun e w' => ∃ v, e = .returned v ∧ (Chg w0 w' F ∧ VR w' (fun _ => True) v r.1 ∧ ∃ F', GoTy.own w' F' cs (Tl.mk r.2) ∧ Back w0 w' F F') := by
 obtain rfl := VR_int h1
 obtain ⟨A, c, rfl, hO⟩ := own_tl hO
 have H := Mem.startG S (show GoTy.own w0 F [.slice A a'.length c] (Tl.mk a') from hO) hn
 obtain ⟨Fs, E, H, -⟩ := H.thawTl rfl
 refine en Tryz.func30 fun a hf => ?_
 rw [laws_markActionS] at hF
 refine sqz (pz 1 hf fun a hf => ?_)
 refine we (sqz (pz 1 hf fun a hf => ?_))
 refine wl_end (then_n ?_)
 obtain ⟨out', hB1, hF⟩ := bs_ hF
 have hf := hf.pn [0, 1, 5]
 have hf : Fr a 64 [(0, (.slice A a'.length c)), (1, (.int .i64 k')), (5, (.int .i64 0))] := by first | exact hf | (simp only [List.length_set] at hf; exact hf)
 have H := H.lt_ [] [true] [] []
 refine loopC (fun (s : List Action × Int × Int) (a : Act) (w : World) => match s with | (a2, k2, i) => ∃ (Fs2 : List (List Nat)), a2.length = a'.length ∧ Fr a 64 [(0, (.slice A a'.length c)), (1, (.int .i64 k2)), (5, (.int .i64 i))] ∧ Mem ⟨w0, F⟩ S [] [⟨.ow Fs2 true, E, A, c, (a2 : List Action)⟩] [] [] w) (fun k (s : List Action × Int × Int) => laws_markActionS_L1 fu k s.1 s.2.1 s.2.2 = some out') (fun s => out' = s) (a', k', 0) fu hB1 ⟨Fs, rfl, hf, H⟩ (fun s h => by cases h) ?_ ?_
 ·rintro fk ⟨a2, k2, i⟩ a w hR1 hI
  replace hR1 : laws_markActionS_L1 fu (fk + 1) a2 k2 i = some out' := hR1
  rw [laws_markActionS_L1] at hR1
  obtain ⟨Fs2, hlen, hf, H⟩ := hI
  have hf : Fr a 64 [(0, (.slice A a2.length c)), (1, (.int .i64 k2)), (5, (.int .i64 i))] := by rw [hlen]; exact hf
  refine sq (sqz (pz 4 hf fun a hf => ?_))
  refine wl_end (then_n (ib hR1 hf (fun hc hR1 => ?_) fun hc hR1 => ?_))
  ·refine ws (pz 3 hf fun a hf => ?_)
   obtain ⟨e, he, hR1⟩ := bs_ hR1
   refine wl0 rfl (op_iaddrR hf H Tryz.underlying67 TF.sz54 0 rfl rfl rfl he (by decide) fun p o cs a hf hA hr hk => ?_)
   have hrk := hr
   obtain ⟨A2, c2, rfl, hl⟩ := Action_cells hr
   have H := H.pT hl
   refine pz 1 hf fun a hf => ?_
   refine wl0 rfl (op_storeR (e' := ({ Kind := k2, Light := e.Light } : Action)) (o := o) (off := 0) hf H TF.sz3 0 rfl rfl rfl rfl rfl (nle rfl) rfl hA he (st_own fun F cs h => by obtain ⟨A0, c0, F0, rfl, rfl, l0⟩ := Action_own h; exact Action_ownmk (x := ({ Kind := k2, Light := e.Light } : Action)) l0) fun w H => ?_)
   replace hf : Fr a 64 [(0, (.slice A a2.length c)), (1, (.int .i64 k2)), (5, (.int .i64 i)), (12, (.slice A a2.length c)), (13, (.int .i64 i)), (14, (.int .i64 k2)), (15, (.pointer (some ⟨p, o + 0, none⟩))), (16, (.pointer (some ⟨p, o + 0, none⟩)))] := hf.prune [0, 1, 5, 12, 13, 14, 15, 16] rfl
   replace hf : Fr a 64 [(0, (.slice A (a2.set (i : Int).toNat ({ Kind := k2, Light := e.Light } : Action)).length c)), (1, (.int .i64 k2)), (5, (.int .i64 i)), (12, (.slice A (a2.set (i : Int).toNat ({ Kind := k2, Light := e.Light } : Action)).length c)), (13, (.int .i64 i)), (14, (.int .i64 k2)), (15, (.pointer (some ⟨p, o + 0, none⟩))), (16, (.pointer (some ⟨p, o + 0, none⟩)))] := by simpa only [List.length_set, Nat.add_zero] using hf
   refine wr (pz 3 hf fun a hf => ?_)
   refine wr (pz 3 hf fun a hf => ?_)
   obtain ⟨e2, he2, hR1⟩ := bs_ hR1
   refine wl0 rfl (op_iaddrR hf H Tryz.underlying67 TF.sz54 0 rfl rfl rfl he2 (by decide) fun p2 o2 cs2 a hf hA2 hr2 hk2 => ?_)
   have hrk2 := hr2
   obtain ⟨A3, c3, rfl, hl2⟩ := Action_cells hr2
   have H := H.pT hl2
   refine pz 2 hf fun a hf => ?_
   refine wl0 rfl (op_storeR (e' := ({ Kind := e2.Kind, Light := ({ Id := w64 (k2 + 1), Route := e2.Light.Route, Block := e2.Light.Block } : Light) } : Action)) (o := o2) (off := 1) hf H TF.sz3 0 rfl rfl rfl rfl rfl (nle rfl) rfl hA2 he2 (st_own fun F cs h => by obtain ⟨A0, c0, F0, rfl, rfl, l0⟩ := Action_own h; exact Action_ownmk (x := ({ Kind := e2.Kind, Light := ({ Id := w64 (k2 + 1), Route := e2.Light.Route, Block := e2.Light.Block } : Light) } : Action)) l0) fun w H => ?_)
   replace hf : Fr a 64 [(0, (.slice A (a2.set (i : Int).toNat ({ Kind := k2, Light := e.Light } : Action)).length c)), (1, (.int .i64 (w64 (k2 + 1)))), (5, (.int .i64 i)), (19, (.slice A (a2.set (i : Int).toNat ({ Kind := k2, Light := e.Light } : Action)).length c)), (20, (.int .i64 i)), (21, (.int .i64 (w64 (k2 + 1)))), (22, (.pointer (some ⟨p2, o2 + 0, none⟩))), (23, (.pointer (some ⟨p2, o2 + 1, none⟩))), (24, (.pointer (some ⟨p2, o2 + 1, none⟩)))] := hf.prune [0, 1, 5, 19, 20, 21, 22, 23, 24] rfl
   replace hf : Fr a 64 [(0, (.slice A ((a2.set (i : Int).toNat ({ Kind := k2, Light := e.Light } : Action)).set (i : Int).toNat ({ Kind := e2.Kind, Light := ({ Id := w64 (k2 + 1), Route := e2.Light.Route, Block := e2.Light.Block } : Light) } : Action)).length c)), (1, (.int .i64 (w64 (k2 + 1)))), (5, (.int .i64 i)), (19, (.slice A ((a2.set (i : Int).toNat ({ Kind := k2, Light := e.Light } : Action)).set (i : Int).toNat ({ Kind := e2.Kind, Light := ({ Id := w64 (k2 + 1), Route := e2.Light.Route, Block := e2.Light.Block } : Light) } : Action)).length c)), (20, (.int .i64 i)), (21, (.int .i64 (w64 (k2 + 1)))), (22, (.pointer (some ⟨p2, o2 + 0, none⟩))), (23, (.pointer (some ⟨p2, o2 + 1, none⟩))), (24, (.pointer (some ⟨p2, o2 + 1, none⟩)))] := by simpa only [List.length_set, Nat.add_zero] using hf
   refine wr (pz 3 hf fun a hf => ?_)
   refine wr (pz 3 hf fun a hf => ?_)
   obtain ⟨e3, he3, hR1⟩ := bs_ hR1
   refine wl0 rfl (op_iaddrR hf H Tryz.underlying67 TF.sz54 0 rfl rfl rfl he3 (by decide) fun p3 o3 cs3 a hf hA3 hr3 hk3 => ?_)
   have hrk3 := hr3
   obtain ⟨A4, c4, rfl, hl3⟩ := Action_cells hr3
   have H := H.pT hl3
   refine pz 3 hf fun a hf => ?_
   refine wl0 rfl (op_storeR (e' := ({ Kind := e3.Kind, Light := ({ Id := e3.Light.Id, Route := ({ Start := w64 ((w64 (k2 + 1)) + 1), Fibers := e3.Light.Route.Fibers } : Route), Block := e3.Light.Block } : Light) } : Action)) (o := o3) (off := 2) hf H TF.sz3 0 rfl rfl rfl rfl rfl (nle rfl) rfl hA3 he3 (st_own fun F cs h => by obtain ⟨A0, c0, F0, rfl, rfl, l0⟩ := Action_own h; exact Action_ownmk (x := ({ Kind := e3.Kind, Light := ({ Id := e3.Light.Id, Route := ({ Start := w64 ((w64 (k2 + 1)) + 1), Fibers := e3.Light.Route.Fibers } : Route), Block := e3.Light.Block } : Light) } : Action)) l0) fun w H => ?_)
   replace hf : Fr a 64 [(0, (.slice A ((a2.set (i : Int).toNat ({ Kind := k2, Light := e.Light } : Action)).set (i : Int).toNat ({ Kind := e2.Kind, Light := ({ Id := w64 (k2 + 1), Route := e2.Light.Route, Block := e2.Light.Block } : Light) } : Action)).length c)), (1, (.int .i64 (w64 ((w64 (k2 + 1)) + 1)))), (5, (.int .i64 i)), (27, (.slice A ((a2.set (i : Int).toNat ({ Kind := k2, Light := e.Light } : Action)).set (i : Int).toNat ({ Kind := e2.Kind, Light := ({ Id := w64 (k2 + 1), Route := e2.Light.Route, Block := e2.Light.Block } : Light) } : Action)).length c)), (28, (.int .i64 i)), (29, (.int .i64 (w64 ((w64 (k2 + 1)) + 1)))), (30, (.pointer (some ⟨p3, o3 + 0, none⟩))), (31, (.pointer (some ⟨p3, o3 + 1, none⟩))), (32, (.pointer (some ⟨p3, o3 + 2, none⟩))), (33, (.pointer (some ⟨p3, o3 + 2, none⟩)))] := hf.prune [0, 1, 5, 27, 28, 29, 30, 31, 32, 33] rfl
   replace hf : Fr a 64 [(0, (.slice A (((a2.set (i : Int).toNat ({ Kind := k2, Light := e.Light } : Action)).set (i : Int).toNat ({ Kind := e2.Kind, Light := ({ Id := w64 (k2 + 1), Route := e2.Light.Route, Block := e2.Light.Block } : Light) } : Action)).set (i : Int).toNat ({ Kind := e3.Kind, Light := ({ Id := e3.Light.Id, Route := ({ Start := w64 ((w64 (k2 + 1)) + 1), Fibers := e3.Light.Route.Fibers } : Route), Block := e3.Light.Block } : Light) } : Action)).length c)), (1, (.int .i64 (w64 ((w64 (k2 + 1)) + 1)))), (5, (.int .i64 i)), (27, (.slice A (((a2.set (i : Int).toNat ({ Kind := k2, Light := e.Light } : Action)).set (i : Int).toNat ({ Kind := e2.Kind, Light := ({ Id := w64 (k2 + 1), Route := e2.Light.Route, Block := e2.Light.Block } : Light) } : Action)).set (i : Int).toNat ({ Kind := e3.Kind, Light := ({ Id := e3.Light.Id, Route := ({ Start := w64 ((w64 (k2 + 1)) + 1), Fibers := e3.Light.Route.Fibers } : Route), Block := e3.Light.Block } : Light) } : Action)).length c)), (28, (.int .i64 i)), (29, (.int .i64 (w64 ((w64 (k2 + 1)) + 1)))), (30, (.pointer (some ⟨p3, o3 + 0, none⟩))), (31, (.pointer (some ⟨p3, o3 + 1, none⟩))), (32, (.pointer (some ⟨p3, o3 + 2, none⟩))), (33, (.pointer (some ⟨p3, o3 + 2, none⟩)))] := by simpa only [List.length_set, Nat.add_zero] using hf
   refine wr (pz 3 hf fun a hf => ?_)
   refine wr (pz 2 hf fun a hf => ?_)
   obtain ⟨e4, he4, hR1⟩ := bs_ hR1
   refine wl0 rfl (op_iaddrR hf H Tryz.underlying67 TF.sz54 0 rfl rfl rfl he4 (by decide) fun p4 o4 cs4 a hf hA4 hr4 hk4 => ?_)
   have hrk4 := hr4
   obtain ⟨A5, c5, rfl, hl4⟩ := Action_cells hr4
   have H := H.pT hl4
   refine pz 3 hf fun a hf => ?_
   refine oq hf (rq_load1 hf TF.ls29 rfl (hk4 3 _ rfl)) fun a hf => ?_
   refine pz 1 hf fun a hf => ?_
   obtain ⟨y, hy, hR1⟩ := bs_ hR1
   obtain ⟨F2, hO, hNd, hnx⟩ := H.mutEl rfl he4 hA4 hrk4 hk4 Action_lens_Light_Route_Fibers rfl
   refine oc hf TF.cl84 (laws_markIntS_ok (S := TT) (cs := [(.slice A5 e4.Light.Route.Fibers.length c5)]) hO hNd mk_int hy) fun v w a hp hf => ?_
   obtain ⟨hch, hv, F3, ho, hbk⟩ := hp
   obtain rfl := VR_int hv
   obtain ⟨Fs3, H⟩ := hnx _ _ _ hch ho hbk
   replace hf : Fr a 64 [(0, (.slice A (((a2.set (i : Int).toNat ({ Kind := k2, Light := e.Light } : Action)).set (i : Int).toNat ({ Kind := e2.Kind, Light := ({ Id := w64 (k2 + 1), Route := e2.Light.Route, Block := e2.Light.Block } : Light) } : Action)).set (i : Int).toNat ({ Kind := e3.Kind, Light := ({ Id := e3.Light.Id, Route := ({ Start := w64 ((w64 (k2 + 1)) + 1), Fibers := e3.Light.Route.Fibers } : Route), Block := e3.Light.Block } : Light) } : Action)).length c)), (1, (.int .i64 (w64 ((w64 ((w64 (k2 + 1)) + 1)) + 1)))), (5, (.int .i64 i)), (36, (.slice A (((a2.set (i : Int).toNat ({ Kind := k2, Light := e.Light } : Action)).set (i : Int).toNat ({ Kind := e2.Kind, Light := ({ Id := w64 (k2 + 1), Route := e2.Light.Route, Block := e2.Light.Block } : Light) } : Action)).set (i : Int).toNat ({ Kind := e3.Kind, Light := ({ Id := e3.Light.Id, Route := ({ Start := w64 ((w64 (k2 + 1)) + 1), Fibers := e3.Light.Route.Fibers } : Route), Block := e3.Light.Block } : Light) } : Action)).length c)), (37, (.int .i64 i)), (38, (.pointer (some ⟨p4, o4 + 0, none⟩))), (39, (.pointer (some ⟨p4, o4 + 1, none⟩))), (40, (.pointer (some ⟨p4, o4 + 2, none⟩))), (41, (.pointer (some ⟨p4, o4 + 3, none⟩))), (42, (.slice A5 e4.Light.Route.Fibers.length c5)), (43, (.int .i64 (w64 ((w64 ((w64 (k2 + 1)) + 1)) + 1)))), (44, (.int .i64 y.1))] := hf.prune [0, 1, 5, 36, 37, 38, 39, 40, 41, 42, 43, 44] rfl
   replace hf : Fr a 64 [(0, (.slice A ((((a2.set (i : Int).toNat ({ Kind := k2, Light := e.Light } : Action)).set (i : Int).toNat ({ Kind := e2.Kind, Light := ({ Id := w64 (k2 + 1), Route := e2.Light.Route, Block := e2.Light.Block } : Light) } : Action)).set (i : Int).toNat ({ Kind := e3.Kind, Light := ({ Id := e3.Light.Id, Route := ({ Start := w64 ((w64 (k2 + 1)) + 1), Fibers := e3.Light.Route.Fibers } : Route), Block := e3.Light.Block } : Light) } : Action)).set (i : Int).toNat ({ e4 with Light := { e4.Light with Route := { e4.Light.Route with Fibers := y.2 } } })).length c)), (1, (.int .i64 (w64 ((w64 ((w64 (k2 + 1)) + 1)) + 1)))), (5, (.int .i64 i)), (36, (.slice A ((((a2.set (i : Int).toNat ({ Kind := k2, Light := e.Light } : Action)).set (i : Int).toNat ({ Kind := e2.Kind, Light := ({ Id := w64 (k2 + 1), Route := e2.Light.Route, Block := e2.Light.Block } : Light) } : Action)).set (i : Int).toNat ({ Kind := e3.Kind, Light := ({ Id := e3.Light.Id, Route := ({ Start := w64 ((w64 (k2 + 1)) + 1), Fibers := e3.Light.Route.Fibers } : Route), Block := e3.Light.Block } : Light) } : Action)).set (i : Int).toNat ({ e4 with Light := { e4.Light with Route := { e4.Light.Route with Fibers := y.2 } } })).length c)), (37, (.int .i64 i)), (38, (.pointer (some ⟨p4, o4 + 0, none⟩))), (39, (.pointer (some ⟨p4, o4 + 1, none⟩))), (40, (.pointer (some ⟨p4, o4 + 2, none⟩))), (41, (.pointer (some ⟨p4, o4 + 3, none⟩))), (42, (.slice A5 e4.Light.Route.Fibers.length c5)), (43, (.int .i64 (w64 ((w64 ((w64 (k2 + 1)) + 1)) + 1)))), (44, (.int .i64 y.1))] := by simpa only [List.length_set, Nat.add_zero] using hf
   refine pz 1 hf fun a hf => ?_
   refine wr (pz 3 hf fun a hf => ?_)
   obtain ⟨e5, he5, hR1⟩ := bs_ hR1
   refine wl0 rfl (op_iaddrR hf H Tryz.underlying67 TF.sz54 0 rfl rfl rfl he5 (by decide) fun p5 o5 cs5 a hf hA5 hr5 hk5 => ?_)
   have hrk5 := hr5
   obtain ⟨A6, c6, rfl, hl5⟩ := Action_cells hr5
   have H := H.pT hl5
   refine pz 3 hf fun a hf => ?_
   refine wl0 rfl (op_storeR (e' := ({ Kind := e5.Kind, Light := ({ Id := e5.Light.Id, Route := e5.Light.Route, Block := ({ First := y.1, Count := e5.Light.Block.Count } : Block) } : Light) } : Action)) (o := o5) (off := 4) hf H TF.sz3 0 rfl rfl rfl rfl rfl (nle rfl) rfl hA5 he5 (st_own fun F cs h => by obtain ⟨A0, c0, F0, rfl, rfl, l0⟩ := Action_own h; exact Action_ownmk (x := ({ Kind := e5.Kind, Light := ({ Id := e5.Light.Id, Route := e5.Light.Route, Block := ({ First := y.1, Count := e5.Light.Block.Count } : Block) } : Light) } : Action)) l0) fun w H => ?_)
   replace hf : Fr a 64 [(0, (.slice A ((((a2.set (i : Int).toNat ({ Kind := k2, Light := e.Light } : Action)).set (i : Int).toNat ({ Kind := e2.Kind, Light := ({ Id := w64 (k2 + 1), Route := e2.Light.Route, Block := e2.Light.Block } : Light) } : Action)).set (i : Int).toNat ({ Kind := e3.Kind, Light := ({ Id := e3.Light.Id, Route := ({ Start := w64 ((w64 (k2 + 1)) + 1), Fibers := e3.Light.Route.Fibers } : Route), Block := e3.Light.Block } : Light) } : Action)).set (i : Int).toNat ({ e4 with Light := { e4.Light with Route := { e4.Light.Route with Fibers := y.2 } } })).length c)), (1, (.int .i64 y.1)), (5, (.int .i64 i)), (45, (.slice A ((((a2.set (i : Int).toNat ({ Kind := k2, Light := e.Light } : Action)).set (i : Int).toNat ({ Kind := e2.Kind, Light := ({ Id := w64 (k2 + 1), Route := e2.Light.Route, Block := e2.Light.Block } : Light) } : Action)).set (i : Int).toNat ({ Kind := e3.Kind, Light := ({ Id := e3.Light.Id, Route := ({ Start := w64 ((w64 (k2 + 1)) + 1), Fibers := e3.Light.Route.Fibers } : Route), Block := e3.Light.Block } : Light) } : Action)).set (i : Int).toNat ({ e4 with Light := { e4.Light with Route := { e4.Light.Route with Fibers := y.2 } } })).length c)), (46, (.int .i64 i)), (47, (.int .i64 y.1)), (48, (.pointer (some ⟨p5, o5 + 0, none⟩))), (49, (.pointer (some ⟨p5, o5 + 1, none⟩))), (50, (.pointer (some ⟨p5, o5 + 4, none⟩))), (51, (.pointer (some ⟨p5, o5 + 4, none⟩)))] := hf.prune [0, 1, 5, 45, 46, 47, 48, 49, 50, 51] rfl
   replace hf : Fr a 64 [(0, (.slice A (((((a2.set (i : Int).toNat ({ Kind := k2, Light := e.Light } : Action)).set (i : Int).toNat ({ Kind := e2.Kind, Light := ({ Id := w64 (k2 + 1), Route := e2.Light.Route, Block := e2.Light.Block } : Light) } : Action)).set (i : Int).toNat ({ Kind := e3.Kind, Light := ({ Id := e3.Light.Id, Route := ({ Start := w64 ((w64 (k2 + 1)) + 1), Fibers := e3.Light.Route.Fibers } : Route), Block := e3.Light.Block } : Light) } : Action)).set (i : Int).toNat ({ e4 with Light := { e4.Light with Route := { e4.Light.Route with Fibers := y.2 } } })).set (i : Int).toNat ({ Kind := e5.Kind, Light := ({ Id := e5.Light.Id, Route := e5.Light.Route, Block := ({ First := y.1, Count := e5.Light.Block.Count } : Block) } : Light) } : Action)).length c)), (1, (.int .i64 y.1)), (5, (.int .i64 i)), (45, (.slice A (((((a2.set (i : Int).toNat ({ Kind := k2, Light := e.Light } : Action)).set (i : Int).toNat ({ Kind := e2.Kind, Light := ({ Id := w64 (k2 + 1), Route := e2.Light.Route, Block := e2.Light.Block } : Light) } : Action)).set (i : Int).toNat ({ Kind := e3.Kind, Light := ({ Id := e3.Light.Id, Route := ({ Start := w64 ((w64 (k2 + 1)) + 1), Fibers := e3.Light.Route.Fibers } : Route), Block := e3.Light.Block } : Light) } : Action)).set (i : Int).toNat ({ e4 with Light := { e4.Light with Route := { e4.Light.Route with Fibers := y.2 } } })).set (i : Int).toNat ({ Kind := e5.Kind, Light := ({ Id := e5.Light.Id, Route := e5.Light.Route, Block := ({ First := y.1, Count := e5.Light.Block.Count } : Block) } : Light) } : Action)).length c)), (46, (.int .i64 i)), (47, (.int .i64 y.1)), (48, (.pointer (some ⟨p5, o5 + 0, none⟩))), (49, (.pointer (some ⟨p5, o5 + 1, none⟩))), (50, (.pointer (some ⟨p5, o5 + 4, none⟩))), (51, (.pointer (some ⟨p5, o5 + 4, none⟩)))] := by simpa only [List.length_set, Nat.add_zero] using hf
   refine wr (pz 3 hf fun a hf => ?_)
   refine wr (pz 3 hf fun a hf => ?_)
   obtain ⟨e6, he6, hR1⟩ := bs_ hR1
   refine wl0 rfl (op_iaddrR hf H Tryz.underlying67 TF.sz54 0 rfl rfl rfl he6 (by decide) fun p6 o6 cs6 a hf hA6 hr6 hk6 => ?_)
   have hrk6 := hr6
   obtain ⟨A7, c7, rfl, hl6⟩ := Action_cells hr6
   have H := H.pT hl6
   refine pz 3 hf fun a hf => ?_
   refine wl0 rfl (op_storeR (e' := ({ Kind := e6.Kind, Light := ({ Id := e6.Light.Id, Route := e6.Light.Route, Block := ({ First := e6.Light.Block.First, Count := w64 (y.1 + 1) } : Block) } : Light) } : Action)) (o := o6) (off := 5) hf H TF.sz3 0 rfl rfl rfl rfl rfl (nle rfl) rfl hA6 he6 (st_own fun F cs h => by obtain ⟨A0, c0, F0, rfl, rfl, l0⟩ := Action_own h; exact Action_ownmk (x := ({ Kind := e6.Kind, Light := ({ Id := e6.Light.Id, Route := e6.Light.Route, Block := ({ First := e6.Light.Block.First, Count := w64 (y.1 + 1) } : Block) } : Light) } : Action)) l0) fun w H => ?_)
   replace hf : Fr a 64 [(0, (.slice A (((((a2.set (i : Int).toNat ({ Kind := k2, Light := e.Light } : Action)).set (i : Int).toNat ({ Kind := e2.Kind, Light := ({ Id := w64 (k2 + 1), Route := e2.Light.Route, Block := e2.Light.Block } : Light) } : Action)).set (i : Int).toNat ({ Kind := e3.Kind, Light := ({ Id := e3.Light.Id, Route := ({ Start := w64 ((w64 (k2 + 1)) + 1), Fibers := e3.Light.Route.Fibers } : Route), Block := e3.Light.Block } : Light) } : Action)).set (i : Int).toNat ({ e4 with Light := { e4.Light with Route := { e4.Light.Route with Fibers := y.2 } } })).set (i : Int).toNat ({ Kind := e5.Kind, Light := ({ Id := e5.Light.Id, Route := e5.Light.Route, Block := ({ First := y.1, Count := e5.Light.Block.Count } : Block) } : Light) } : Action)).length c)), (1, (.int .i64 (w64 (y.1 + 1)))), (5, (.int .i64 i)), (54, (.slice A (((((a2.set (i : Int).toNat ({ Kind := k2, Light := e.Light } : Action)).set (i : Int).toNat ({ Kind := e2.Kind, Light := ({ Id := w64 (k2 + 1), Route := e2.Light.Route, Block := e2.Light.Block } : Light) } : Action)).set (i : Int).toNat ({ Kind := e3.Kind, Light := ({ Id := e3.Light.Id, Route := ({ Start := w64 ((w64 (k2 + 1)) + 1), Fibers := e3.Light.Route.Fibers } : Route), Block := e3.Light.Block } : Light) } : Action)).set (i : Int).toNat ({ e4 with Light := { e4.Light with Route := { e4.Light.Route with Fibers := y.2 } } })).set (i : Int).toNat ({ Kind := e5.Kind, Light := ({ Id := e5.Light.Id, Route := e5.Light.Route, Block := ({ First := y.1, Count := e5.Light.Block.Count } : Block) } : Light) } : Action)).length c)), (55, (.int .i64 i)), (56, (.int .i64 (w64 (y.1 + 1)))), (57, (.pointer (some ⟨p6, o6 + 0, none⟩))), (58, (.pointer (some ⟨p6, o6 + 1, none⟩))), (59, (.pointer (some ⟨p6, o6 + 4, none⟩))), (60, (.pointer (some ⟨p6, o6 + 5, none⟩)))] := hf.prune [0, 1, 5, 54, 55, 56, 57, 58, 59, 60] rfl
   replace hf : Fr a 64 [(0, (.slice A ((((((a2.set (i : Int).toNat ({ Kind := k2, Light := e.Light } : Action)).set (i : Int).toNat ({ Kind := e2.Kind, Light := ({ Id := w64 (k2 + 1), Route := e2.Light.Route, Block := e2.Light.Block } : Light) } : Action)).set (i : Int).toNat ({ Kind := e3.Kind, Light := ({ Id := e3.Light.Id, Route := ({ Start := w64 ((w64 (k2 + 1)) + 1), Fibers := e3.Light.Route.Fibers } : Route), Block := e3.Light.Block } : Light) } : Action)).set (i : Int).toNat ({ e4 with Light := { e4.Light with Route := { e4.Light.Route with Fibers := y.2 } } })).set (i : Int).toNat ({ Kind := e5.Kind, Light := ({ Id := e5.Light.Id, Route := e5.Light.Route, Block := ({ First := y.1, Count := e5.Light.Block.Count } : Block) } : Light) } : Action)).set (i : Int).toNat ({ Kind := e6.Kind, Light := ({ Id := e6.Light.Id, Route := e6.Light.Route, Block := ({ First := e6.Light.Block.First, Count := w64 (y.1 + 1) } : Block) } : Light) } : Action)).length c)), (1, (.int .i64 (w64 (y.1 + 1)))), (5, (.int .i64 i)), (54, (.slice A ((((((a2.set (i : Int).toNat ({ Kind := k2, Light := e.Light } : Action)).set (i : Int).toNat ({ Kind := e2.Kind, Light := ({ Id := w64 (k2 + 1), Route := e2.Light.Route, Block := e2.Light.Block } : Light) } : Action)).set (i : Int).toNat ({ Kind := e3.Kind, Light := ({ Id := e3.Light.Id, Route := ({ Start := w64 ((w64 (k2 + 1)) + 1), Fibers := e3.Light.Route.Fibers } : Route), Block := e3.Light.Block } : Light) } : Action)).set (i : Int).toNat ({ e4 with Light := { e4.Light with Route := { e4.Light.Route with Fibers := y.2 } } })).set (i : Int).toNat ({ Kind := e5.Kind, Light := ({ Id := e5.Light.Id, Route := e5.Light.Route, Block := ({ First := y.1, Count := e5.Light.Block.Count } : Block) } : Light) } : Action)).set (i : Int).toNat ({ Kind := e6.Kind, Light := ({ Id := e6.Light.Id, Route := e6.Light.Route, Block := ({ First := e6.Light.Block.First, Count := w64 (y.1 + 1) } : Block) } : Light) } : Action)).length c)), (55, (.int .i64 i)), (56, (.int .i64 (w64 (y.1 + 1)))), (57, (.pointer (some ⟨p6, o6 + 0, none⟩))), (58, (.pointer (some ⟨p6, o6 + 1, none⟩))), (59, (.pointer (some ⟨p6, o6 + 4, none⟩))), (60, (.pointer (some ⟨p6, o6 + 5, none⟩)))] := by simpa only [List.length_set, Nat.add_zero] using hf
   refine wl_end (then_n (reg (pz 3 hf fun a hf => ?_)))
   refine wl_end (blk_n (then_n (reg (pz 3 hf fun a hf => ?_))))
   refine wl_end ?_
   have hf := hf.pn [0, 1, 5]
   have hf : Fr a 64 [(0, (.slice A a'.length c)), (1, (.int .i64 (w64 ((w64 (y.1 + 1)) + 1)))), (5, (.int .i64 (w64 (i + 1))))] := by first | exact hf | (simp only [List.length_set, hlen] at hf; exact hf)
   have H := H.lt_ [] [true] [] []
   exact then_n ⟨((((((a2.set (i : Int).toNat ({ Kind := k2, Light := e.Light } : Action)).set (i : Int).toNat ({ Kind := e2.Kind, Light := ({ Id := w64 (k2 + 1), Route := e2.Light.Route, Block := e2.Light.Block } : Light) } : Action)).set (i : Int).toNat ({ Kind := e3.Kind, Light := ({ Id := e3.Light.Id, Route := ({ Start := w64 ((w64 (k2 + 1)) + 1), Fibers := e3.Light.Route.Fibers } : Route), Block := e3.Light.Block } : Light) } : Action)).set (i : Int).toNat ({ e4 with Light := { e4.Light with Route := { e4.Light.Route with Fibers := y.2 } } })).set (i : Int).toNat ({ Kind := e5.Kind, Light := ({ Id := e5.Light.Id, Route := e5.Light.Route, Block := ({ First := y.1, Count := e5.Light.Block.Count } : Block) } : Light) } : Action)).set (i : Int).toNat ({ Kind := e6.Kind, Light := ({ Id := e6.Light.Id, Route := e6.Light.Route, Block := ({ First := e6.Light.Block.First, Count := w64 (y.1 + 1) } : Block) } : Light) } : Action), w64 ((w64 (y.1 + 1)) + 1), w64 (i + 1)), hR1, Fs3, (by simp only [List.length_set, hlen]), hf, H⟩
  ·refine wp_exit (then_x (then_x (blk_e (?_))))
   have hf := hf.pn [0, 1, 5]
   have hf : Fr a 64 [(0, (.slice A a'.length c)), (1, (.int .i64 k2)), (5, (.int .i64 i))] := by first | exact hf | (simp only [List.length_set, hlen] at hf; exact hf)
   have H := H.lt_ [] [true] [] []
   exact ⟨(a2, k2, i), (Option.some.inj hR1).symm, Fs2, (by simp only [List.length_set, hlen]), hf, H⟩
 rintro a w ⟨⟨a3, k3, i2⟩, rfl, Fs4, hlen, hf, H⟩
 try dsimp only at hlen
 have hf : Fr a 64 [(0, (.slice A a3.length c)), (1, (.int .i64 k3)), (5, (.int .i64 i2))] := by rw [hlen]; exact hf
 try dsimp only at hF
 refine then_n (sqz (pz 2 hf fun a hf => ?_))
 refine wer ?_
 obtain ⟨F', H⟩ := H.freezeTl 0 rfl
 rw [hlen] at H
 obtain rfl := oi hF
 refine rT hf ?_
 exact ⟨_, rfl, H.chg, mk_int, _, H.ownAt 0 rfl, H.back⟩
theorem laws_markChange_ok {S : Nat → Prop} {F : List Nat} {cs : List Value} {v1_ : Value} {a' : Change} {k' : Int} {r : Int × Change} (hO : GoTy.own w0 F cs a') (hn : F.Nodup) (h1 : VR w0 S v1_ k') (hF : laws_markChange fu a' k' = some r) :
    Calls Tryz.prog 36 [(bif GoTy.agg (Change) then .agg cs.toArray else cs.headD undef), v1_].toArray w0 fun e w' => ∃ v, e = .returned v ∧ (Chg w0 w' F ∧ VR w' (fun _ => True) v r.1 ∧ ∃ F', GoTy.own w' F' cs r.2 ∧ Back w0 w' F F') := by
 obtain rfl := VR_int h1
 obtain ⟨A1, c1, F1, A2, c2, F2, A3, c3, F3, A4, c4, F4, A5, c5, F5, rfl, hFe, l1, l2, l3, l4, l5⟩ := Change_own hO
 have H := Mem.startG S hO hn
 have H := H.recast (X := [(⟨F, MP.own F [(.slice A1 a'.Plan.Network.Nodes.length c1), (.slice A2 a'.Plan.Network.Fibers.length c2), (.slice A3 a'.Plan.Lights.length c3), (.slice A4 a'.Actions.length c4), (.slice A5 a'.Undo.length c5), (.bool a'.Back)] (a' : Change)⟩ : DI)]) (Y := [(⟨F1, MP.own F1 [(.slice A1 a'.Plan.Network.Nodes.length c1)] (a'.Plan.Network.Nodes : List ByteArray)⟩ : DI), (⟨F2, MP.own F2 [(.slice A2 a'.Plan.Network.Fibers.length c2)] (a'.Plan.Network.Fibers : List Fiber)⟩ : DI), (⟨F3, MP.own F3 [(.slice A3 a'.Plan.Lights.length c3)] (a'.Plan.Lights : List Light)⟩ : DI), (⟨F4, MP.own F4 [(.slice A4 a'.Actions.length c4)] (Tl.mk (a'.Actions : List Action))⟩ : DI), (⟨F5, MP.own F5 [(.slice A5 a'.Undo.length c5)] (Tl.mk (a'.Undo : List Action))⟩ : DI)]) (D := []) (List.Perm.of_eq (by simp [hFe])) fun _ => (ps1 l1 (ps1 l2 (ps1 l3 (ps1 l4 (ps1 l5 ps0)))))
 have H := H.lend 0 rfl
 have H := H.lend 1 rfl
 have H := H.lend 2 rfl
 have H := H.lendTl 3 rfl
 have H := H.lendTl 4 rfl
 refine en Tryz.func36 fun a hf => ?_
 rw [laws_markChange] at hF
 refine bx hf H fun b' a w hf H => ?_
 refine pz 1 hf fun a hf => ?_
 refine wr (pz 1 hf fun a hf => ?_)
 refine lN 0 hf H TF.la45 fun a hf => ?_
 refine pz 1 hf fun a hf => ?_
 have H := H.frontD 2 rfl
 have H := H.frontD 2 rfl
 have H := H.frontD 2 rfl
 have H := H.recast (X := [(⟨F1, MP.own F1 [(.slice A1 a'.Plan.Network.Nodes.length c1)] (a'.Plan.Network.Nodes : List ByteArray)⟩ : DI), (⟨F2, MP.own F2 [(.slice A2 a'.Plan.Network.Fibers.length c2)] (a'.Plan.Network.Fibers : List Fiber)⟩ : DI), (⟨F3, MP.own F3 [(.slice A3 a'.Plan.Lights.length c3)] (a'.Plan.Lights : List Light)⟩ : DI)]) (Y := [(⟨(F1 ++ (F2 ++ F3)), MP.own (F1 ++ (F2 ++ F3)) [(.slice A1 a'.Plan.Network.Nodes.length c1), (.slice A2 a'.Plan.Network.Fibers.length c2), (.slice A3 a'.Plan.Lights.length c3)] (a'.Plan : Plan)⟩ : DI)]) (List.Perm.of_eq (by simp)) fun _ => ps1 (Plan_ownmk (x := a'.Plan) (H.ownAt 0 rfl) (H.ownAt 1 rfl) (H.ownAt 2 rfl)) ps0
 obtain ⟨y, hy, hF⟩ := bs_ hF
 refine oc hf TF.cl19 (laws_markPlan_ok (S := TT) (F := (F1 ++ (F2 ++ F3))) (cs := [(.slice A1 a'.Plan.Network.Nodes.length c1), (.slice A2 a'.Plan.Network.Fibers.length c2), (.slice A3 a'.Plan.Lights.length c3)]) (H.ownAt 0 rfl) H.diNd.1 mk_int hy) fun v w a hp hf => ?_
 obtain ⟨hch, hv, F7, ho, hbk⟩ := hp
 obtain rfl := VR_int hv
 have H := H.wrote rfl hch ho hbk
 obtain ⟨F8, F9, F10, hFe, hl, hl2, hl3⟩ := Plan_ownc (H.ownAt 0 rfl)
 have H := H.recast (X := [(⟨F7, MP.own F7 [(.slice A1 a'.Plan.Network.Nodes.length c1), (.slice A2 a'.Plan.Network.Fibers.length c2), (.slice A3 a'.Plan.Lights.length c3)] (y.2 : Plan)⟩ : DI)]) (Y := [(⟨F8, MP.own F8 [(.slice A1 a'.Plan.Network.Nodes.length c1)] (y.2.Network.Nodes : List ByteArray)⟩ : DI), (⟨F9, MP.own F9 [(.slice A2 a'.Plan.Network.Fibers.length c2)] (y.2.Network.Fibers : List Fiber)⟩ : DI), (⟨F10, MP.own F10 [(.slice A3 a'.Plan.Lights.length c3)] (y.2.Lights : List Light)⟩ : DI)]) (List.Perm.of_eq (by simp [hFe])) fun _ => (ps1 hl (ps1 hl2 (ps1 hl3 ps0)))
 have H := H.lend 0 rfl
 have H := H.lend 1 rfl
 have H := H.lend 2 rfl
 have H := H.lendTl 3 rfl
 have H := H.lendTl 4 rfl
 refine pz 1 hf fun a hf => ?_
 refine wr (pz 1 hf fun a hf => ?_)
 refine lB 0 hf H TF.ls67 fun a hf => ?_
 refine pz 1 hf fun a hf => ?_
 have H := H.frontD 3 rfl
 obtain ⟨y2, hy2, hF⟩ := bs_ hF
 refine oc hf TF.cl30 (laws_markActionS_tl (S := TT) (F := F4) (cs := [(.slice A4 a'.Actions.length c4)]) (H.ownAt 0 rfl) H.diNd.1 mk_int hy2) fun v2 w a hp2 hf => ?_
 obtain ⟨hch2, hv2, F11, ho2, hbk2⟩ := hp2
 obtain rfl := VR_int hv2
 have H := H.wrote rfl hch2 ho2 hbk2
 have H := H.lendTl 0 rfl
 have H := H.lend 1 rfl
 have H := H.lend 2 rfl
 have H := H.lend 3 rfl
 have H := H.lendTl 4 rfl
 refine pz 1 hf fun a hf => ?_
 refine wr (pz 1 hf fun a hf => ?_)
 refine lB 0 hf H TF.ls67 fun a hf => ?_
 refine pz 1 hf fun a hf => ?_
 have H := H.frontD 4 rfl
 obtain ⟨y3, hy3, hF⟩ := bs_ hF
 refine oc hf TF.cl30 (laws_markActionS_tl (S := TT) (F := F5) (cs := [(.slice A5 a'.Undo.length c5)]) (H.ownAt 0 rfl) H.diNd.1 mk_int hy3) fun v3 w a hp3 hf => ?_
 obtain ⟨hch3, hv3, F12, ho3, hbk3⟩ := hp3
 obtain rfl := VR_int hv3
 have H := H.wrote rfl hch3 ho3 hbk3
 have H := H.lendTl 0 rfl
 have H := H.lendTl 1 rfl
 have H := H.lend 2 rfl
 have H := H.lend 3 rfl
 have H := H.lend 4 rfl
 refine pz 1 hf fun a hf => ?_
 have hf := hf.pn [1]
 refine wr (pz 2 hf fun a hf => ?_)
 refine wer ?_
 have H := H.frontD 1 rfl
 have H := H.frontD 4 rfl
 have H := H.frontD 4 rfl
 have H := H.frontD 4 rfl
 have H := H.recast (X := [(⟨F8, MP.own F8 [(.slice A1 a'.Plan.Network.Nodes.length c1)] (y.2.Network.Nodes : List ByteArray)⟩ : DI), (⟨F9, MP.own F9 [(.slice A2 a'.Plan.Network.Fibers.length c2)] (y.2.Network.Fibers : List Fiber)⟩ : DI), (⟨F10, MP.own F10 [(.slice A3 a'.Plan.Lights.length c3)] (y.2.Lights : List Light)⟩ : DI), (⟨F11, MP.own F11 [(.slice A4 a'.Actions.length c4)] (Tl.mk (y2.2 : List Action))⟩ : DI), (⟨F12, MP.own F12 [(.slice A5 a'.Undo.length c5)] (Tl.mk (y3.2 : List Action))⟩ : DI)]) (Y := [(⟨(F8 ++ (F9 ++ (F10 ++ (F11 ++ F12)))), MP.own (F8 ++ (F9 ++ (F10 ++ (F11 ++ F12)))) [(.slice A1 a'.Plan.Network.Nodes.length c1), (.slice A2 a'.Plan.Network.Fibers.length c2), (.slice A3 a'.Plan.Lights.length c3), (.slice A4 a'.Actions.length c4), (.slice A5 a'.Undo.length c5), (.bool a'.Back)] (({ Plan := y.2, Actions := y2.2, Undo := y3.2, Back := a'.Back } : Change) : Change)⟩ : DI)]) (List.Perm.of_eq (by simp)) fun _ => ps1 (Change_ownmk (x := ({ Plan := y.2, Actions := y2.2, Undo := y3.2, Back := a'.Back } : Change)) (H.ownAt 0 rfl) (H.ownAt 1 rfl) (H.ownAt 2 rfl) (H.ownAt 3 rfl) (H.ownAt 4 rfl)) ps0
 obtain rfl := oi hF
 refine rT hf ?_
 exact ⟨_, rfl, H.chg, mk_int, _, H.ownAt 0 rfl, H.back⟩
theorem laws_heldActionS_ok {S : Nat → Prop} {v0_ : Value} {v1_ : Value} {a' : List Action} {k' : Int} {r : Int} (h0 : VR w0 S v0_ a') (h1 : VR w0 S v1_ k') (hF : laws_heldActionS fu a' k' = some r) :
    Calls Tryz.prog 90 [v0_, v1_].toArray w0 fun e w' => ∃ v, e = .returned v ∧ (Below w0.heap.size w0 w' ∧ VR w' (St ⟨w0, []⟩ S [] [] [] true) v r) := by
 obtain ⟨A, c, rfl, hl⟩ := VR_list h0
 obtain rfl := VR_int h1
 have H := Mem.start ⟨w0, []⟩ S
 have H := H.pA hl
 refine en Tryz.func90 fun a hf => ?_
 rw [laws_heldActionS] at hF
 refine sqz (pz 1 hf fun a hf => ?_)
 refine we (sqz (pz 1 hf fun a hf => ?_))
 refine wl_end (then_n ?_)
 obtain ⟨out', hB1, hF⟩ := bs_ hF
 have hf := hf.pn [0, 1, 5]
 have H := H.lt_ [] [] [] [0]
 refine loopC (fun (s : Int × Int) (a : Act) (w : World) => match s with | (k2, i) => Fr a 76 [(0, (.slice A a'.length c)), (1, (.int .i64 k2)), (5, (.int .i64 i))] ∧ Mem ⟨w0, []⟩ S [] [] [] [(false, MP.val [(.slice A a'.length c)] (a' : List Action))] w) (fun k (s : Int × Int) => laws_heldActionS_L1 fu a' k s.1 s.2 = some out') (fun s => out' = Out.next s) (k', 0) fu hB1 ⟨hf, H⟩ (fun s h => by cases h) ?_ ?_
 ·rintro fk ⟨k2, i⟩ a w hR1 hI
  replace hR1 : laws_heldActionS_L1 fu a' (fk + 1) k2 i = some out' := hR1
  rw [laws_heldActionS_L1] at hR1
  obtain ⟨hf, H⟩ := hI
  refine sq (sqz (pz 4 hf fun a hf => ?_))
  refine wl_end (then_n (ib hR1 hf (fun hc hR1 => ?_) fun hc hR1 => ?_))
  ·refine wp_skip (then_n (sq (wp_block (sq (sqz (pz 2 hf fun a hf => ?_))))))
   obtain ⟨e, he, hR1⟩ := bs_ hR1
   refine wl0 rfl (op_iaddr hf H Tryz.underlying67 TF.sz54 0 rfl rfl rfl he (by decide) fun p o cs a hf hr H => ?_)
   obtain ⟨A2, c2, rfl, hl2⟩ := Action_cells hr
   have H := H.pF hl2
   refine pz 1 hf fun a hf => ?_
   refine oq hf (rq_loadI hf H TF.ls3 1 0 rfl rfl rfl) fun a hf => ?_
   refine pz 2 hf fun a hf => ?_
   refine wl_end (then_n (ib hR1 hf (fun hc2 hR1 => ?_) fun hc2 hR1 => ?_))
   ·refine sqz (pz 1 hf fun a hf => ?_)
    have hf := hf.pn [4]
    refine wl_end (then_n (wp_ret (then_r (blk_r (then_r (then_r (blk_r (then_r (then_r (?_))))))))))
    obtain rfl := oi hR1
    replace hF := on_ret hF
    obtain rfl := oi hF
    refine rT hf ?_
    exact ⟨_, rfl, H.bel, mk_int⟩
   ·refine wp_skip (then_n (sqz (pz 3 hf fun a hf => ?_)))
    have hf := hf.pn [0, 1, 5]
    refine we (sqz (pz 2 hf fun a hf => ?_))
    obtain ⟨e2, he2, hR1⟩ := bs_ hR1
    refine wl0 rfl (op_iaddr hf H Tryz.underlying67 TF.sz54 2 rfl rfl rfl he2 (by decide) fun p2 o2 cs2 a hf hr2 H => ?_)
    obtain ⟨A3, c3, rfl, hl3⟩ := Action_cells hr2
    have H := H.pF hl3
    refine pz 2 hf fun a hf => ?_
    refine oq hf (rq_loadI hf H TF.ls3 1 1 rfl rfl rfl) fun a hf => ?_
    refine pz 2 hf fun a hf => ?_
    refine wl_end (then_n (ib hR1 hf (fun hc3 hR1 => ?_) fun hc3 hR1 => ?_))
    ·refine sqz (pz 1 hf fun a hf => ?_)
     refine wl_end (then_n (wp_ret (then_r (blk_r (then_r (then_r (blk_r (then_r (then_r (?_))))))))))
     obtain rfl := oi hR1
     replace hF := on_ret hF
     obtain rfl := oi hF
     refine rT hf ?_
     exact ⟨_, rfl, H.bel, mk_int⟩
    ·refine wp_skip (then_n (sqz (pz 3 hf fun a hf => ?_)))
     refine we (sqz (pz 2 hf fun a hf => ?_))
     obtain ⟨e3, he3, hR1⟩ := bs_ hR1
     refine wl0 rfl (op_iaddr hf H Tryz.underlying67 TF.sz54 4 rfl rfl rfl he3 (by decide) fun p3 o3 cs3 a hf hr3 H => ?_)
     obtain ⟨A4, c4, rfl, hl4⟩ := Action_cells hr3
     have H := H.pF hl4
     refine pz 3 hf fun a hf => ?_
     refine oq hf (rq_loadI hf H TF.ls3 1 2 rfl rfl rfl) fun a hf => ?_
     refine pz 2 hf fun a hf => ?_
     have hf := hf.pn [0, 1, 5, 39]
     refine wl_end (then_n (ib hR1 hf (fun hc4 hR1 => ?_) fun hc4 hR1 => ?_))
     ·refine sqz (pz 1 hf fun a hf => ?_)
      refine wl_end (then_n (wp_ret (then_r (blk_r (then_r (then_r (blk_r (then_r (then_r (?_))))))))))
      obtain rfl := oi hR1
      replace hF := on_ret hF
      obtain rfl := oi hF
      refine rT hf ?_
      exact ⟨_, rfl, H.bel, mk_int⟩
     ·refine wp_skip (then_n (sqz (pz 3 hf fun a hf => ?_)))
      refine wr (pz 2 hf fun a hf => ?_)
      obtain ⟨e4, he4, hR1⟩ := bs_ hR1
      refine wl0 rfl (op_iaddr hf H Tryz.underlying67 TF.sz54 6 rfl rfl rfl he4 (by decide) fun p4 o4 cs4 a hf hr4 H => ?_)
      obtain ⟨A5, c5, rfl, hl5⟩ := Action_cells hr4
      have H := H.pF hl5
      refine pz 3 hf fun a hf => ?_
      refine oq hf (rq_loadI hf H TF.ls29 1 3 rfl rfl rfl) fun a hf => ?_
      refine pz 1 hf fun a hf => ?_
      obtain ⟨y, hy, hR1⟩ := bs_ hR1
      refine oc hf TF.cl139 (laws_heldIntS_ok (S := TT) (mk_list (H.rt 0 rfl)) mk_int hy) fun v w a hp hf => ?_
      obtain ⟨hb, hp⟩ := hp
      obtain rfl := VR_int hp
      have H := H.keep hb
      refine pz 1 hf fun a hf => ?_
      refine we (sqz (pz 2 hf fun a hf => ?_))
      have hf := hf.pn [0, 1, 5, 52]
      refine wl_end (then_n (ib hR1 hf (fun hc5 hR1 => ?_) fun hc5 hR1 => ?_))
      ·refine sqz (pz 1 hf fun a hf => ?_)
       refine wl_end (then_n (wp_ret (then_r (blk_r (then_r (then_r (blk_r (then_r (then_r (?_))))))))))
       obtain rfl := oi hR1
       replace hF := on_ret hF
       obtain rfl := oi hF
       refine rT hf ?_
       exact ⟨_, rfl, H.bel, mk_int⟩
      ·refine wp_skip (then_n (sq (sqz (pz 2 hf fun a hf => ?_))))
       obtain ⟨e5, he5, hR1⟩ := bs_ hR1
       refine wl0 rfl (op_iaddr hf H Tryz.underlying67 TF.sz54 8 rfl rfl rfl he5 (by decide) fun p5 o5 cs5 a hf hr5 H => ?_)
       obtain ⟨A6, c6, rfl, hl6⟩ := Action_cells hr5
       have H := H.pF hl6
       refine pz 3 hf fun a hf => ?_
       refine oq hf (rq_loadI hf H TF.ls3 1 4 rfl rfl rfl) fun a hf => ?_
       refine pz 2 hf fun a hf => ?_
       refine wl_end (then_n (ib hR1 hf (fun hc6 hR1 => ?_) fun hc6 hR1 => ?_))
       ·refine sqz (pz 1 hf fun a hf => ?_)
        have hf := hf.pn [4]
        refine wl_end (then_n (wp_ret (then_r (blk_r (then_r (then_r (blk_r (then_r (then_r (?_))))))))))
        obtain rfl := oi hR1
        replace hF := on_ret hF
        obtain rfl := oi hF
        refine rT hf ?_
        exact ⟨_, rfl, H.bel, mk_int⟩
       ·refine wp_skip (then_n (sqz (pz 3 hf fun a hf => ?_)))
        refine we (sqz (pz 2 hf fun a hf => ?_))
        obtain ⟨e6, he6, hR1⟩ := bs_ hR1
        refine wl0 rfl (op_iaddr hf H Tryz.underlying67 TF.sz54 10 rfl rfl rfl he6 (by decide) fun p6 o6 cs6 a hf hr6 H => ?_)
        obtain ⟨A7, c7, rfl, hl7⟩ := Action_cells hr6
        have H := H.pF hl7
        refine pz 3 hf fun a hf => ?_
        refine oq hf (rq_loadI hf H TF.ls3 1 5 rfl rfl rfl) fun a hf => ?_
        refine pz 2 hf fun a hf => ?_
        have hf := hf.pn [0, 1, 5, 72]
        refine wl_end (then_n (ib hR1 hf (fun hc7 hR1 => ?_) fun hc7 hR1 => ?_))
        ·refine sqz (pz 1 hf fun a hf => ?_)
         refine wl_end (then_n (wp_ret (then_r (blk_r (then_r (then_r (blk_r (then_r (then_r (?_))))))))))
         obtain rfl := oi hR1
         replace hF := on_ret hF
         obtain rfl := oi hF
         refine rT hf ?_
         exact ⟨_, rfl, H.bel, mk_int⟩
        ·refine wp_skip (then_n (reg (pz 3 hf fun a hf => ?_)))
         refine wl_end (blk_n (then_n (reg (pz 3 hf fun a hf => ?_))))
         refine wl_end ?_
         have hf := hf.pn [0, 1, 5]
         have H := H.lt_ [] [] [] [12]
         exact then_n ⟨(w64 ((w64 (y + 1)) + 1), w64 (i + 1)), hR1, hf, H⟩
  ·refine wp_exit (then_x (then_x (blk_e (?_))))
   have hf := hf.pn [0, 1, 5]
   have H := H.lt_ [] [] [] [0]
   exact ⟨(k2, i), (Option.some.inj hR1).symm, hf, H⟩
 rintro a w ⟨⟨k3, i2⟩, rfl, hf, H⟩
 replace hF := on_next hF
 try dsimp only at hF
 refine then_n (sqz (pz 2 hf fun a hf => ?_))
 refine wer ?_
 obtain rfl := oi hF
 refine rT hf ?_
 exact ⟨_, rfl, H.bel, mk_int⟩
theorem laws_heldChange_ok {S : Nat → Prop} {v0_ : Value} {v1_ : Value} {a' : Change} {k' : Int} {r : Int} (h0 : VR w0 S v0_ a') (h1 : VR w0 S v1_ k') (hF : laws_heldChange fu a' k' = some r) :
    Calls Tryz.prog 37 [v0_, v1_].toArray w0 fun e w' => ∃ v, e = .returned v ∧ (Below w0.heap.size w0 w' ∧ VR w' (St ⟨w0, []⟩ S [] [] [] true) v r) := by
 obtain ⟨A, c, A2, c2, A3, c3, A4, c4, A5, c5, rfl, hl, hl2, hl3, hl4, hl5⟩ := Change_open h0
 obtain rfl := VR_int h1
 have H := Mem.start ⟨w0, []⟩ S
 have H := H.pA hl
 have H := H.pA hl2
 have H := H.pA hl3
 have H := H.pA hl4
 have H := H.pA hl5
 refine en Tryz.func37 fun a hf => ?_
 rw [laws_heldChange] at hF
 refine bx hf H fun b' a w hf H => ?_
 refine pz 1 hf fun a hf => ?_
 refine wr (pz 1 hf fun a hf => ?_)
 refine lN 0 hf H TF.la45 fun a hf => ?_
 refine pz 1 hf fun a hf => ?_
 obtain ⟨y, hy, hF⟩ := bs_ hF
 refine oc hf TF.cl21 (laws_heldPlan_ok (S := TT) (Plan_mkv (x := a'.Plan) (H.rt 4 rfl) (H.rt 3 rfl) (H.rt 2 rfl)) mk_int hy) fun v w a hp hf => ?_
 obtain ⟨hb, hp⟩ := hp
 obtain rfl := VR_int hp
 have H := H.keep hb
 refine pz 1 hf fun a hf => ?_
 refine we (sqz (pz 2 hf fun a hf => ?_))
 refine wl_end (then_n (ib hF hf (fun hc hF => ?_) fun hc hF => ?_))
 ·refine sqz (pz 1 hf fun a hf => ?_)
  refine wl_end (then_n (wp_ret (then_r (?_))))
  obtain rfl := oi hF
  refine rT hf ?_
  exact ⟨_, rfl, H.bel, mk_int⟩
 ·refine wp_skip (then_n (sqz (pz 1 hf fun a hf => ?_)))
  refine lB 0 hf H TF.ls67 fun a hf => ?_
  refine pz 1 hf fun a hf => ?_
  obtain ⟨y2, hy2, hF⟩ := bs_ hF
  refine oc hf TF.cl90 (laws_heldActionS_ok (S := TT) (mk_list (H.rt 1 rfl)) mk_int hy2) fun v2 w a hp2 hf => ?_
  obtain ⟨hb2, hp2⟩ := hp2
  obtain rfl := VR_int hp2
  have H := H.keep hb2
  refine pz 1 hf fun a hf => ?_
  refine we (sqz (pz 2 hf fun a hf => ?_))
  have hf := hf.pn [1, 2, 16]
  refine wl_end (then_n (ib hF hf (fun hc2 hF => ?_) fun hc2 hF => ?_))
  ·refine sqz (pz 1 hf fun a hf => ?_)
   refine wl_end (then_n (wp_ret (then_r (?_))))
   obtain rfl := oi hF
   refine rT hf ?_
   exact ⟨_, rfl, H.bel, mk_int⟩
  ·refine wp_skip (then_n (sqz (pz 1 hf fun a hf => ?_)))
   refine lB 0 hf H TF.ls67 fun a hf => ?_
   refine pz 1 hf fun a hf => ?_
   obtain ⟨y3, hy3, hF⟩ := bs_ hF
   refine oc hf TF.cl90 (laws_heldActionS_ok (S := TT) (mk_list (H.rt 0 rfl)) mk_int hy3) fun v3 w a hp3 hf => ?_
   obtain ⟨hb3, hp3⟩ := hp3
   obtain rfl := VR_int hp3
   have H := H.keep hb3
   refine pz 1 hf fun a hf => ?_
   refine we (sqz (pz 2 hf fun a hf => ?_))
   refine wl_end (then_n (ib hF hf (fun hc3 hF => ?_) fun hc3 hF => ?_))
   ·refine sqz (pz 1 hf fun a hf => ?_)
    refine wl_end (then_n (wp_ret (then_r (?_))))
    obtain rfl := oi hF
    refine rT hf ?_
    exact ⟨_, rfl, H.bel, mk_int⟩
   ·refine wp_skip (then_n (sqz (pz 2 hf fun a hf => ?_)))
    refine wer ?_
    obtain rfl := oi hF
    refine rT hf ?_
    exact ⟨_, rfl, H.bel, mk_int⟩
end AT
