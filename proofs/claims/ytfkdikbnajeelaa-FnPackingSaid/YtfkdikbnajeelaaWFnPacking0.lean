/- The Go functions do what is told of them, by program (gen.py). -/
import Derived.Test.YtfkdikbnajeelaaT
import Derived.Test.YtfkdikbnajeelaaK
set_option linter.unusedVariables false
set_option linter.unusedSimpArgs false
set_option maxRecDepth 100000
set_option maxHeartbeats 1000000
namespace AT
open Go Go.RowKit Go.Proofs
variable {fu : Nat} {w0 : World}
theorem laws_vBig_ok {S : Nat → Prop} {v0_ : Value} {code : List By} {r : Bool} (h0 : VR w0 S v0_ code) (hF : laws_vBig fu code = some r) :
    Calls Try.prog 4 [v0_].toArray w0 fun e w' => ∃ v, e = .returned v ∧ (Below w0.heap.size w0 w' ∧ VR w' (St ⟨w0, []⟩ S [] [] [] true) v r) := by
 obtain ⟨A, c, rfl, hl⟩ := VR_list h0
 have H := Mem.start ⟨w0, []⟩ S
 have H := H.pA hl
 refine en Try.func4 fun a hf => ?_
 rw [laws_vBig] at hF
 refine sqz (pz 1 hf fun a hf => ?_)
 refine wr (pz 4 hf fun a hf => ?_)
 refine wer ?_
 obtain rfl := oi hF
 refine rT hf ?_
 exact ⟨_, rfl, H.bel, mk_bool⟩
theorem spec_l1Cur_next_ok {S : Nat → Prop} {b0 : Nat} {cs0 : List Value} {c : L1CurP} {r : Int × L1CurP} (hp0 : w0.heap[b0]? = some (.cells cs0.toArray 36 (0, 0))) (hr0 : GoTy.rep w0 S cs0 c) (hS0 : ¬ S b0) (hF : spec_l1Cur_next fu c = some r) :
    Calls Try.prog 28 [(.pointer (some ⟨b0, 0, none⟩))].toArray w0 fun e w' => ∃ v, e = .returned v ∧ (Chg w0 w' [b0] ∧ ∃ cs', w'.heap[b0]? = some (.cells cs'.toArray 36 (0, 0)) ∧ GoTy.rep w' (St ⟨w0, [b0]⟩ S [⟨b0, 36, cs'⟩] [] [] false) cs' r.2 ∧ (cs'[0]? = cs0[0]? ∧ r.2.code = c.code) ∧ VR w' (St ⟨w0, [b0]⟩ S [⟨b0, 36, cs'⟩] [] [] true) v r.1) := by
 obtain ⟨A, c2, rfl, hl⟩ := L1CurP_cells hr0
 have H := Mem.startB S hp0
 have H := H.pB hS0 hl
 refine en Try.func28 fun a hf => ?_
 rw [spec_l1Cur_next] at hF
 refine sqz (pz 1 hf fun a hf => ?_)
 refine wr (pz 1 hf fun a hf => ?_)
 refine wl_end (then_n (sq (sq (dw [] 10 fun w hb => ?_))))
 have H := H.keep hb
 refine zp 0 hf trivial fun a hf => ?_
 refine zp 1 hf trivial fun a hf => ?_
 refine zp 2 hf trivial fun a hf => ?_
 refine strT (H.lt_ [true] [] [] []) (fun w H => trivial) fun hS => ?_
 refine zS 3 [] rfl rfl rfl rfl hf hS (fun w H => rq_loadB hf H TF.ls3 0 rfl rfl rfl) fun a hf => ?_
 refine zp 4 hf hS fun a hf => ?_
 refine zp 5 hf hS fun a hf => ?_
 refine zp 6 hf hS fun a hf => ?_
 refine zS 7 [] rfl rfl rfl rfl hf hS (fun w H => rq_loadB hf H TF.ls22 0 rfl rfl rfl) fun a hf => ?_
 refine zp 8 hf hS fun a hf => ?_
 refine zp 9 hf hS fun a hf => ?_
 refine dk ?_
 refine then_n (ib hF hf (fun hc hF => ?_) fun hc hF => ?_)
 ·refine dw [] 12 fun w hb => ?_
  have H := H.keep hb
  refine zp 0 hf trivial fun a hf => ?_
  refine zp 1 hf trivial fun a hf => ?_
  refine zp 2 hf trivial fun a hf => ?_
  refine strT (H.lt_ [true] [] [] []) (fun w H => trivial) fun hS => ?_
  refine zS 3 [] rfl rfl rfl rfl hf hS (fun w H => rq_loadB hf H TF.ls22 0 rfl rfl rfl) fun a hf => ?_
  refine zp 4 hf hS fun a hf => ?_
  refine zp 5 hf hS fun a hf => ?_
  refine zp 6 hf hS fun a hf => ?_
  refine zS 7 [] rfl rfl rfl rfl hf hS (fun w H => rq_loadB hf H TF.ls3 0 rfl rfl rfl) fun a hf => ?_
  obtain ⟨e, he, hF⟩ := bs_ hF
  obtain ⟨p, o2, cs2, hx, hr2, H⟩ := pre_iaddr H Try.underlying22 TF.sz5 0 rfl he
  refine zP 8 rfl rfl rfl rfl hf hS (fun w => rq_iaddrE hf rfl rfl rfl hx w) fun a hf => ?_
  obtain rfl := hr2
  refine strT (H.lt_ [true] [] [] [0]) (fun w H => H.lt_ [true] [] [] []) fun hS => ?_
  refine zS 9 [] rfl rfl rfl rfl hf hS (fun w H => rq_loadI hf H TF.ls5 0 0 rfl rfl rfl) fun a hf => ?_
  refine nn 10 rfl (op_q hf (rq_conv i64w Try.underlying5 Try.underlying3 hf rfl) rfl (by decide) fun a hf => ?_)
  have hS := H.lt_ [true] [] [] [0]
  refine aS hS ?_
  refine zp 11 hf hS fun a hf => ?_
  refine dk ?_
  have hf := hf.pn [0, 3]
  refine then_n (sqz (pz 3 hf fun a hf => ?_))
  refine lB 0 hf H TF.ls3 fun a hf => ?_
  refine pz 3 hf fun a hf => ?_
  refine sB 0 hf H TF.sz3 fun w H => ?_
  refine wr (pz 4 hf fun a hf => ?_)
  refine lB 0 hf H TF.ls34 fun a hf => ?_
  refine oq hf (rq_mulK u64w hf rfl rfl) fun a hf => ?_
  refine pz 1 hf fun a hf => ?_
  refine oq hf (rq_conv u64w Try.underlying3 Try.underlying34 hf rfl) fun a hf => ?_
  refine oq hf (rq_addK u64w hf rfl rfl) fun a hf => ?_
  refine oq hf (rq_addK u64w hf rfl rfl) fun a hf => ?_
  refine pz 2 hf fun a hf => ?_
  refine sB 0 hf H TF.sz34 fun w H => ?_
  have hf := hf.pn [0, 3]
  refine wl_end (then_n (sq (sq (dw [] 10 fun w hb => ?_))))
  have H := H.keep hb
  refine zp 0 hf trivial fun a hf => ?_
  refine zp 1 hf trivial fun a hf => ?_
  refine zp 2 hf trivial fun a hf => ?_
  refine strT (H.lt_ [true] [] [] []) (fun w H => trivial) fun hS => ?_
  refine zS 3 [] rfl rfl rfl rfl hf hS (fun w H => rq_loadB hf H TF.ls3 0 rfl rfl rfl) fun a hf => ?_
  refine zp 4 hf hS fun a hf => ?_
  refine zp 5 hf hS fun a hf => ?_
  refine zp 6 hf hS fun a hf => ?_
  refine zS 7 [] rfl rfl rfl rfl hf hS (fun w H => rq_loadB hf H TF.ls22 0 rfl rfl rfl) fun a hf => ?_
  refine zp 8 hf hS fun a hf => ?_
  refine zp 9 hf hS fun a hf => ?_
  refine dk ?_
  refine then_n (ib hF hf (fun hc2 hF => ?_) fun hc2 hF => ?_)
  ·refine sqz (pz 2 hf fun a hf => ?_)
   have hf := hf.pn [2]
   refine wl_end (then_n (wp_ret (then_r (?_))))
   obtain rfl := oi hF
   refine rT hf ?_
   exact ⟨_, rfl, H.chg, _, H.boxAt 0 rfl, (L1CurP_mk (x := ({ code := c.code, at_ := w64 (c.at_ + 1), seed := (⟨wu64 ((wu64 ((wu64 (c.seed.n * 6364136223846793005)) + (wu64 (w64 e.n)))) + 897897)⟩ : U64) } : L1CurP)) (eB 0 (H.get 1 rfl))), ⟨rfl, rfl⟩, mk_int⟩
  ·refine wp_skip (then_n (sqz (pz 3 hf fun a hf => ?_)))
   refine lB 0 hf H TF.ls34 fun a hf => ?_
   obtain ⟨q, hq, hF⟩ := bs_ hF
   refine oq hf (rq_shrK rfl hf rfl rfl hq) fun a hf => ?_
   refine oq hf (rq_andu64 hf rfl rfl) fun a hf => ?_
   refine oq hf (rq_conv i64w Try.underlying34 Try.underlying3 hf rfl) fun a hf => ?_
   refine pz 1 hf fun a hf => ?_
   have hf := hf.pn [2]
   refine wer ?_
   obtain rfl := oi hF
   refine rT hf ?_
   exact ⟨_, rfl, H.chg, _, H.boxAt 0 rfl, (L1CurP_mk (x := ({ code := c.code, at_ := w64 (c.at_ + 1), seed := (⟨wu64 ((wu64 ((wu64 (c.seed.n * 6364136223846793005)) + (wu64 (w64 e.n)))) + 897897)⟩ : U64) } : L1CurP)) (eB 0 (H.get 1 rfl))), ⟨rfl, rfl⟩, mk_int⟩
 ·refine wp_skip (then_n (sqz (pz 3 hf fun a hf => ?_)))
  refine lB 0 hf H TF.ls3 fun a hf => ?_
  refine pz 3 hf fun a hf => ?_
  refine sB 0 hf H TF.sz3 fun w H => ?_
  have hf := hf.pn [0, 3]
  refine wr (pz 4 hf fun a hf => ?_)
  refine lB 0 hf H TF.ls34 fun a hf => ?_
  refine oq hf (rq_mulK u64w hf rfl rfl) fun a hf => ?_
  refine pz 1 hf fun a hf => ?_
  refine oq hf (rq_conv u64w Try.underlying3 Try.underlying34 hf rfl) fun a hf => ?_
  refine oq hf (rq_addK u64w hf rfl rfl) fun a hf => ?_
  refine oq hf (rq_addK u64w hf rfl rfl) fun a hf => ?_
  refine pz 2 hf fun a hf => ?_
  refine sB 0 hf H TF.sz34 fun w H => ?_
  refine wl_end (then_n (sq (sq (dw [] 10 fun w hb => ?_))))
  have H := H.keep hb
  refine zp 0 hf trivial fun a hf => ?_
  refine zp 1 hf trivial fun a hf => ?_
  refine zp 2 hf trivial fun a hf => ?_
  refine strT (H.lt_ [true] [] [] []) (fun w H => trivial) fun hS => ?_
  refine zS 3 [] rfl rfl rfl rfl hf hS (fun w H => rq_loadB hf H TF.ls3 0 rfl rfl rfl) fun a hf => ?_
  refine zp 4 hf hS fun a hf => ?_
  refine zp 5 hf hS fun a hf => ?_
  refine zp 6 hf hS fun a hf => ?_
  refine zS 7 [] rfl rfl rfl rfl hf hS (fun w H => rq_loadB hf H TF.ls22 0 rfl rfl rfl) fun a hf => ?_
  refine zp 8 hf hS fun a hf => ?_
  refine zp 9 hf hS fun a hf => ?_
  refine dk ?_
  have hf := hf.pn [0, 3, 53]
  refine then_n (ib hF hf (fun hc3 hF => ?_) fun hc3 hF => ?_)
  ·refine sqz (pz 2 hf fun a hf => ?_)
   refine wl_end (then_n (wp_ret (then_r (?_))))
   obtain rfl := oi hF
   refine rT hf ?_
   exact ⟨_, rfl, H.chg, _, H.boxAt 0 rfl, (L1CurP_mk (x := ({ code := c.code, at_ := w64 (c.at_ + 1), seed := (⟨wu64 ((wu64 ((wu64 (c.seed.n * 6364136223846793005)) + (wu64 0))) + 897897)⟩ : U64) } : L1CurP)) (eB 0 (H.get 0 rfl))), ⟨rfl, rfl⟩, mk_int⟩
  ·refine wp_skip (then_n (sqz (pz 3 hf fun a hf => ?_)))
   refine lB 0 hf H TF.ls34 fun a hf => ?_
   obtain ⟨q2, hq2, hF⟩ := bs_ hF
   refine oq hf (rq_shrK rfl hf rfl rfl hq2) fun a hf => ?_
   refine oq hf (rq_andu64 hf rfl rfl) fun a hf => ?_
   refine oq hf (rq_conv i64w Try.underlying34 Try.underlying3 hf rfl) fun a hf => ?_
   refine pz 1 hf fun a hf => ?_
   refine wer ?_
   obtain rfl := oi hF
   refine rT hf ?_
   exact ⟨_, rfl, H.chg, _, H.boxAt 0 rfl, (L1CurP_mk (x := ({ code := c.code, at_ := w64 (c.at_ + 1), seed := (⟨wu64 ((wu64 ((wu64 (c.seed.n * 6364136223846793005)) + (wu64 0))) + 897897)⟩ : U64) } : L1CurP)) (eB 0 (H.get 0 rfl))), ⟨rfl, rfl⟩, mk_int⟩
theorem spec_l1Cur_pick_ok {S : Nat → Prop} {b0 : Nat} {cs0 : List Value} {v1_ : Value} {c : L1CurP} {n' : Int} {r : Int × L1CurP} (hp0 : w0.heap[b0]? = some (.cells cs0.toArray 36 (0, 0))) (hr0 : GoTy.rep w0 S cs0 c) (hS0 : ¬ S b0) (h1 : VR w0 S v1_ n') (hF : spec_l1Cur_pick fu c n' = some r) :
    Calls Try.prog 13 [(.pointer (some ⟨b0, 0, none⟩)), v1_].toArray w0 fun e w' => ∃ v, e = .returned v ∧ (Chg w0 w' [b0] ∧ ∃ cs', w'.heap[b0]? = some (.cells cs'.toArray 36 (0, 0)) ∧ GoTy.rep w' (St ⟨w0, [b0]⟩ S [⟨b0, 36, cs'⟩] [] [] false) cs' r.2 ∧ (cs'[0]? = cs0[0]? ∧ r.2.code = c.code) ∧ VR w' (St ⟨w0, [b0]⟩ S [⟨b0, 36, cs'⟩] [] [] true) v r.1) := by
 obtain ⟨A, c2, rfl, hl⟩ := L1CurP_cells hr0
 obtain rfl := VR_int h1
 have H := Mem.startB S hp0
 have H := H.pB hS0 hl
 refine en Try.func13 fun a hf => ?_
 rw [spec_l1Cur_pick] at hF
 refine sqz (pz 1 hf fun a hf => ?_)
 refine we (sqz (pz 2 hf fun a hf => ?_))
 refine wl_end (then_n (ib hF hf (fun hc hF => ?_) fun hc hF => ?_))
 ·refine sqz (pz 1 hf fun a hf => ?_)
  refine wl_end (then_n (wp_ret (then_r (?_))))
  obtain rfl := oi hF
  refine rT hf ?_
  exact ⟨_, rfl, H.chg, _, H.boxAt 0 rfl, (L1CurP_mk (x := c) (eB 0 (H.get 0 rfl))), ⟨rfl, rfl⟩, mk_int⟩
 ·refine wp_skip (then_n (sqz (pz 1 hf fun a hf => ?_)))
  obtain ⟨y, hy, hF⟩ := bs_ hF
  refine oc hf TF.cl28 (spec_l1Cur_next_ok (S := NB b0) (H.boxAt 0 rfl) ((L1CurP_mk (x := c) (H.nb 0 rfl (H.get 0 rfl)))) (fun h => h rfl) hy) fun v w a hp3 hf => ?_
  obtain ⟨hch, cs3, hbx, hr3, ⟨hx, hx2⟩, hs⟩ := hp3
  obtain rfl := VR_int hs
  obtain ⟨A2, c3, rfl, hl2⟩ := L1CurP_cells hr3
  obtain ⟨rfl, rfl⟩ := fx_slice hx rfl rfl
  have H := H.wroteBox 0 rfl hch hbx
  have H := H.pX 0 rfl hx2
  refine pz 1 hf fun a hf => ?_
  refine we (sqz (pz 2 hf fun a hf => ?_))
  refine wl_end (then_n (ib hF hf (fun hc2 hF => ?_) fun hc2 hF => ?_))
  ·refine reg (pz 3 hf fun a hf => ?_)
   obtain ⟨y2, hy2, hF⟩ := bs_ hF
   refine oc hf TF.cl28 (spec_l1Cur_next_ok (S := NB b0) (H.boxAt 0 rfl) ((L1CurP_mk (x := y.2) (H.nb 0 rfl (H.get 0 rfl)))) (fun h => h rfl) hy2) fun v2 w a hp4 hf => ?_
   obtain ⟨hch2, cs4, hbx2, hr4, ⟨hx3, hx4⟩, hs2⟩ := hp4
   obtain rfl := VR_int hs2
   obtain ⟨A3, c4, rfl, hl3⟩ := L1CurP_cells hr4
   obtain ⟨rfl, rfl⟩ := fx_slice hx3 rfl rfl
   have hx5 := hx4.trans hx2
   have H := H.wroteBox 0 rfl hch2 hbx2
   have H := H.pX 0 rfl hx4
   refine pz 2 hf fun a hf => ?_
   have hf := hf.pn [1, 5]
   refine wr (pz 2 hf fun a hf => ?_)
   obtain ⟨q, hq, hF⟩ := bs_ hF
   refine oq hf (rq_rem hf rfl rfl hq) fun a hf => ?_
   refine pz 1 hf fun a hf => ?_
   refine wer ?_
   obtain rfl := oi hF
   refine rT hf ?_
   exact ⟨_, rfl, H.chg, _, H.boxAt 0 rfl, (L1CurP_mk (x := y2.2) (eB 0 (H.get 0 rfl))), ⟨fxc hx5, hx5⟩, mk_int⟩
  ·refine wp_skip (then_n (sqz (pz 2 hf fun a hf => ?_)))
   obtain ⟨q2, hq2, hF⟩ := bs_ hF
   refine oq hf (rq_rem hf rfl rfl hq2) fun a hf => ?_
   refine pz 1 hf fun a hf => ?_
   refine wer ?_
   obtain rfl := oi hF
   refine rT hf ?_
   exact ⟨_, rfl, H.chg, _, H.boxAt 0 rfl, (L1CurP_mk (x := y.2) (eB 0 (H.get 0 rfl))), ⟨fxc hx2, hx2⟩, mk_int⟩
theorem spec_l1Cur_among_ok {S : Nat → Prop} {b0 : Nat} {cs0 : List Value} {v1_ : Value} {c : L1CurP} {list : List Int} {r : Int × L1CurP} (hp0 : w0.heap[b0]? = some (.cells cs0.toArray 36 (0, 0))) (hr0 : GoTy.rep w0 S cs0 c) (hS0 : ¬ S b0) (h1 : VR w0 S v1_ list) (hF : spec_l1Cur_among fu c list = some r) :
    Calls Try.prog 14 [(.pointer (some ⟨b0, 0, none⟩)), v1_].toArray w0 fun e w' => ∃ v, e = .returned v ∧ (Chg w0 w' [b0] ∧ ∃ cs', w'.heap[b0]? = some (.cells cs'.toArray 36 (0, 0)) ∧ GoTy.rep w' (St ⟨w0, [b0]⟩ S [⟨b0, 36, cs'⟩] [] [] false) cs' r.2 ∧ (cs'[0]? = cs0[0]? ∧ r.2.code = c.code) ∧ VR w' (St ⟨w0, [b0]⟩ S [⟨b0, 36, cs'⟩] [] [] true) v r.1) := by
 obtain ⟨A, c2, rfl, hl⟩ := L1CurP_cells hr0
 obtain ⟨A2, c3, rfl, hl2⟩ := VR_list h1
 have H := Mem.startB S hp0
 have H := H.pB hS0 hl
 have H := H.pB hS0 hl2
 refine en Try.func14 fun a hf => ?_
 rw [spec_l1Cur_among] at hF
 refine sqz (pz 1 hf fun a hf => ?_)
 refine wr (pz 4 hf fun a hf => ?_)
 obtain ⟨y, hy, hF⟩ := bs_ hF
 refine oc hf TF.cl13 (spec_l1Cur_pick_ok (S := NB b0) (H.boxAt 0 rfl) ((L1CurP_mk (x := c) (H.nb 0 rfl (H.get 1 rfl)))) (fun h => h rfl) mk_int hy) fun v w a hp3 hf => ?_
 obtain ⟨hch, cs3, hbx, hr3, ⟨hx, hx2⟩, hs⟩ := hp3
 obtain rfl := VR_int hs
 obtain ⟨A3, c4, rfl, hl3⟩ := L1CurP_cells hr3
 obtain ⟨rfl, rfl⟩ := fx_slice hx rfl rfl
 have H := H.wroteBox 0 rfl hch hbx
 have H := H.pX 1 rfl hx2
 obtain ⟨e, he, hF⟩ := bs_ hF
 refine wl0 rfl (op_iaddr hf H Try.underlying24 TF.sz3 1 rfl rfl rfl he (by decide) fun p o3 cs4 a hf hr4 H => ?_)
 obtain rfl := hr4
 refine oq hf (rq_loadI hf H TF.ls3 0 0 rfl rfl rfl) fun a hf => ?_
 refine pz 1 hf fun a hf => ?_
 refine wer ?_
 obtain rfl := oi hF
 refine rT hf ?_
 exact ⟨_, rfl, H.chg, _, H.boxAt 0 rfl, (L1CurP_mk (x := y.2) (eB 0 (H.get 1 rfl))), ⟨fxc hx2, hx2⟩, mk_int⟩
theorem spec_DrawPackInOrder_ok {S : Nat → Prop} {v0_ : Value} {code : List By} {r : List Int × Int} (h0 : VR w0 S v0_ code) (hF : spec_DrawPackInOrder fu code = some r) :
    Calls Try.prog 5 [v0_].toArray w0 fun e w' => ∃ v, e = .returned v ∧ (Below w0.heap.size w0 w' ∧ ∃ F0, ∃ u0 u1, v = .tuple #[u0, u1] ∧ VO w' F0 u0 r.1 ∧ VR w' (St ⟨w0, []⟩ S [] [] [] true) u1 r.2 ∧ New w0 w' F0) := by
 obtain ⟨A, c, rfl, hl⟩ := VR_list h0
 have H := Mem.start ⟨w0, []⟩ S
 have H := H.pA hl
 refine en Try.func5 fun a hf => ?_
 rw [spec_DrawPackInOrder] at hF
 refine sqz (pz 2 hf fun a hf => ?_)
 refine wr (pz 1 hf fun a hf => ?_)
 refine oq hf (rq_build hf (cs := [(.slice A code.length c), (.int .i64 0), (.int .u64 0)]) rfl (fun w => by kernel_rfl)) fun a hf => ?_
 refine wl0 rfl (op_box hf H rfl rfl (by decide) fun b' a w hf H => ?_)
 refine pz 1 hf fun a hf => ?_
 refine wr (wl0 rfl (bl hf H 3 ([] : List Int) [] el0 fun A2 a w hf H => ?_))
 refine pz 1 hf fun a hf => ?_
 refine we (sqz (pz 1 hf fun a hf => ?_))
 obtain ⟨y, hy, hF⟩ := bs_ hF
 refine oc hf TF.cl13 (spec_l1Cur_pick_ok (S := NB b') (H.boxAt 0 rfl) ((L1CurP_mk (x := ({ code := code, at_ := 0, seed := (⟨0⟩ : U64) } : L1CurP)) (H.nb 0 rfl (H.get 0 rfl)))) (fun h => h rfl) mk_int hy) fun v w a hp hf => ?_
 obtain ⟨hch, cs, hbx, hr, ⟨hx, hx2⟩, hs⟩ := hp
 obtain rfl := VR_int hs
 obtain ⟨A3, c2, rfl, hl2⟩ := L1CurP_cells hr
 obtain ⟨rfl, rfl⟩ := fx_slice hx rfl rfl
 have H := H.wroteBox 0 rfl hch hbx
 have H := H.pX 0 rfl hx2
 refine pz 1 hf fun a hf => ?_
 refine wl_end (then_n ?_)
 obtain ⟨out', hB1, hF⟩ := bs_ hF
 have hf := hf.pn [4, 5, 6]
 have H := H.lt_ [true] [true] [] [0]
 refine loopC (fun (s : List Int × Int × List By × Int × U64) (a : Act) (w : World) => match s with | (rates, n', m, m2, m3) => ∃ (A4 : Option Addr) (c3 : Nat) (E : Go.TypeId), m = code ∧ Fr a 53 [(4, (.pointer (some ⟨b', 0, none⟩))), (5, (.slice A4 rates.length c3)), (6, (.int .i64 n'))] ∧ Mem ⟨w0, []⟩ S [⟨b', 36, [(.slice A m.length c), (.int .i64 m2), (.int .u64 m3.n)]⟩] [⟨.sh true, E, A4, c3, (rates : List Int)⟩] [] [(false, MP.val [(.slice A m.length c)] (m : List By))] w) (fun k (s : List Int × Int × List By × Int × U64) => spec_DrawPackInOrder_L1 fu code k s.1 s.2.1 s.2.2.1 s.2.2.2.1 s.2.2.2.2 = some out') (fun s => out' = s) (([] : List Int), y.1, y.2.code, y.2.at_, y.2.seed) fu hB1 ⟨A2, 0, 3, hx2, hf, H⟩ (fun s h => by cases h) ?_ ?_
 ·rintro fk ⟨rates, n', m, m2, m3⟩ a w hR1 hI
  replace hR1 : spec_DrawPackInOrder_L1 fu code (fk + 1) rates n' m m2 m3 = some out' := hR1
  rw [spec_DrawPackInOrder_L1] at hR1
  obtain ⟨A4, c3, E, hsm, hf, H⟩ := hI
  refine sq (sqz (pz 2 hf fun a hf => ?_))
  refine wl_end (then_n (ib hR1 hf (fun hc hR1 => ?_) fun hc hR1 => ?_))
  ·refine wp_skip (then_n (sq (wp_block (reg (pz 2 hf fun a hf => ?_)))))
   obtain ⟨y2, hy2, hR1⟩ := bs_ hR1
   refine oc hf TF.cl13 (spec_l1Cur_pick_ok (S := NB b') (H.boxAt 0 rfl) ((L1CurP_mk (x := ({ code := m, at_ := m2, seed := m3 } : L1CurP)) (H.nb 0 rfl (H.get 0 rfl)))) (fun h => h rfl) mk_int hy2) fun v2 w a hp2 hf => ?_
   obtain ⟨hch2, cs2, hbx2, hr2, ⟨hx3, hx4⟩, hs2⟩ := hp2
   obtain rfl := VR_int hs2
   obtain ⟨A5, c4, rfl, hl3⟩ := L1CurP_cells hr2
   obtain ⟨rfl, rfl⟩ := fx_slice hx3 rfl rfl
   have hx5 := hx4.trans hsm
   have H := H.wroteBox 0 rfl hch2 hbx2
   have H := H.pX 0 rfl hx4
   refine pz 1 hf fun a hf => ?_
   refine wl0 rfl (bl hf H 3 ([w64 (1 + y2.1)] : List Int) [(.int .i64 (w64 (1 + y2.1)))] (el1 (y := w64 (1 + y2.1)) (rfl)) fun A6 a w hf H => ?_)
   obtain ⟨l, hl_, hR1⟩ := bs_ hR1
   refine wl0 rfl (op_appR hf H Try.underlying24 TF.ai3 rfl (by decide) 1 0 rfl rfl rfl rfl (.inr rfl) hl_ (by decide) fun E2 A7 c5 a w hf H => ?_)
   refine pz 1 hf fun a hf => ?_
   refine wl_end (blk_n (then_n (reg (pz 3 hf fun a hf => ?_))))
   refine wl_end ?_
   have hf := hf.pn [4, 5, 6]
   have H := H.lt_ [true] [false, true] [] [0]
   exact then_n ⟨(l, w64 (n' - 1), y2.2.code, y2.2.at_, y2.2.seed), hR1, A7, c5, E2, hx5, hf, H⟩
  ·refine wp_exit (then_x (then_x (blk_e (?_))))
   have hf := hf.pn [4, 5, 6]
   have H := H.lt_ [true] [true] [] [0]
   exact ⟨(rates, n', m, m2, m3), (Option.some.inj hR1).symm, A4, c3, E, hsm, hf, H⟩
 rintro a w ⟨⟨rates2, n2, m4, m5, m6⟩, rfl, A8, c6, E3, hsm, hf, H⟩
 try dsimp only at hsm
 try dsimp only at hF
 refine then_n (sq (sqz (pz 1 hf fun a hf => ?_)))
 obtain ⟨y3, hy3, hF⟩ := bs_ hF
 refine oc hf TF.cl13 (spec_l1Cur_pick_ok (S := NB b') (H.boxAt 0 rfl) ((L1CurP_mk (x := ({ code := m4, at_ := m5, seed := m6 } : L1CurP)) (H.nb 0 rfl (H.get 0 rfl)))) (fun h => h rfl) mk_int hy3) fun v3 w a hp3 hf => ?_
 obtain ⟨hch3, cs3, hbx3, hr3, ⟨hx6, hx7⟩, hs3⟩ := hp3
 obtain rfl := VR_int hs3
 obtain ⟨A9, c7, rfl, hl4⟩ := L1CurP_cells hr3
 obtain ⟨rfl, rfl⟩ := fx_slice hx6 rfl rfl
 have hx8 := hx7.trans hsm
 have H := H.wroteBox 0 rfl hch3 hbx3
 have H := H.pX 0 rfl hx7
 refine wl_end (then_n (wp_block (sqz (pz 2 hf fun a hf => ?_))))
 refine wl_end (then_n (ib hF hf (fun hc2 hF => ?_) fun hc2 hF => ?_))
 ·refine reg (pz 2 hf fun a hf => ?_)
  refine wl0 rfl (bl hf H 3 ([0, 11, 12] : List Int) [(.int .i64 0), (.int .i64 11), (.int .i64 12)] (elI [0, 11, 12]) fun A10 a w hf H => ?_)
  have H := H.freeze 0 rfl
  obtain ⟨y4, hy4, hF⟩ := bs_ hF
  refine oc hf TF.cl14 (spec_l1Cur_among_ok (S := NB b') (H.boxAt 0 rfl) ((L1CurP_mk (x := y3.2) (H.nb 0 rfl (H.get 1 rfl)))) (fun h => h rfl) (mk_list (H.nb 0 rfl (H.get 0 rfl))) hy4) fun v4 w a hp4 hf => ?_
  obtain ⟨hch4, cs4, hbx4, hr4, ⟨hx9, hx10⟩, hs4⟩ := hp4
  obtain rfl := VR_int hs4
  obtain ⟨A11, c8, rfl, hl5⟩ := L1CurP_cells hr4
  obtain ⟨rfl, rfl⟩ := fx_slice hx9 rfl rfl
  have hx11 := hx10.trans hx8
  have H := H.wroteBox 0 rfl hch4 hbx4
  have H := H.pX 1 rfl hx10
  refine wl0 rfl (bl hf H 3 ([y4.1] : List Int) [(.int .i64 y4.1)] (el1 (y := y4.1) (rfl)) fun A12 a w hf H => ?_)
  obtain ⟨l2, hl2_, hF⟩ := bs_ hF
  refine wl0 rfl (op_appR hf H Try.underlying24 TF.ai3 rfl (by decide) 1 0 rfl rfl rfl rfl (.inr rfl) hl2_ (by decide) fun E4 A13 c9 a w hf H => ?_)
  refine pz 1 hf fun a hf => ?_
  refine wl_end (blk_n (then_n (sqz (pz 2 hf fun a hf => ?_))))
  refine wl0 rfl (bl hf H 3 ([10, 10, 12, 11, 20, 0, 10001] : List Int) [(.int .i64 10), (.int .i64 10), (.int .i64 12), (.int .i64 11), (.int .i64 20), (.int .i64 0), (.int .i64 10001)] (elI [10, 10, 12, 11, 20, 0, 10001]) fun A14 a w hf H => ?_)
  refine pz 1 hf fun a hf => ?_
  obtain ⟨y5, hy5, hF⟩ := bs_ hF
  refine oc hf TF.cl13 (spec_l1Cur_pick_ok (S := NB b') (H.boxAt 0 rfl) ((L1CurP_mk (x := y4.2) (H.nb 0 rfl (H.get 0 rfl)))) (fun h => h rfl) mk_int hy5) fun v5 w a hp5 hf => ?_
  obtain ⟨hch5, cs5, hbx5, hr5, ⟨hx12, hx13⟩, hs5⟩ := hp5
  obtain rfl := VR_int hs5
  obtain ⟨A15, c10, rfl, hl6⟩ := L1CurP_cells hr5
  obtain ⟨rfl, rfl⟩ := fx_slice hx12 rfl rfl
  have hx14 := hx13.trans hx11
  have H := H.wroteBox 0 rfl hch5 hbx5
  have H := H.pX 0 rfl hx13
  obtain ⟨q, hq, hF⟩ := bs_ hF
  refine oq hf (rq_quo hf rfl rfl hq) fun a hf => ?_
  refine pz 1 hf fun a hf => ?_
  obtain ⟨l3, hl3_, hF⟩ := bs_ hF
  refine wl0 rfl (op_sliceR hf H Try.underlying24 TF.sz3 0 rfl rfl rfl (.inl rfl) (.inr rfl) rfl hl3_ (by decide) fun a hf H => ?_)
  have H := H.freeze 0 rfl
  obtain ⟨y6, hy6, hF⟩ := bs_ hF
  refine oc hf TF.cl14 (spec_l1Cur_among_ok (S := NB b') (H.boxAt 0 rfl) ((L1CurP_mk (x := y5.2) (H.nb 0 rfl (H.get 1 rfl)))) (fun h => h rfl) (mk_list (H.nb 0 rfl (H.get 0 rfl))) hy6) fun v6 w a hp6 hf => ?_
  obtain ⟨hch6, cs6, hbx6, hr6, ⟨hx15, hx16⟩, hs6⟩ := hp6
  obtain rfl := VR_int hs6
  obtain ⟨A16, c11, rfl, hl7⟩ := L1CurP_cells hr6
  obtain ⟨rfl, rfl⟩ := fx_slice hx15 rfl rfl
  have hx17 := hx16.trans hx14
  have H := H.wroteBox 0 rfl hch6 hbx6
  have H := H.pX 1 rfl hx16
  refine pz 2 hf fun a hf => ?_
  have hf := hf.pn [2, 3]
  refine wer ?_
  have H := H.rowOwn 1 rfl rfl
  obtain ⟨F, H⟩ := H.freezeOwn 1 rfl
  have H := H.lend 0 rfl
  obtain rfl := oi hF
  refine ret_2 hf rfl (rv_tmp hf rfl) (rv_tmp hf rfl) ?_
  have hN := H.ends1
  exact ⟨_, rfl, H.bel, F, _, _, rfl, (mko_list (H.ownAt 0 rfl)), mk_int, by first | exact hN | simpa using hN⟩
 ·refine sqz (pz 2 hf fun a hf => ?_)
  refine wl_end (then_n (ib hF hf (fun hc3 hF => ?_) fun hc3 hF => ?_))
  ·obtain ⟨out2, hB1, hF⟩ := bs_ hF
   have hf := hf.pn [4, 5]
   have H := H.lt_ [true] [true] [] [0]
   refine loopC (fun (s : List Int × List By × Int × U64) (a : Act) (w : World) => match s with | (rates3, m7, m8, m9) => ∃ (A17 : Option Addr) (c12 : Nat) (E5 : Go.TypeId), m7 = code ∧ Fr a 53 [(4, (.pointer (some ⟨b', 0, none⟩))), (5, (.slice A17 rates3.length c12))] ∧ Mem ⟨w0, []⟩ S [⟨b', 36, [(.slice A m7.length c), (.int .i64 m8), (.int .u64 m9.n)]⟩] [⟨.sh true, E5, A17, c12, (rates3 : List Int)⟩] [] [(false, MP.val [(.slice A m7.length c)] (m7 : List By))] w) (fun k (s : List Int × List By × Int × U64) => spec_DrawPackInOrder_L2 fu code k s.1 s.2.1 s.2.2.1 s.2.2.2 = some out2) (fun s => out2 = s) (rates2, y3.2.code, y3.2.at_, y3.2.seed) fu hB1 ⟨A8, c6, E3, hx8, hf, H⟩ (fun s h => by cases h) ?_ ?_
   ·rintro fk ⟨rates3, m7, m8, m9⟩ a w hR1 hI
    replace hR1 : spec_DrawPackInOrder_L2 fu code (fk + 1) rates3 m7 m8 m9 = some out2 := hR1
    rw [spec_DrawPackInOrder_L2] at hR1
    obtain ⟨A17, c12, E5, hsm2, hf, H⟩ := hI
    refine sq (sqz (pz 3 hf fun a hf => ?_))
    obtain ⟨y7, hy7, hR1⟩ := bs_ hR1
    refine oc hf TF.cl13 (spec_l1Cur_pick_ok (S := NB b') (H.boxAt 0 rfl) ((L1CurP_mk (x := ({ code := m7, at_ := m8, seed := m9 } : L1CurP)) (H.nb 0 rfl (H.get 0 rfl)))) (fun h => h rfl) mk_int hy7) fun v7 w a hp7 hf => ?_
    obtain ⟨hch7, cs7, hbx7, hr7, ⟨hx18, hx19⟩, hs7⟩ := hp7
    obtain rfl := VR_int hs7
    obtain ⟨A18, c13, rfl, hl8⟩ := L1CurP_cells hr7
    obtain ⟨rfl, rfl⟩ := fx_slice hx18 rfl rfl
    have hx20 := hx19.trans hsm2
    have H := H.wroteBox 0 rfl hch7 hbx7
    have H := H.pX 0 rfl hx19
    refine pz 2 hf fun a hf => ?_
    refine wl_end (then_n (ib hR1 hf (fun hc4 hR1 => ?_) fun hc4 hR1 => ?_))
    ·refine wp_skip (then_n (wp_block (reg (pz 1 hf fun a hf => ?_))))
     refine wl0 rfl (bl hf H 3 ([3] : List Int) [(.int .i64 3)] (el1 (y := 3) (rfl)) fun A19 a w hf H => ?_)
     obtain ⟨l4, hl4_, hR1⟩ := bs_ hR1
     refine wl0 rfl (op_appR hf H Try.underlying24 TF.ai3 rfl (by decide) 1 0 rfl rfl rfl rfl (.inr rfl) hl4_ (by decide) fun E6 A20 c14 a w hf H => ?_)
     refine pz 1 hf fun a hf => ?_
     refine wl_end (blk_n ?_)
     have hf := hf.pn [4, 5]
     have H := H.lt_ [true] [false, true] [] [0]
     exact then_n ⟨(l4, y7.2.code, y7.2.at_, y7.2.seed), hR1, A20, c14, E6, hx20, hf, H⟩
    ·refine wp_exit (then_x (then_x (blk_e (?_))))
     have hf := hf.pn [4, 5]
     have H := H.lt_ [true] [true] [] [0]
     exact ⟨(rates3, y7.2.code, y7.2.at_, y7.2.seed), (Option.some.inj hR1).symm, A17, c12, E5, hx20, hf, H⟩
   rintro a w ⟨⟨rates4, m10, m11, m12⟩, rfl, A21, c15, E7, hsm2, hf, H⟩
   try dsimp only at hsm2
   try dsimp only at hF
   refine blk_n (then_n (sqz (pz 2 hf fun a hf => ?_)))
   refine wl0 rfl (bl hf H 3 ([10, 10, 12, 11, 20, 0, 10001] : List Int) [(.int .i64 10), (.int .i64 10), (.int .i64 12), (.int .i64 11), (.int .i64 20), (.int .i64 0), (.int .i64 10001)] (elI [10, 10, 12, 11, 20, 0, 10001]) fun A22 a w hf H => ?_)
   refine pz 1 hf fun a hf => ?_
   obtain ⟨y8, hy8, hF⟩ := bs_ hF
   refine oc hf TF.cl13 (spec_l1Cur_pick_ok (S := NB b') (H.boxAt 0 rfl) ((L1CurP_mk (x := ({ code := m10, at_ := m11, seed := m12 } : L1CurP)) (H.nb 0 rfl (H.get 0 rfl)))) (fun h => h rfl) mk_int hy8) fun v8 w a hp8 hf => ?_
   obtain ⟨hch8, cs8, hbx8, hr8, ⟨hx21, hx22⟩, hs8⟩ := hp8
   obtain rfl := VR_int hs8
   obtain ⟨A23, c16, rfl, hl9⟩ := L1CurP_cells hr8
   obtain ⟨rfl, rfl⟩ := fx_slice hx21 rfl rfl
   have hx23 := hx22.trans hsm2
   have H := H.wroteBox 0 rfl hch8 hbx8
   have H := H.pX 0 rfl hx22
   obtain ⟨q2, hq2, hF⟩ := bs_ hF
   refine oq hf (rq_quo hf rfl rfl hq2) fun a hf => ?_
   refine pz 1 hf fun a hf => ?_
   obtain ⟨l5, hl5_, hF⟩ := bs_ hF
   refine wl0 rfl (op_sliceR hf H Try.underlying24 TF.sz3 0 rfl rfl rfl (.inl rfl) (.inr rfl) rfl hl5_ (by decide) fun a hf H => ?_)
   have H := H.freeze 0 rfl
   obtain ⟨y9, hy9, hF⟩ := bs_ hF
   refine oc hf TF.cl14 (spec_l1Cur_among_ok (S := NB b') (H.boxAt 0 rfl) ((L1CurP_mk (x := y8.2) (H.nb 0 rfl (H.get 1 rfl)))) (fun h => h rfl) (mk_list (H.nb 0 rfl (H.get 0 rfl))) hy9) fun v9 w a hp9 hf => ?_
   obtain ⟨hch9, cs9, hbx9, hr9, ⟨hx24, hx25⟩, hs9⟩ := hp9
   obtain rfl := VR_int hs9
   obtain ⟨A24, c17, rfl, hl10⟩ := L1CurP_cells hr9
   obtain ⟨rfl, rfl⟩ := fx_slice hx24 rfl rfl
   have hx26 := hx25.trans hx23
   have H := H.wroteBox 0 rfl hch9 hbx9
   have H := H.pX 1 rfl hx25
   refine pz 2 hf fun a hf => ?_
   refine wer ?_
   have H := H.rowOwn 0 rfl rfl
   obtain ⟨F2, H⟩ := H.freezeOwn 0 rfl
   have H := H.lend 0 rfl
   obtain rfl := oi hF
   refine ret_2 hf rfl (rv_tmp hf rfl) (rv_tmp hf rfl) ?_
   have hN := H.ends1
   exact ⟨_, rfl, H.bel, F2, _, _, rfl, (mko_list (H.ownAt 0 rfl)), mk_int, by first | exact hN | simpa using hN⟩
  ·refine wp_skip (blk_n (then_n (sqz (pz 2 hf fun a hf => ?_))))
   refine wl0 rfl (bl hf H 3 ([10, 10, 12, 11, 20, 0, 10001] : List Int) [(.int .i64 10), (.int .i64 10), (.int .i64 12), (.int .i64 11), (.int .i64 20), (.int .i64 0), (.int .i64 10001)] (elI [10, 10, 12, 11, 20, 0, 10001]) fun A25 a w hf H => ?_)
   refine pz 1 hf fun a hf => ?_
   obtain ⟨y10, hy10, hF⟩ := bs_ hF
   refine oc hf TF.cl13 (spec_l1Cur_pick_ok (S := NB b') (H.boxAt 0 rfl) ((L1CurP_mk (x := y3.2) (H.nb 0 rfl (H.get 0 rfl)))) (fun h => h rfl) mk_int hy10) fun v10 w a hp10 hf => ?_
   obtain ⟨hch10, cs10, hbx10, hr10, ⟨hx27, hx28⟩, hs10⟩ := hp10
   obtain rfl := VR_int hs10
   obtain ⟨A26, c18, rfl, hl11⟩ := L1CurP_cells hr10
   obtain ⟨rfl, rfl⟩ := fx_slice hx27 rfl rfl
   have hx29 := hx28.trans hx8
   have H := H.wroteBox 0 rfl hch10 hbx10
   have H := H.pX 0 rfl hx28
   obtain ⟨q3, hq3, hF⟩ := bs_ hF
   refine oq hf (rq_quo hf rfl rfl hq3) fun a hf => ?_
   refine pz 1 hf fun a hf => ?_
   obtain ⟨l6, hl6_, hF⟩ := bs_ hF
   refine wl0 rfl (op_sliceR hf H Try.underlying24 TF.sz3 0 rfl rfl rfl (.inl rfl) (.inr rfl) rfl hl6_ (by decide) fun a hf H => ?_)
   have H := H.freeze 0 rfl
   obtain ⟨y11, hy11, hF⟩ := bs_ hF
   refine oc hf TF.cl14 (spec_l1Cur_among_ok (S := NB b') (H.boxAt 0 rfl) ((L1CurP_mk (x := y10.2) (H.nb 0 rfl (H.get 1 rfl)))) (fun h => h rfl) (mk_list (H.nb 0 rfl (H.get 0 rfl))) hy11) fun v11 w a hp11 hf => ?_
   obtain ⟨hch11, cs11, hbx11, hr11, ⟨hx30, hx31⟩, hs11⟩ := hp11
   obtain rfl := VR_int hs11
   obtain ⟨A27, c19, rfl, hl12⟩ := L1CurP_cells hr11
   obtain ⟨rfl, rfl⟩ := fx_slice hx30 rfl rfl
   have hx32 := hx31.trans hx29
   have H := H.wroteBox 0 rfl hch11 hbx11
   have H := H.pX 1 rfl hx31
   refine pz 2 hf fun a hf => ?_
   have hf := hf.pn [2, 3]
   refine wer ?_
   have H := H.rowOwn 0 rfl rfl
   obtain ⟨F3, H⟩ := H.freezeOwn 0 rfl
   have H := H.lend 0 rfl
   obtain rfl := oi hF
   refine ret_2 hf rfl (rv_tmp hf rfl) (rv_tmp hf rfl) ?_
   have hN := H.ends1
   exact ⟨_, rfl, H.bel, F3, _, _, rfl, (mko_list (H.ownAt 0 rfl)), mk_int, by first | exact hN | simpa using hN⟩
theorem impl_within_ok {S : Nat → Prop} {v0_ : Value} {v1_ : Value} {v2_ : Value} {n' : Int} {low : Int} {high : Int} {r : Bool} (h0 : VR w0 S v0_ n') (h1 : VR w0 S v1_ low) (h2 : VR w0 S v2_ high) (hF : impl_within fu n' low high = some r) :
    Calls Try.prog 29 [v0_, v1_, v2_].toArray w0 fun e w' => ∃ v, e = .returned v ∧ (Below w0.heap.size w0 w' ∧ VR w' (St ⟨w0, []⟩ S [] [] [] true) v r) := by
 obtain rfl := VR_int h0
 obtain rfl := VR_int h1
 obtain rfl := VR_int h2
 have H := Mem.start ⟨w0, []⟩ S
 refine en Try.func29 fun a hf => ?_
 rw [impl_within] at hF
 refine sqz (pz 1 hf fun a hf => ?_)
 refine wl_end (then_n (sq ?_))
 obtain ⟨c, hGc, hF⟩ := bs_ hF
 have fh := hf.prune [] rfl
 have Hm := H.lt_ [] [] [] []
 refine midF 6 (.bool c) fh Hm ?_ fun a w hf H => ?_
 ·refine reg (pz 4 hf fun a hf => ?_)
  refine iteB hGc (fun hc hGc => ?_) fun hc hGc => ?_
  ·have hf := hf.lit 10 rfl hc
   refine pz 5 hf fun a hf => ?_
   obtain rfl := oi hGc
   have hf := hf.pn [6]
   have H := H.lt_ [] [] [] []
   exact wl_end ⟨hf, H⟩
  ·have hf := hf.lit 10 rfl hc
   refine pz 5 hf fun a hf => ?_
   obtain rfl := oi hGc
   have hf := hf.pn [6]
   have H := H.lt_ [] [] [] []
   exact wl_end ⟨hf, H⟩
 refine then_n (wp_ret (?_))
 obtain rfl := oi hF
 refine rT hf ?_
 exact ⟨_, rfl, H.bel, mk_bool⟩
theorem impl_isPacking_c1_ok {S : Nat → Prop} {v0_ : Value} {b1 o1 : Nat} {cs1 : List Value} {rate : Int} {cap : Int} {r : Bool} (h0 : VR w0 S v0_ rate) (hp1 : (MP.cells ⟨b1, o1, none⟩ cs1).pred w0 S) (hr1 : GoTy.rep w0 S cs1 cap) (hF : impl_isPacking_c1 fu rate cap = some r) :
    Calls Try.prog 31 [v0_, (.pointer (some ⟨b1, o1, none⟩))].toArray w0 fun e w' => ∃ v, e = .returned v ∧ (Below w0.heap.size w0 w' ∧ VR w' (St ⟨w0, []⟩ S [] [] [] true) v r) := by
 obtain rfl := VR_int h0
 obtain rfl := hr1
 have H := Mem.start ⟨w0, []⟩ S
 have H := H.pushArg (MP.cells ⟨b1, o1, none⟩ [(.int .i64 cap)]) hp1
 refine en Try.func31 fun a hf => ?_
 rw [impl_isPacking_c1] at hF
 refine sqz (pz 1 hf fun a hf => ?_)
 refine wr (pz 1 hf fun a hf => ?_)
 refine oq hf (rq_loadI hf H TF.ls3 0 0 rfl rfl rfl) fun a hf => ?_
 obtain ⟨y, hy, hF⟩ := bs_ hF
 refine oc hf TF.cl29 (impl_within_ok (S := TT) mk_int mk_int mk_int hy) fun v w a hp3 hf => ?_
 obtain ⟨hb, hp3⟩ := hp3
 obtain rfl := VR_bool hp3
 have H := H.keep hb
 refine pz 2 hf fun a hf => ?_
 refine wer ?_
 obtain rfl := oi hF
 refine rT hf ?_
 exact ⟨_, rfl, H.bel, mk_bool⟩
theorem slices_IndexFunc_int_int_of_isPacking_c1_ok {S : Nat → Prop} {v0_ : Value} {b1_0 o1_0 : Nat} {cs1_0 : List Value} {s' : List Int} {cap : Int} {r : Int} (h0 : VR w0 S v0_ s') (hp1_0 : (MP.cells ⟨b1_0, o1_0, none⟩ cs1_0).pred w0 S) (hr1_0 : GoTy.rep w0 S cs1_0 cap) (hF : slices_IndexFunc_int_int_of_isPacking_c1 fu s' cap = some r) :
    Calls Try.prog 32 [v0_, (.func (.func 31) #[] #[(.pointer (some ⟨b1_0, o1_0, none⟩))])].toArray w0 fun e w' => ∃ v, e = .returned v ∧ (Below w0.heap.size w0 w' ∧ VR w' (St ⟨w0, []⟩ S [] [] [] true) v r) := by
 obtain ⟨A, c, rfl, hl⟩ := VR_list h0
 obtain rfl := hr1_0
 have H := Mem.start ⟨w0, []⟩ S
 have H := H.pA hl
 have H := H.pushArg (MP.cells ⟨b1_0, o1_0, none⟩ [(.int .i64 cap)]) hp1_0
 refine en Try.func32 fun a hf => ?_
 rw [slices_IndexFunc_int_int_of_isPacking_c1] at hF
 refine sqz (pz 1 hf fun a hf => ?_)
 refine we (sqz (pz 3 hf fun a hf => ?_))
 refine wl_end (then_n ?_)
 obtain ⟨out', hB1, hF⟩ := bs_ hF
 have hf := hf.pn [0, 1, 7, 8]
 have H := H.lt_ [] [] [] [0, 1]
 refine loopC (fun (s : Int) (a : Act) (w : World) => match s with | i => Fr a 19 [(0, (.slice A s'.length c)), (1, (.func (.func 31) #[] #[(.pointer (some ⟨b1_0, o1_0 + 0, none⟩))])), (7, (.int .i64 (s'.length : Int))), (8, (.int .i64 i))] ∧ Mem ⟨w0, []⟩ S [] [] [] [(false, MP.cells ⟨b1_0, o1_0, none⟩ [(.int .i64 cap)]), (false, MP.val [(.slice A s'.length c)] (s' : List Int))] w) (fun k (s : Int) => slices_IndexFunc_int_int_of_isPacking_c1_L1 fu s' cap k s = some out') (fun s => out' = Out.next s) 0 fu hB1 ⟨hf, H⟩ (fun s h => by cases h) ?_ ?_
 ·rintro fk i a w hR1 hI
  replace hR1 : slices_IndexFunc_int_int_of_isPacking_c1_L1 fu s' cap (fk + 1) i = some out' := hR1
  rw [slices_IndexFunc_int_int_of_isPacking_c1_L1] at hR1
  obtain ⟨hf, H⟩ := hI
  refine sqz (pz 1 hf fun a hf => ?_)
  refine wl_end (then_n (sq (ib hR1 hf (fun hc hR1 => ?_) fun hc hR1 => ?_)))
  ·refine ws (pz 2 hf fun a hf => ?_)
   refine wr (pz 3 hf fun a hf => ?_)
   obtain ⟨e, he, hR1⟩ := bs_ hR1
   refine wl0 rfl (op_iaddr hf H Try.underlying24 TF.sz3 1 rfl rfl rfl he (by decide) fun p o3 cs3 a hf hr3 H => ?_)
   obtain rfl := hr3
   refine oq hf (rq_loadI hf H TF.ls3 0 0 rfl rfl rfl) fun a hf => ?_
   obtain ⟨y, hy, hR1⟩ := bs_ hR1
   refine wl0 rfl (op_callV hf TF.cl31 rfl rfl (by decide) (impl_isPacking_c1_ok (S := TT) mk_int (mp_true (H.get 1 rfl)) (rfl) hy) fun v w a hp3 hf => ?_)
   obtain ⟨hb, hp3⟩ := hp3
   obtain rfl := VR_bool hp3
   have H := H.keep hb
   refine wl_end (then_n (ib hR1 hf (fun hc2 hR1 => ?_) fun hc2 hR1 => ?_))
   ·refine sqz (pz 2 hf fun a hf => ?_)
    have hf := hf.pn [4]
    refine wl_end (then_n (wp_ret (blk_r (then_r (then_r (blk_r (then_r (then_r (?_)))))))))
    obtain rfl := oi hR1
    replace hF := on_ret hF
    obtain rfl := oi hF
    refine rT hf ?_
    exact ⟨_, rfl, H.bel, mk_int⟩
   ·refine wp_skip (blk_n (then_n (reg (pz 2 hf fun a hf => ?_))))
    refine wl_end ?_
    have hf := hf.pn [0, 1, 7, 8]
    have H := H.lt_ [] [] [] [1, 2]
    exact then_n ⟨w64 (i + 1), hR1, hf, H⟩
  ·refine wp_exit (then_x (then_x (blk_e (?_))))
   have hf := hf.pn [0, 1, 7, 8]
   have H := H.lt_ [] [] [] [0, 1]
   exact ⟨i, (Option.some.inj hR1).symm, hf, H⟩
 rintro a w ⟨i2, rfl, hf, H⟩
 replace hF := on_next hF
 refine then_n (sqz (pz 1 hf fun a hf => ?_))
 refine wer ?_
 obtain rfl := oi hF
 refine rT hf ?_
 exact ⟨_, rfl, H.bel, mk_int⟩
theorem slices_ContainsFunc_int_int_of_isPacking_c1_ok {S : Nat → Prop} {v0_ : Value} {b1_0 o1_0 : Nat} {cs1_0 : List Value} {s' : List Int} {cap : Int} {r : Bool} (h0 : VR w0 S v0_ s') (hp1_0 : (MP.cells ⟨b1_0, o1_0, none⟩ cs1_0).pred w0 S) (hr1_0 : GoTy.rep w0 S cs1_0 cap) (hF : slices_ContainsFunc_int_int_of_isPacking_c1 fu s' cap = some r) :
    Calls Try.prog 30 [v0_, (.func (.func 31) #[] #[(.pointer (some ⟨b1_0, o1_0, none⟩))])].toArray w0 fun e w' => ∃ v, e = .returned v ∧ (Below w0.heap.size w0 w' ∧ VR w' (St ⟨w0, []⟩ S [] [] [] true) v r) := by
 obtain ⟨A, c, rfl, hl⟩ := VR_list h0
 obtain rfl := hr1_0
 have H := Mem.start ⟨w0, []⟩ S
 have H := H.pA hl
 have H := H.pushArg (MP.cells ⟨b1_0, o1_0, none⟩ [(.int .i64 cap)]) hp1_0
 refine en Try.func30 fun a hf => ?_
 rw [slices_ContainsFunc_int_int_of_isPacking_c1] at hF
 refine sqz (pz 1 hf fun a hf => ?_)
 refine wr (pz 2 hf fun a hf => ?_)
 obtain ⟨y, hy, hF⟩ := bs_ hF
 refine oc hf TF.cl32 (slices_IndexFunc_int_int_of_isPacking_c1_ok (S := TT) (mk_list (H.rt 1 rfl)) (mp_true (H.get 0 rfl)) (rfl) hy) fun v w a hp3 hf => ?_
 obtain ⟨hb, hp3⟩ := hp3
 obtain rfl := VR_int hp3
 have H := H.keep hb
 refine pz 2 hf fun a hf => ?_
 refine wer ?_
 obtain rfl := oi hF
 refine rT hf ?_
 exact ⟨_, rfl, H.bel, mk_bool⟩
theorem impl_isPacking_ok {S : Nat → Prop} {v0_ : Value} {v1_ : Value} {v2_ : Value} {rates : List Int} {capacity : Int} {most : Int} {r : Bool} (h0 : VR w0 S v0_ rates) (h1 : VR w0 S v1_ capacity) (h2 : VR w0 S v2_ most) (hF : impl_isPacking fu rates capacity most = some r) :
    Calls Try.prog 15 [v0_, v1_, v2_].toArray w0 fun e w' => ∃ v, e = .returned v ∧ (Below w0.heap.size w0 w' ∧ VR w' (St ⟨w0, []⟩ S [] [] [] true) v r) := by
 obtain ⟨A, c, rfl, hl⟩ := VR_list h0
 obtain rfl := VR_int h1
 obtain rfl := VR_int h2
 have H := Mem.start ⟨w0, []⟩ S
 have H := H.pA hl
 refine en Try.func15 fun a hf => ?_
 rw [impl_isPacking] at hF
 refine bx hf H fun b' a w hf H => ?_
 refine pz 1 hf fun a hf => ?_
 refine wl_end (then_n (sq ?_))
 obtain ⟨c2, hGc2, hF⟩ := bs_ hF
 have fh := hf.prune [] rfl
 have Hm := H.lt_ [false] [] [] []
 refine midF 6 (.bool c2) fh Hm ?_ fun a w hf H => ?_
 ·refine reg (lB 0 hf H TF.ls3 fun a hf => ?_)
  obtain ⟨y, hy, hGc2⟩ := bs_ hGc2
  refine oc hf TF.cl29 (impl_within_ok (S := TT) mk_int mk_int mk_int hy) fun v w a hp hf => ?_
  obtain ⟨hb, hp⟩ := hp
  obtain rfl := VR_bool hp
  have H := H.keep hb
  refine pz 1 hf fun a hf => ?_
  refine iteB hGc2 (fun hc hGc2 => ?_) fun hc hGc2 => ?_
  ·have hf := hf.lit 9 rfl hc
   refine pz 6 hf fun a hf => ?_
   refine iteB hGc2 (fun hc2 hGc2 => ?_) fun hc2 hGc2 => ?_
   ·have hf := hf.lit 15 rfl hc2
    refine pz 1 hf fun a hf => ?_
    refine wlg hf rfl rfl rfl (op_q hf (rq_makeFunc hf rfl) rfl (by decide) fun a hf => ?_)
    obtain ⟨y2, hy2, hGc2⟩ := bs_ hGc2
    refine wlg hf rfl rfl rfl (oC hf TF.cl30 (slices_ContainsFunc_int_int_of_isPacking_c1_ok (S := TT) (mk_list (H.rt 0 rfl)) (H.boxTrue 0 rfl) (rfl) hy2) fun v2 w a hp2 hf => ?_)
    obtain ⟨hb2, hp2⟩ := hp2
    obtain rfl := VR_bool hp2
    have H := H.keep hb2
    refine pz 3 hf fun a hf => ?_
    obtain rfl := oi hGc2
    have hf := hf.pn [6]
    have H := H.lt_ [false] [] [] []
    exact wl_end ⟨hf, H⟩
   ·have hf := hf.lit 15 rfl hc2
    refine pz 6 hf fun a hf => ?_
    obtain rfl := oi hGc2
    have hf := hf.pn [6]
    have H := H.lt_ [false] [] [] []
    exact wl_end ⟨hf, H⟩
  ·have hf := hf.lit 9 rfl hc
   refine pz 12 hf fun a hf => ?_
   obtain rfl := oi hGc2
   have hf := hf.pn [6]
   have H := H.lt_ [false] [] [] []
   exact wl_end ⟨hf, H⟩
 refine then_n (wp_ret (?_))
 obtain rfl := oi hF
 refine rT hf ?_
 exact ⟨_, rfl, H.bel, mk_bool⟩
theorem impl_numbered_ok {S : Nat → Prop} {v0_ : Value} {n' : Int} {r : List Int} (h0 : VR w0 S v0_ n') (hF : impl_numbered fu n' = some r) :
    Calls Try.prog 17 [v0_].toArray w0 fun e w' => ∃ v, e = .returned v ∧ (Below w0.heap.size w0 w' ∧ ∃ F0, VO w' F0 v r ∧ New w0 w' F0) := by
 obtain rfl := VR_int h0
 have H := Mem.start ⟨w0, []⟩ S
 refine en Try.func17 fun a hf => ?_
 rw [impl_numbered] at hF
 refine sqz (pz 1 hf fun a hf => ?_)
 refine wr (wl0 rfl (bl hf H 3 ([] : List Int) [] el0 fun A a w hf H => ?_))
 refine pz 1 hf fun a hf => ?_
 refine we (sqz (pz 2 hf fun a hf => ?_))
 refine wl_end (then_n ?_)
 obtain ⟨out2, hB1, hF⟩ := bs_ hF
 have hf := hf.pn [3, 6, 7]
 have H := H.lt_ [] [true] [] []
 refine loopC (fun (s : List Int × Int) (a : Act) (w : World) => match s with | (out', i) => ∃ (A2 : Option Addr) (c : Nat) (E : Go.TypeId), Fr a 16 [(3, (.slice A2 out'.length c)), (6, (.int .i64 n')), (7, (.int .i64 i))] ∧ Mem ⟨w0, []⟩ S [] [⟨.sh true, E, A2, c, (out' : List Int)⟩] [] [] w) (fun k (s : List Int × Int) => impl_numbered_L1 fu n' k s.1 s.2 = some out2) (fun s => out2 = s) (([] : List Int), 0) fu hB1 ⟨A, 0, 3, hf, H⟩ (fun s h => by cases h) ?_ ?_
 ·rintro fk ⟨out', i⟩ a w hR1 hI
  replace hR1 : impl_numbered_L1 fu n' (fk + 1) out' i = some out2 := hR1
  rw [impl_numbered_L1] at hR1
  obtain ⟨A2, c, E, hf, H⟩ := hI
  refine sqz (pz 1 hf fun a hf => ?_)
  refine wl_end (then_n (sq (ib hR1 hf (fun hc hR1 => ?_) fun hc hR1 => ?_)))
  ·refine ws (pz 2 hf fun a hf => ?_)
   refine wl_end (then_n (reg (pz 2 hf fun a hf => ?_)))
   refine wl0 rfl (bl hf H 3 ([i] : List Int) [(.int .i64 i)] (el1 (y := i) (rfl)) fun A3 a w hf H => ?_)
   obtain ⟨l, hl_, hR1⟩ := bs_ hR1
   refine wl0 rfl (op_appR hf H Try.underlying24 TF.ai3 rfl (by decide) 1 0 rfl rfl rfl rfl (.inr rfl) hl_ (by decide) fun E2 A4 c2 a w hf H => ?_)
   refine pz 1 hf fun a hf => ?_
   refine wl_end (blk_n (then_n (reg (pz 2 hf fun a hf => ?_))))
   refine wl_end ?_
   have hf := hf.pn [3, 6, 7]
   have H := H.lt_ [] [false, true] [] []
   exact then_n ⟨(l, w64 (i + 1)), hR1, A4, c2, E2, hf, H⟩
  ·refine wp_exit (then_x (then_x (blk_e (?_))))
   have hf := hf.pn [3, 6, 7]
   have H := H.lt_ [] [true] [] []
   exact ⟨(out', i), (Option.some.inj hR1).symm, A2, c, E, hf, H⟩
 rintro a w ⟨⟨out3, i2⟩, rfl, A5, c3, E3, hf, H⟩
 try dsimp only at hF
 refine then_n (sqz (pz 2 hf fun a hf => ?_))
 refine wer ?_
 have H := H.rowOwn 0 rfl rfl
 obtain ⟨F, H⟩ := H.freezeOwn 0 rfl
 have H := H.lend 0 rfl
 obtain rfl := oi hF
 refine rT hf ?_
 have hN := H.ends1
 exact ⟨_, rfl, H.bel, F, (mko_list (H.ownAt 0 rfl)), by first | exact hN | simpa using hN⟩
theorem impl_packed_c1_ok {S : Nat → Prop} {v0_ : Value} {b1 o1 : Nat} {cs1 : List Value} {b2 o2 : Nat} {cs2 : List Value} {room : Int} {cap : List Int} {cap2 : Int} {r : Bool} (h0 : VR w0 S v0_ room) (hp1 : (MP.cells ⟨b1, o1, none⟩ cs1).pred w0 S) (hr1 : GoTy.rep w0 S cs1 cap) (hp2 : (MP.cells ⟨b2, o2, none⟩ cs2).pred w0 S) (hr2 : GoTy.rep w0 S cs2 cap2) (hF : impl_packed_c1 fu room cap cap2 = some r) :
    Calls Try.prog 33 [v0_, (.pointer (some ⟨b1, o1, none⟩)), (.pointer (some ⟨b2, o2, none⟩))].toArray w0 fun e w' => ∃ v, e = .returned v ∧ (Below w0.heap.size w0 w' ∧ VR w' (St ⟨w0, []⟩ S [] [] [] true) v r) := by
 obtain rfl := VR_int h0
 obtain ⟨A, c, rfl, hl⟩ := list_cells hr1
 obtain rfl := hr2
 have H := Mem.start ⟨w0, []⟩ S
 have H := H.pA hl
 have H := H.pushArg (MP.cells ⟨b1, o1, none⟩ [(.slice A cap.length c)]) hp1
 have H := H.pushArg (MP.cells ⟨b2, o2, none⟩ [(.int .i64 cap2)]) hp2
 refine en Try.func33 fun a hf => ?_
 rw [impl_packed_c1] at hF
 refine sqz (pz 1 hf fun a hf => ?_)
 refine wr (pz 1 hf fun a hf => ?_)
 refine oq hf (rq_loadI hf H TF.ls24 1 0 rfl rfl rfl) fun a hf => ?_
 refine oq hf (rq_loadI hf H TF.ls3 0 0 rfl rfl rfl) fun a hf => ?_
 obtain ⟨e, he, hF⟩ := bs_ hF
 refine wl0 rfl (op_iaddr hf H Try.underlying24 TF.sz3 2 rfl rfl rfl he (by decide) fun p o4 cs4 a hf hr4 H => ?_)
 obtain rfl := hr4
 refine oq hf (rq_loadI hf H TF.ls3 0 0 rfl rfl rfl) fun a hf => ?_
 refine pz 2 hf fun a hf => ?_
 refine wer ?_
 obtain rfl := oi hF
 refine rT hf ?_
 exact ⟨_, rfl, H.bel, mk_bool⟩
theorem slices_IndexFunc_int_int_of_packed_c1_ok {S : Nat → Prop} {v0_ : Value} {b1_0 o1_0 : Nat} {cs1_0 : List Value} {b1_1 o1_1 : Nat} {cs1_1 : List Value} {s' : List Int} {cap : List Int} {cap2 : Int} {r : Int} (h0 : VR w0 S v0_ s') (hp1_0 : (MP.cells ⟨b1_0, o1_0, none⟩ cs1_0).pred w0 S) (hr1_0 : GoTy.rep w0 S cs1_0 cap) (hp1_1 : (MP.cells ⟨b1_1, o1_1, none⟩ cs1_1).pred w0 S) (hr1_1 : GoTy.rep w0 S cs1_1 cap2) (hF : slices_IndexFunc_int_int_of_packed_c1 fu s' cap cap2 = some r) :
    Calls Try.prog 32 [v0_, (.func (.func 33) #[] #[(.pointer (some ⟨b1_0, o1_0, none⟩)), (.pointer (some ⟨b1_1, o1_1, none⟩))])].toArray w0 fun e w' => ∃ v, e = .returned v ∧ (Below w0.heap.size w0 w' ∧ VR w' (St ⟨w0, []⟩ S [] [] [] true) v r) := by
 obtain ⟨A, c, rfl, hl⟩ := VR_list h0
 obtain ⟨A2, c2, rfl, hl2⟩ := list_cells hr1_0
 obtain rfl := hr1_1
 have H := Mem.start ⟨w0, []⟩ S
 have H := H.pA hl
 have H := H.pA hl2
 have H := H.pushArg (MP.cells ⟨b1_0, o1_0, none⟩ [(.slice A2 cap.length c2)]) hp1_0
 have H := H.pushArg (MP.cells ⟨b1_1, o1_1, none⟩ [(.int .i64 cap2)]) hp1_1
 refine en Try.func32 fun a hf => ?_
 rw [slices_IndexFunc_int_int_of_packed_c1] at hF
 refine sqz (pz 1 hf fun a hf => ?_)
 refine we (sqz (pz 3 hf fun a hf => ?_))
 refine wl_end (then_n ?_)
 obtain ⟨out', hB1, hF⟩ := bs_ hF
 have hf := hf.pn [0, 1, 7, 8]
 have H := H.lt_ [] [] [] [0, 1, 2, 3]
 refine loopC (fun (s : Int) (a : Act) (w : World) => match s with | i => Fr a 19 [(0, (.slice A s'.length c)), (1, (.func (.func 33) #[] #[(.pointer (some ⟨b1_0, o1_0 + 0, none⟩)), (.pointer (some ⟨b1_1, o1_1 + 0, none⟩))])), (7, (.int .i64 (s'.length : Int))), (8, (.int .i64 i))] ∧ Mem ⟨w0, []⟩ S [] [] [] [(false, MP.cells ⟨b1_1, o1_1, none⟩ [(.int .i64 cap2)]), (false, MP.cells ⟨b1_0, o1_0, none⟩ [(.slice A2 cap.length c2)]), (false, MP.val [(.slice A2 cap.length c2)] (cap : List Int)), (false, MP.val [(.slice A s'.length c)] (s' : List Int))] w) (fun k (s : Int) => slices_IndexFunc_int_int_of_packed_c1_L1 fu s' cap cap2 k s = some out') (fun s => out' = Out.next s) 0 fu hB1 ⟨hf, H⟩ (fun s h => by cases h) ?_ ?_
 ·rintro fk i a w hR1 hI
  replace hR1 : slices_IndexFunc_int_int_of_packed_c1_L1 fu s' cap cap2 (fk + 1) i = some out' := hR1
  rw [slices_IndexFunc_int_int_of_packed_c1_L1] at hR1
  obtain ⟨hf, H⟩ := hI
  refine sqz (pz 1 hf fun a hf => ?_)
  refine wl_end (then_n (sq (ib hR1 hf (fun hc hR1 => ?_) fun hc hR1 => ?_)))
  ·refine ws (pz 2 hf fun a hf => ?_)
   refine wr (pz 3 hf fun a hf => ?_)
   obtain ⟨e, he, hR1⟩ := bs_ hR1
   refine wl0 rfl (op_iaddr hf H Try.underlying24 TF.sz3 3 rfl rfl rfl he (by decide) fun p o3 cs3 a hf hr3 H => ?_)
   obtain rfl := hr3
   refine oq hf (rq_loadI hf H TF.ls3 0 0 rfl rfl rfl) fun a hf => ?_
   obtain ⟨y, hy, hR1⟩ := bs_ hR1
   refine wl0 rfl (op_callV hf TF.cl33 rfl rfl (by decide) (impl_packed_c1_ok (S := TT) mk_int (mp_true (H.get 2 rfl)) (H.rt 3 rfl) (mp_true (H.get 1 rfl)) (rfl) hy) fun v w a hp3 hf => ?_)
   obtain ⟨hb, hp3⟩ := hp3
   obtain rfl := VR_bool hp3
   have H := H.keep hb
   refine wl_end (then_n (ib hR1 hf (fun hc2 hR1 => ?_) fun hc2 hR1 => ?_))
   ·refine sqz (pz 2 hf fun a hf => ?_)
    have hf := hf.pn [4]
    refine wl_end (then_n (wp_ret (blk_r (then_r (then_r (blk_r (then_r (then_r (?_)))))))))
    obtain rfl := oi hR1
    replace hF := on_ret hF
    obtain rfl := oi hF
    refine rT hf ?_
    exact ⟨_, rfl, H.bel, mk_int⟩
   ·refine wp_skip (blk_n (then_n (reg (pz 2 hf fun a hf => ?_))))
    refine wl_end ?_
    have hf := hf.pn [0, 1, 7, 8]
    have H := H.lt_ [] [] [] [1, 2, 3, 4]
    exact then_n ⟨w64 (i + 1), hR1, hf, H⟩
  ·refine wp_exit (then_x (then_x (blk_e (?_))))
   have hf := hf.pn [0, 1, 7, 8]
   have H := H.lt_ [] [] [] [0, 1, 2, 3]
   exact ⟨i, (Option.some.inj hR1).symm, hf, H⟩
 rintro a w ⟨i2, rfl, hf, H⟩
 replace hF := on_next hF
 refine then_n (sqz (pz 1 hf fun a hf => ?_))
 refine wer ?_
 obtain rfl := oi hF
 refine rT hf ?_
 exact ⟨_, rfl, H.bel, mk_int⟩
theorem impl_packed_ok {S : Nat → Prop} {v0_ : Value} {v1_ : Value} {v2_ : Value} {rates : List Int} {capacity : Int} {order : List Int} {r : List Int} (h0 : VR w0 S v0_ rates) (h1 : VR w0 S v1_ capacity) (h2 : VR w0 S v2_ order) (hF : impl_packed fu rates capacity order = some r) :
    Calls Try.prog 16 [v0_, v1_, v2_].toArray w0 fun e w' => ∃ v, e = .returned v ∧ (Below w0.heap.size w0 w' ∧ ∃ F0, VO w' F0 v r ∧ New w0 w' F0) := by
 obtain ⟨A, c, rfl, hl⟩ := VR_list h0
 obtain rfl := VR_int h1
 obtain ⟨A2, c2, rfl, hl2⟩ := VR_list h2
 have H := Mem.start ⟨w0, []⟩ S
 have H := H.pA hl
 have H := H.pA hl2
 refine en Try.func16 fun a hf => ?_
 rw [impl_packed] at hF
 refine bx hf H fun b' a w hf H => ?_
 refine pz 1 hf fun a hf => ?_
 refine wr (lB 0 hf H TF.ls24 fun a hf => ?_)
 refine pz 1 hf fun a hf => ?_
 obtain ⟨l, hl_, hF⟩ := bs_ hF
 refine wl0 rfl (op_make (z0 := (0 : Int)) hf H Try.underlying24 TF.ai3 rfl (by decide) rfl rfl rfl hl_ (by decide) fun A3 c3 a w hf H => ?_)
 refine wl0 rfl (bl hf H 3 ([] : List Int) [] el0 fun A4 a w hf H => ?_)
 refine pz 2 hf fun a hf => ?_
 refine we (sqz (pz 3 hf fun a hf => ?_))
 refine wl_end (then_n ?_)
 obtain ⟨out2, hB1, hF⟩ := bs_ hF
 have hf := hf.pn [1, 3, 7, 8, 16, 17, 18]
 have H := H.lt_ [true] [true, true] [] [0, 1]
 refine loopC (fun (s : List Int × List Int × Int) (a : Act) (w : World) => match s with | (out', free, i) => ∃ (A5 : Option Addr) (c4 : Nat) (E : Go.TypeId) (A6 : Option Addr) (c5 : Nat) (E2 : Go.TypeId), Fr a 49 [(1, (.int .i64 capacity)), (3, (.pointer (some ⟨b', 0, none⟩))), (7, (.slice A5 out'.length c4)), (8, (.slice A6 free.length c5)), (16, (.slice A2 order.length c2)), (17, (.int .i64 (order.length : Int))), (18, (.int .i64 i))] ∧ Mem ⟨w0, []⟩ S [⟨b', 24, [(.slice A rates.length c)]⟩] [⟨.sh true, E2, A6, c5, (free : List Int)⟩, ⟨.sh true, E, A5, c4, (out' : List Int)⟩] [] [(false, MP.val [(.slice A2 order.length c2)] (order : List Int)), (false, MP.val [(.slice A rates.length c)] (rates : List Int))] w) (fun k (s : List Int × List Int × Int) => impl_packed_L1 fu rates capacity order k s.1 s.2.1 s.2.2 = some out2) (fun s => out2 = s) (l, ([] : List Int), 0) fu hB1 ⟨A3, c3, 3, A4, 0, 3, hf, H⟩ (fun s h => by cases h) ?_ ?_
 ·rintro fk ⟨out', free, i⟩ a w hR1 hI
  replace hR1 : impl_packed_L1 fu rates capacity order (fk + 1) out' free i = some out2 := hR1
  rw [impl_packed_L1] at hR1
  obtain ⟨A5, c4, E, A6, c5, E2, hf, H⟩ := hI
  refine sqz (pz 1 hf fun a hf => ?_)
  refine wl_end (then_n (sq (ib hR1 hf (fun hc hR1 => ?_) fun hc hR1 => ?_)))
  ·refine wp_skip (then_n (sq (wp_block (sq (reg ?_)))))
   obtain ⟨e, he, hR1⟩ := bs_ hR1
   refine wl0 rfl (op_iaddr hf H Try.underlying24 TF.sz3 0 rfl rfl rfl he (by decide) fun p o cs a hf hr H => ?_)
   obtain rfl := hr
   refine oq hf (rq_loadI hf H TF.ls3 0 0 rfl rfl rfl) fun a hf => ?_
   refine aL hf H TF.zv3 fun b2 a w hf H => ?_
   refine sB 0 hf H TF.sz3 fun w H => ?_
   refine wr (pz 1 hf fun a hf => ?_)
   refine oq hf (rq_makeFunc hf rfl) fun a hf => ?_
   obtain ⟨y, hy, hR1⟩ := bs_ hR1
   refine oc hf TF.cl32 (slices_IndexFunc_int_int_of_packed_c1_ok (S := TT) (mk_list (H.rowTrue 0 rfl)) (H.boxTrue 1 rfl) (H.rt 2 rfl) (H.boxTrue 0 rfl) (rfl) hy) fun v w a hp hf => ?_
   obtain ⟨hb, hp⟩ := hp
   obtain rfl := VR_int hp
   have H := H.keep hb
   refine pz 1 hf fun a hf => ?_
   refine we (sqz (pz 2 hf fun a hf => ?_))
   refine wl_end (then_n (ib hR1 hf (fun hc2 hR1 => ?_) fun hc2 hR1 => ?_))
   ·refine sqz (pz 3 hf fun a hf => ?_)
    refine wl_end (then_n (reg (pz 2 hf fun a hf => ?_)))
    refine wl0 rfl (bl hf H 3 ([capacity] : List Int) [(.int .i64 capacity)] (el1 (y := capacity) (rfl)) fun A7 a w hf H => ?_)
    obtain ⟨l2, hl2_, hR1⟩ := bs_ hR1
    refine wl0 rfl (op_appR hf H Try.underlying24 TF.ai3 rfl (by decide) 1 0 rfl rfl rfl rfl (.inr rfl) hl2_ (by decide) fun E3 A8 c6 a w hf H => ?_)
    refine pz 1 hf fun a hf => ?_
    have hf := hf.pn [1, 3, 7, 8, 10, 11, 16, 17, 18]
    refine wl_end (then_n (sq (dw [10] 11 fun w hb => ?_)))
    have H := H.keep hb
    refine zp 0 hf trivial fun a hf => ?_
    refine zp 1 hf trivial fun a hf => ?_
    obtain ⟨e2, he2, hR1⟩ := bs_ hR1
    obtain ⟨p2, o2, hA, hx⟩ := pre_iaddrR H Try.underlying24 TF.sz3 1 rfl he2
    refine tP 2 rfl rfl rfl rfl hf (by kernel_rfl) (fun _ => trivial) (fun w => rq_iaddrE hf rfl rfl rfl hx w) fun a hf => ?_
    refine strT (H.lt_ [false, false] [false, true, false] [] []) (fun w H => trivial) fun hS => ?_
    refine zS 3 [3, 8, 9, 10] rfl rfl rfl rfl hf hS (fun w H => rq_loadRow (off := 0) hf H TF.ls3 0 rfl rfl hA he2 (fun w T cs h => by obtain rfl := h; rfl)) fun a hf => ?_
    refine strT (H.lt_ [false, true] [false, true, false] [] []) (fun w H => H.lt_ [false] [true] [] []) fun hS => ?_
    refine zS 4 [4, 6, 7, 8, 9, 10] rfl rfl rfl rfl hf hS (fun w H => rq_loadB hf H TF.ls24 0 rfl rfl rfl) fun a hf => ?_
    refine strT (H.lt_ [true, true] [false, true, false] [] []) (fun w H => H.lt_ [false, true] [true] [] []) fun hS => ?_
    refine zS 5 [5, 6, 7, 8, 9, 10] rfl rfl rfl rfl hf hS (fun w H => rq_loadB hf H TF.ls3 0 rfl rfl rfl) fun a hf => ?_
    obtain ⟨e3, he3, hR1⟩ := bs_ hR1
    obtain ⟨p3, o3, cs2, hx2, hr2, H⟩ := pre_iaddr H Try.underlying24 TF.sz3 2 rfl he3
    refine zP 6 rfl rfl rfl rfl hf hS (fun w => rq_iaddrE hf rfl rfl rfl hx2 w) fun a hf => ?_
    obtain rfl := hr2
    refine strT (H.lt_ [true, true] [false, true, false] [] [0]) (fun w H => H.lt_ [true, true] [true] [] []) fun hS => ?_
    refine zS 7 [7, 8, 9, 10] rfl rfl rfl rfl hf hS (fun w H => rq_loadI hf H TF.ls3 0 0 rfl rfl rfl) fun a hf => ?_
    refine zp 8 hf hS fun a hf => ?_
    obtain ⟨e4, he4, hR1⟩ := bs_ hR1
    refine nn 9 rfl (op_iaddrR hf H Try.underlying24 TF.sz3 1 rfl rfl rfl he4 (by decide) fun p4 o4 cs3 a hf hA2 hr3 hk => ?_)
    obtain rfl := hr3
    have hS := H.lt_ [true, true] [false, true, false] [] [0]
    refine aS hS ?_
    refine nn 10 rfl (op_storeR (e' := w64 (e2 - e3)) (o := o4) (off := 0) hf H TF.sz3 1 rfl rfl rfl rfl rfl (nle rfl) rfl hA2 he4 (st_full rfl) fun w H => ?_)
    replace hf : Fr a 49 [(1, (.int .i64 capacity)), (3, (.pointer (some ⟨b', 0, none⟩))), (7, (.slice A5 out'.length c4)), (8, (.slice A8 l2.length c6)), (10, (.pointer (some ⟨b2, 0, none⟩))), (11, (.int .i64 (free.length : Int))), (16, (.slice A2 order.length c2)), (17, (.int .i64 (order.length : Int))), (18, (.int .i64 i)), (33, (.slice A8 l2.length c6)), (34, (.int .i64 (free.length : Int))), (35, (.pointer (some ⟨p2, o2 + 0, none⟩))), (36, (.int .i64 e2)), (37, (.slice A rates.length c)), (38, (.int .i64 e)), (39, (.pointer (some ⟨p3, o3 + 0, none⟩))), (40, (.int .i64 e3)), (41, (.int .i64 (w64 (e2 - e3)))), (42, (.pointer (some ⟨p4, o4 + 0, none⟩)))] := hf.prune [1, 3, 7, 8, 10, 11, 16, 17, 18, 33, 34, 35, 36, 37, 38, 39, 40, 41, 42] rfl
    replace hf : Fr a 49 [(1, (.int .i64 capacity)), (3, (.pointer (some ⟨b', 0, none⟩))), (7, (.slice A5 out'.length c4)), (8, (.slice A8 (l2.set ((free.length : Int) : Int).toNat (w64 (e2 - e3))).length c6)), (10, (.pointer (some ⟨b2, 0, none⟩))), (11, (.int .i64 (free.length : Int))), (16, (.slice A2 order.length c2)), (17, (.int .i64 (order.length : Int))), (18, (.int .i64 i)), (33, (.slice A8 (l2.set ((free.length : Int) : Int).toNat (w64 (e2 - e3))).length c6)), (34, (.int .i64 (free.length : Int))), (35, (.pointer (some ⟨p2, o2 + 0, none⟩))), (36, (.int .i64 e2)), (37, (.slice A rates.length c)), (38, (.int .i64 e)), (39, (.pointer (some ⟨p3, o3 + 0, none⟩))), (40, (.int .i64 e3)), (41, (.int .i64 (w64 (e2 - e3)))), (42, (.pointer (some ⟨p4, o4 + 0, none⟩)))] := by simpa only [List.length_set, Nat.add_zero] using hf
    refine ⟨fun h => absurd h (by decide), ?_⟩
    refine dk ?_
    refine then_n (reg (pz 1 hf fun a hf => ?_))
    refine lB 0 hf H TF.ls3 fun a hf => ?_
    refine pz 1 hf fun a hf => ?_
    obtain ⟨e5, he5, hR1⟩ := bs_ hR1
    refine wl0 rfl (op_iaddrR hf H Try.underlying24 TF.sz3 2 rfl rfl rfl he5 (by decide) fun p5 o5 cs4 a hf hA3 hr4 hk2 => ?_)
    obtain rfl := hr4
    refine wl0 rfl (op_storeR (e' := (free.length : Int)) (o := o5) (off := 0) hf H TF.sz3 2 rfl rfl rfl rfl rfl (nle rfl) rfl hA3 he5 (st_full rfl) fun w H => ?_)
    replace hf : Fr a 49 [(1, (.int .i64 capacity)), (3, (.pointer (some ⟨b', 0, none⟩))), (7, (.slice A5 out'.length c4)), (8, (.slice A8 (l2.set ((free.length : Int) : Int).toNat (w64 (e2 - e3))).length c6)), (10, (.pointer (some ⟨b2, 0, none⟩))), (11, (.int .i64 (free.length : Int))), (16, (.slice A2 order.length c2)), (17, (.int .i64 (order.length : Int))), (18, (.int .i64 i)), (43, (.slice A5 out'.length c4)), (44, (.int .i64 e)), (45, (.int .i64 (free.length : Int))), (46, (.pointer (some ⟨p5, o5 + 0, none⟩)))] := hf.prune [1, 3, 7, 8, 10, 11, 16, 17, 18, 43, 44, 45, 46] rfl
    replace hf : Fr a 49 [(1, (.int .i64 capacity)), (3, (.pointer (some ⟨b', 0, none⟩))), (7, (.slice A5 (out'.set (e : Int).toNat (free.length : Int)).length c4)), (8, (.slice A8 (l2.set ((free.length : Int) : Int).toNat (w64 (e2 - e3))).length c6)), (10, (.pointer (some ⟨b2, 0, none⟩))), (11, (.int .i64 (free.length : Int))), (16, (.slice A2 order.length c2)), (17, (.int .i64 (order.length : Int))), (18, (.int .i64 i)), (43, (.slice A5 (out'.set (e : Int).toNat (free.length : Int)).length c4)), (44, (.int .i64 e)), (45, (.int .i64 (free.length : Int))), (46, (.pointer (some ⟨p5, o5 + 0, none⟩)))] := by simpa only [List.length_set, Nat.add_zero] using hf
    refine wl_end (blk_n (then_n (reg (pz 2 hf fun a hf => ?_))))
    refine wl_end ?_
    have hf := hf.pn [1, 3, 7, 8, 16, 17, 18]
    have H := H.lt_ [false, true] [false, true, true] [] [2, 3]
    exact then_n ⟨(out'.set (e : Int).toNat (free.length : Int), l2.set ((free.length : Int) : Int).toNat (w64 (e2 - e3)), w64 (i + 1)), hR1, A5, c4, E, A8, c6, E3, hf, H⟩
   ·refine wp_skip (then_n (sq (dw [10] 11 fun w hb => ?_)))
    have H := H.keep hb
    refine zp 0 hf trivial fun a hf => ?_
    refine zp 1 hf trivial fun a hf => ?_
    obtain ⟨e6, he6, hR1⟩ := bs_ hR1
    obtain ⟨p6, o6, hA4, hx3⟩ := pre_iaddrR H Try.underlying24 TF.sz3 0 rfl he6
    refine tP 2 rfl rfl rfl rfl hf (by kernel_rfl) (fun _ => trivial) (fun w => rq_iaddrE hf rfl rfl rfl hx3 w) fun a hf => ?_
    refine strT (H.lt_ [false, false] [true, false] [] []) (fun w H => trivial) fun hS => ?_
    refine zS 3 [3, 8, 9, 10] rfl rfl rfl rfl hf hS (fun w H => rq_loadRow (off := 0) hf H TF.ls3 0 rfl rfl hA4 he6 (fun w T cs h => by obtain rfl := h; rfl)) fun a hf => ?_
    refine strT (H.lt_ [false, true] [true, false] [] []) (fun w H => H.lt_ [false] [true] [] []) fun hS => ?_
    refine zS 4 [4, 6, 7, 8, 9, 10] rfl rfl rfl rfl hf hS (fun w H => rq_loadB hf H TF.ls24 0 rfl rfl rfl) fun a hf => ?_
    refine strT (H.lt_ [true, true] [true, false] [] []) (fun w H => H.lt_ [false, true] [true] [] []) fun hS => ?_
    refine zS 5 [5, 6, 7, 8, 9, 10] rfl rfl rfl rfl hf hS (fun w H => rq_loadB hf H TF.ls3 0 rfl rfl rfl) fun a hf => ?_
    obtain ⟨e7, he7, hR1⟩ := bs_ hR1
    obtain ⟨p7, o7, cs5, hx4, hr5, H⟩ := pre_iaddr H Try.underlying24 TF.sz3 2 rfl he7
    refine zP 6 rfl rfl rfl rfl hf hS (fun w => rq_iaddrE hf rfl rfl rfl hx4 w) fun a hf => ?_
    obtain rfl := hr5
    refine strT (H.lt_ [true, true] [true, false] [] [0]) (fun w H => H.lt_ [true, true] [true] [] []) fun hS => ?_
    refine zS 7 [7, 8, 9, 10] rfl rfl rfl rfl hf hS (fun w H => rq_loadI hf H TF.ls3 0 0 rfl rfl rfl) fun a hf => ?_
    refine zp 8 hf hS fun a hf => ?_
    obtain ⟨e8, he8, hR1⟩ := bs_ hR1
    refine nn 9 rfl (op_iaddrR hf H Try.underlying24 TF.sz3 0 rfl rfl rfl he8 (by decide) fun p8 o8 cs6 a hf hA5 hr6 hk3 => ?_)
    obtain rfl := hr6
    have hS := H.lt_ [true, true] [true, false] [] [0]
    refine aS hS ?_
    refine nn 10 rfl (op_storeR (e' := w64 (e6 - e7)) (o := o8) (off := 0) hf H TF.sz3 0 rfl rfl rfl rfl rfl (nle rfl) rfl hA5 he8 (st_full rfl) fun w H => ?_)
    replace hf : Fr a 49 [(1, (.int .i64 capacity)), (3, (.pointer (some ⟨b', 0, none⟩))), (7, (.slice A5 out'.length c4)), (8, (.slice A6 free.length c5)), (10, (.pointer (some ⟨b2, 0, none⟩))), (11, (.int .i64 y)), (16, (.slice A2 order.length c2)), (17, (.int .i64 (order.length : Int))), (18, (.int .i64 i)), (33, (.slice A6 free.length c5)), (34, (.int .i64 y)), (35, (.pointer (some ⟨p6, o6 + 0, none⟩))), (36, (.int .i64 e6)), (37, (.slice A rates.length c)), (38, (.int .i64 e)), (39, (.pointer (some ⟨p7, o7 + 0, none⟩))), (40, (.int .i64 e7)), (41, (.int .i64 (w64 (e6 - e7)))), (42, (.pointer (some ⟨p8, o8 + 0, none⟩)))] := hf.prune [1, 3, 7, 8, 10, 11, 16, 17, 18, 33, 34, 35, 36, 37, 38, 39, 40, 41, 42] rfl
    replace hf : Fr a 49 [(1, (.int .i64 capacity)), (3, (.pointer (some ⟨b', 0, none⟩))), (7, (.slice A5 out'.length c4)), (8, (.slice A6 (free.set (y : Int).toNat (w64 (e6 - e7))).length c5)), (10, (.pointer (some ⟨b2, 0, none⟩))), (11, (.int .i64 y)), (16, (.slice A2 order.length c2)), (17, (.int .i64 (order.length : Int))), (18, (.int .i64 i)), (33, (.slice A6 (free.set (y : Int).toNat (w64 (e6 - e7))).length c5)), (34, (.int .i64 y)), (35, (.pointer (some ⟨p6, o6 + 0, none⟩))), (36, (.int .i64 e6)), (37, (.slice A rates.length c)), (38, (.int .i64 e)), (39, (.pointer (some ⟨p7, o7 + 0, none⟩))), (40, (.int .i64 e7)), (41, (.int .i64 (w64 (e6 - e7)))), (42, (.pointer (some ⟨p8, o8 + 0, none⟩)))] := by simpa only [List.length_set, Nat.add_zero] using hf
    refine ⟨fun h => absurd h (by decide), ?_⟩
    refine dk ?_
    refine then_n (reg (pz 1 hf fun a hf => ?_))
    refine lB 0 hf H TF.ls3 fun a hf => ?_
    refine pz 1 hf fun a hf => ?_
    obtain ⟨e9, he9, hR1⟩ := bs_ hR1
    refine wl0 rfl (op_iaddrR hf H Try.underlying24 TF.sz3 1 rfl rfl rfl he9 (by decide) fun p9 o9 cs7 a hf hA6 hr7 hk4 => ?_)
    obtain rfl := hr7
    refine wl0 rfl (op_storeR (e' := y) (o := o9) (off := 0) hf H TF.sz3 1 rfl rfl rfl rfl rfl (nle rfl) rfl hA6 he9 (st_full rfl) fun w H => ?_)
    replace hf : Fr a 49 [(1, (.int .i64 capacity)), (3, (.pointer (some ⟨b', 0, none⟩))), (7, (.slice A5 out'.length c4)), (8, (.slice A6 (free.set (y : Int).toNat (w64 (e6 - e7))).length c5)), (10, (.pointer (some ⟨b2, 0, none⟩))), (11, (.int .i64 y)), (16, (.slice A2 order.length c2)), (17, (.int .i64 (order.length : Int))), (18, (.int .i64 i)), (43, (.slice A5 out'.length c4)), (44, (.int .i64 e)), (45, (.int .i64 y)), (46, (.pointer (some ⟨p9, o9 + 0, none⟩)))] := hf.prune [1, 3, 7, 8, 10, 11, 16, 17, 18, 43, 44, 45, 46] rfl
    replace hf : Fr a 49 [(1, (.int .i64 capacity)), (3, (.pointer (some ⟨b', 0, none⟩))), (7, (.slice A5 (out'.set (e : Int).toNat y).length c4)), (8, (.slice A6 (free.set (y : Int).toNat (w64 (e6 - e7))).length c5)), (10, (.pointer (some ⟨b2, 0, none⟩))), (11, (.int .i64 y)), (16, (.slice A2 order.length c2)), (17, (.int .i64 (order.length : Int))), (18, (.int .i64 i)), (43, (.slice A5 (out'.set (e : Int).toNat y).length c4)), (44, (.int .i64 e)), (45, (.int .i64 y)), (46, (.pointer (some ⟨p9, o9 + 0, none⟩)))] := by simpa only [List.length_set, Nat.add_zero] using hf
    refine wl_end (blk_n (then_n (reg (pz 2 hf fun a hf => ?_))))
    refine wl_end ?_
    have hf := hf.pn [1, 3, 7, 8, 16, 17, 18]
    have H := H.lt_ [false, true] [true, true] [] [2, 3]
    exact then_n ⟨(out'.set (e : Int).toNat y, free.set (y : Int).toNat (w64 (e6 - e7)), w64 (i + 1)), hR1, A5, c4, E, A6, c5, E2, hf, H⟩
  ·refine wp_exit (then_x (then_x (blk_e (?_))))
   have hf := hf.pn [1, 3, 7, 8, 16, 17, 18]
   have H := H.lt_ [true] [true, true] [] [0, 1]
   exact ⟨(out', free, i), (Option.some.inj hR1).symm, A5, c4, E, A6, c5, E2, hf, H⟩
 rintro a w ⟨⟨out3, free2, i2⟩, rfl, A9, c7, E4, A10, c8, E5, hf, H⟩
 try dsimp only at hF
 refine then_n (sqz (pz 2 hf fun a hf => ?_))
 refine wer ?_
 have H := H.rowOwn 1 rfl rfl
 obtain ⟨F, H⟩ := H.freezeOwn 1 rfl
 have H := H.lend 0 rfl
 obtain rfl := oi hF
 refine rT hf ?_
 have hN := H.ends1
 exact ⟨_, rfl, H.bel, F, (mko_list (H.ownAt 0 rfl)), by first | exact hN | simpa using hN⟩
theorem impl_PackInOrder_ok {S : Nat → Prop} {v0_ : Value} {v1_ : Value} {rates : List Int} {capacity : Int} {r : List Int × Bool} (h0 : VR w0 S v0_ rates) (h1 : VR w0 S v1_ capacity) (hF : impl_PackInOrder fu rates capacity = some r) :
    Calls Try.prog 6 [v0_, v1_].toArray w0 fun e w' => ∃ v, e = .returned v ∧ (Below w0.heap.size w0 w' ∧ ∃ F0, ∃ u0 u1, v = .tuple #[u0, u1] ∧ VO w' F0 u0 r.1 ∧ VR w' (St ⟨w0, []⟩ S [] [] [] true) u1 r.2 ∧ New w0 w' F0) := by
 obtain ⟨A, c, rfl, hl⟩ := VR_list h0
 obtain rfl := VR_int h1
 have H := Mem.start ⟨w0, []⟩ S
 have H := H.pA hl
 refine en Try.func6 fun a hf => ?_
 rw [impl_PackInOrder] at hF
 refine sqz (pz 2 hf fun a hf => ?_)
 refine we (sqz (pz 2 hf fun a hf => ?_))
 obtain ⟨y, hy, hF⟩ := bs_ hF
 refine oc hf TF.cl15 (impl_isPacking_ok (S := TT) (mk_list (H.rt 0 rfl)) mk_int mk_int hy) fun v w a hp hf => ?_
 obtain ⟨hb, hp⟩ := hp
 obtain rfl := VR_bool hp
 have H := H.keep hb
 refine pz 1 hf fun a hf => ?_
 refine wl_end (then_n (ib hF hf (fun hc hF => ?_) fun hc hF => ?_))
 ·refine sqz (pz 2 hf fun a hf => ?_)
  refine wl_end (then_n (wp_ret (then_r (?_))))
  have H := H.ownNil (Int)
  have H := H.lend 0 rfl
  obtain rfl := oi hF
  refine ret_2 hf rfl (rv_tmp hf rfl) (rv_tmp hf rfl) ?_
  have hN := H.ends1
  exact ⟨_, rfl, H.bel, [], _, _, rfl, (mko_list (H.ownAt 0 rfl)), mk_bool, by first | exact hN | simpa using hN⟩
 ·refine wp_skip (then_n (sqz (pz 4 hf fun a hf => ?_)))
  obtain ⟨y2, hy2, hF⟩ := bs_ hF
  refine oc hf TF.cl17 (impl_numbered_ok (S := TT) mk_int hy2) fun v2 w a hp2 hf => ?_
  obtain ⟨hb2, F, hp3, hN⟩ := hp2
  obtain ⟨A2, c2, rfl, hl2⟩ := VO_list hp3
  have H := H.aO1 hb2 hN hl2
  have H := H.lend 0 rfl
  obtain ⟨y3, hy3, hF⟩ := bs_ hF
  refine oc hf TF.cl16 (impl_packed_ok (S := TT) (mk_list (H.rt 1 rfl)) mk_int (mk_list (H.rt 0 rfl)) hy3) fun v3 w a hp4 hf => ?_
  obtain ⟨hb3, F3, hp5, hN2⟩ := hp4
  obtain ⟨A3, c3, rfl, hl3⟩ := VO_list hp5
  have H := H.aO1 hb3 hN2 hl3
  have H := H.lend 0 rfl
  refine pz 2 hf fun a hf => ?_
  refine wer ?_
  obtain rfl := oi hF
  refine ret_2 hf rfl (rv_tmp hf rfl) (rv_tmp hf rfl) ?_
  have hN := H.ends1
  exact ⟨_, rfl, H.bel, F3, _, _, rfl, (mko_list (H.ownAt 0 rfl)), mk_bool, by first | exact hN | simpa using hN⟩
theorem cmp_isNaN_int_ok {S : Nat → Prop} {v0_ : Value} {x1 : Int} {r : Bool} (h0 : VR w0 S v0_ x1) (hF : cmp_isNaN_int fu x1 = some r) :
    Calls Try.prog 39 [v0_].toArray w0 fun e w' => ∃ v, e = .returned v ∧ (Below w0.heap.size w0 w' ∧ VR w' (St ⟨w0, []⟩ S [] [] [] true) v r) := by
 obtain rfl := VR_int h0
 have H := Mem.start ⟨w0, []⟩ S
 refine en Try.func39 fun a hf => ?_
 rw [cmp_isNaN_int] at hF
 refine sqz (pz 1 hf fun a hf => ?_)
 refine wr (pz 4 hf fun a hf => ?_)
 refine wer ?_
 obtain rfl := oi hF
 refine rT hf ?_
 exact ⟨_, rfl, H.bel, mk_bool⟩
theorem cmp_Compare_int_ok {S : Nat → Prop} {v0_ : Value} {v1_ : Value} {x1 : Int} {y : Int} {r : Int} (h0 : VR w0 S v0_ x1) (h1 : VR w0 S v1_ y) (hF : cmp_Compare_int fu x1 y = some r) :
    Calls Try.prog 25 [v0_, v1_].toArray w0 fun e w' => ∃ v, e = .returned v ∧ (Below w0.heap.size w0 w' ∧ VR w' (St ⟨w0, []⟩ S [] [] [] true) v r) := by
 obtain rfl := VR_int h0
 obtain rfl := VR_int h1
 have H := Mem.start ⟨w0, []⟩ S
 refine en Try.func25 fun a hf => ?_
 rw [cmp_Compare_int] at hF
 refine sqz (pz 1 hf fun a hf => ?_)
 refine wr (pz 1 hf fun a hf => ?_)
 obtain ⟨y2, hy2, hF⟩ := bs_ hF
 refine oc hf TF.cl39 (cmp_isNaN_int_ok (S := TT) mk_int hy2) fun v w a hp hf => ?_
 obtain ⟨hb, hp⟩ := hp
 obtain rfl := VR_bool hp
 have H := H.keep hb
 refine pz 1 hf fun a hf => ?_
 refine wr (pz 1 hf fun a hf => ?_)
 obtain ⟨y3, hy3, hF⟩ := bs_ hF
 refine oc hf TF.cl39 (cmp_isNaN_int_ok (S := TT) mk_int hy3) fun v2 w a hp2 hf => ?_
 obtain ⟨hb2, hp2⟩ := hp2
 obtain rfl := VR_bool hp2
 have H := H.keep hb2
 refine pz 1 hf fun a hf => ?_
 refine we (sqz (pz 1 hf fun a hf => ?_))
 refine wl_end (then_n (ib hF hf (fun hc hF => ?_) fun hc hF => ?_))
 ·refine sq (sqz (pz 1 hf fun a hf => ?_))
  refine wl_end (then_n (ib hF hf (fun hc2 hF => ?_) fun hc2 hF => ?_))
  ·refine sqz (pz 1 hf fun a hf => ?_)
   refine wl_end (then_n (wp_ret (then_r (then_r (?_)))))
   obtain rfl := oi hF
   refine rT hf ?_
   exact ⟨_, rfl, H.bel, mk_int⟩
  ·refine wp_skip (then_n (sqz (pz 1 hf fun a hf => ?_)))
   refine wl_end (then_n (wp_ret (then_r (?_))))
   obtain rfl := oi hF
   refine rT hf ?_
   exact ⟨_, rfl, H.bel, mk_int⟩
 ·refine wp_skip (then_n (sq (sqz (pz 1 hf fun a hf => ?_))))
  refine wl_end (then_n (ib hF hf (fun hc3 hF => ?_) fun hc3 hF => ?_))
  ·refine sqz (pz 1 hf fun a hf => ?_)
   refine wl_end (then_n (wp_ret (then_r (?_))))
   obtain rfl := oi hF
   refine rT hf ?_
   exact ⟨_, rfl, H.bel, mk_int⟩
  ·refine wp_skip (then_n (sq (sqz (pz 3 hf fun a hf => ?_))))
   refine wl_end (then_n (ib hF hf (fun hc4 hF => ?_) fun hc4 hF => ?_))
   ·refine sqz (pz 1 hf fun a hf => ?_)
    have hf := hf.pn [4]
    refine wl_end (then_n (wp_ret (then_r (?_))))
    obtain rfl := oi hF
    refine rT hf ?_
    exact ⟨_, rfl, H.bel, mk_int⟩
   ·refine wp_skip (then_n (sq (sqz (pz 3 hf fun a hf => ?_))))
    have hf := hf.pn [19]
    refine wl_end (then_n (ib hF hf (fun hc5 hF => ?_) fun hc5 hF => ?_))
    ·refine sqz (pz 1 hf fun a hf => ?_)
     refine wl_end (then_n (wp_ret (then_r (?_))))
     obtain rfl := oi hF
     refine rT hf ?_
     exact ⟨_, rfl, H.bel, mk_int⟩
    ·refine wp_skip (then_n (sqz (pz 1 hf fun a hf => ?_)))
     refine wer ?_
     obtain rfl := oi hF
     refine rT hf ?_
     exact ⟨_, rfl, H.bel, mk_int⟩
theorem impl_descending_c1_ok {S : Nat → Prop} {v0_ : Value} {v1_ : Value} {b2 o2 : Nat} {cs2 : List Value} {a' : Int} {b4 : Int} {cap : List Int} {r : Int} (h0 : VR w0 S v0_ a') (h1 : VR w0 S v1_ b4) (hp2 : (MP.cells ⟨b2, o2, none⟩ cs2).pred w0 S) (hr2 : GoTy.rep w0 S cs2 cap) (hF : impl_descending_c1 fu a' b4 cap = some r) :
    Calls Try.prog 35 [v0_, v1_, (.pointer (some ⟨b2, o2, none⟩))].toArray w0 fun e w' => ∃ v, e = .returned v ∧ (Below w0.heap.size w0 w' ∧ VR w' (St ⟨w0, []⟩ S [] [] [] true) v r) := by
 obtain rfl := VR_int h0
 obtain rfl := VR_int h1
 obtain ⟨A, c, rfl, hl⟩ := list_cells hr2
 have H := Mem.start ⟨w0, []⟩ S
 have H := H.pA hl
 have H := H.pushArg (MP.cells ⟨b2, o2, none⟩ [(.slice A cap.length c)]) hp2
 refine en Try.func35 fun a hf => ?_
 rw [impl_descending_c1] at hF
 refine sqz (pz 1 hf fun a hf => ?_)
 refine wl_end (then_n (sq (dw [] 10 fun w hb => ?_)))
 have H := H.keep hb
 refine strT (H.lt_ [] [] [] [0]) (fun w H => trivial) fun hS => ?_
 refine zS 0 [] rfl rfl rfl rfl hf hS (fun w H => rq_loadI hf H TF.ls24 0 0 rfl rfl rfl) fun a hf => ?_
 refine zp 1 hf hS fun a hf => ?_
 obtain ⟨e, he, hF⟩ := bs_ hF
 obtain ⟨p, o4, cs4, hx, hr4, H⟩ := pre_iaddr H Try.underlying24 TF.sz3 1 rfl he
 refine zP 2 rfl rfl rfl rfl hf hS (fun w => rq_iaddrE hf rfl rfl rfl hx w) fun a hf => ?_
 obtain rfl := hr4
 refine strT (H.lt_ [] [] [] [0, 1]) (fun w H => H.lt_ [] [] [] [1]) fun hS => ?_
 refine zS 3 [] rfl rfl rfl rfl hf hS (fun w H => rq_loadI hf H TF.ls3 0 0 rfl rfl rfl) fun a hf => ?_
 refine zS 4 [] rfl rfl rfl rfl hf hS (fun w H => rq_loadI hf H TF.ls24 1 0 rfl rfl rfl) fun a hf => ?_
 refine zp 5 hf hS fun a hf => ?_
 obtain ⟨e2, he2, hF⟩ := bs_ hF
 obtain ⟨p2, o5, cs5, hx2, hr5, H⟩ := pre_iaddr H Try.underlying24 TF.sz3 2 rfl he2
 refine zP 6 rfl rfl rfl rfl hf hS (fun w => rq_iaddrE hf rfl rfl rfl hx2 w) fun a hf => ?_
 obtain rfl := hr5
 refine strT (H.lt_ [] [] [] [0, 1, 2]) (fun w H => H.lt_ [] [] [] [1, 2]) fun hS => ?_
 refine zS 7 [] rfl rfl rfl rfl hf hS (fun w H => rq_loadI hf H TF.ls3 0 0 rfl rfl rfl) fun a hf => ?_
 obtain ⟨y, hy, hF⟩ := bs_ hF
 refine nn 8 rfl (oC hf TF.cl25 (cmp_Compare_int_ok (S := TT) mk_int mk_int hy) fun v w a hp4 hf => ?_)
 obtain ⟨hb, hp4⟩ := hp4
 obtain rfl := VR_int hp4
 have H := H.keep hb
 have hS := H.lt_ [] [] [] [0, 1, 2]
 refine aS hS ?_
 refine zp 9 hf hS fun a hf => ?_
 refine dk ?_
 refine then_n (wp_ret (?_))
 obtain rfl := oi hF
 refine rT hf ?_
 exact ⟨_, rfl, H.bel, mk_int⟩
theorem slices_insertionSortCmpFunc_int_of_descending_c1_ok {S : Nat → Prop} {F : List Nat} {cs : List Value} {v1_ : Value} {v2_ : Value} {b3_0 o3_0 : Nat} {cs3_0 : List Value} {data : List Int} {a' : Int} {b5 : Int} {cap : List Int} {r : List Int} (hO : GoTy.own w0 F cs data) (hn : F.Nodup) (hSm : ∀ c ∈ F, ¬ S c) (h1 : VR w0 S v1_ a') (h2 : VR w0 S v2_ b5) (hp3_0 : (MP.cells ⟨b3_0, o3_0, none⟩ cs3_0).pred w0 S) (hr3_0 : GoTy.rep w0 S cs3_0 cap) (hF : slices_insertionSortCmpFunc_int_of_descending_c1 fu data a' b5 cap = some r) :
    Calls Try.prog 43 [(bif GoTy.agg (List Int) then .agg cs.toArray else cs.headD undef), v1_, v2_, (.func (.func 35) #[] #[(.pointer (some ⟨b3_0, o3_0, none⟩))])].toArray w0 fun e w' => ∃ v, e = .returned v ∧ (Chg w0 w' F ∧ v = .tuple #[] ∧ ∃ F', GoTy.own w' F' cs r ∧ Back w0 w' F F') := by
 obtain rfl := VR_int h1
 obtain rfl := VR_int h2
 obtain ⟨A2, c2, rfl, hl⟩ := list_cells hr3_0
 obtain ⟨A, c, rfl, hO⟩ := own_list hO
 have H := Mem.startG S hO hn
 obtain ⟨Fs, E, H, -⟩ := H.thaw rfl
 have H := H.rowSh 0 rfl
 have H := H.argB hSm (p := MP.val [(.slice A2 cap.length c2)] cap) hl
 have H := H.argB hSm (p := MP.cells ⟨b3_0, o3_0, none⟩ [(.slice A2 cap.length c2)]) hp3_0
 refine en Try.func43 fun a hf => ?_
 rw [slices_insertionSortCmpFunc_int_of_descending_c1] at hF
 refine sqz (pz 3 hf fun a hf => ?_)
 refine wl_end (then_n ?_)
 obtain ⟨out', hB1, hF⟩ := bs_ hF
 have hf := hf.pn [0, 1, 2, 3, 8]
 have hf : Fr a 53 [(0, (.slice A data.length c)), (1, (.int .i64 a')), (2, (.int .i64 b5)), (3, (.func (.func 35) #[] #[(.pointer (some ⟨b3_0, o3_0 + 0, none⟩))])), (8, (.int .i64 (w64 (a' + 1))))] := by first | exact hf | (simp only [List.length_set] at hf; exact hf)
 have H := H.lt_ [] [true] [] [0, 1]
 refine loopC (fun (s : List Int × Int) (a : Act) (w : World) => match s with | (data2, i) => data2.length = data.length ∧ Fr a 53 [(0, (.slice A data.length c)), (1, (.int .i64 a')), (2, (.int .i64 b5)), (3, (.func (.func 35) #[] #[(.pointer (some ⟨b3_0, o3_0 + 0, none⟩))])), (8, (.int .i64 i))] ∧ Mem ⟨w0, F⟩ S [] [⟨.sh true, E, A, c, (data2 : List Int)⟩] [] [(false, MP.cells ⟨b3_0, o3_0, none⟩ [(.slice A2 cap.length c2)]), (false, MP.val [(.slice A2 cap.length c2)] (cap : List Int))] w) (fun k (s : List Int × Int) => slices_insertionSortCmpFunc_int_of_descending_c1_L1 fu a' b5 cap k s.1 s.2 = some out') (fun s => out' = s) (data, w64 (a' + 1)) fu hB1 ⟨rfl, hf, H⟩ (fun s h => by cases h) ?_ ?_
 ·rintro fk ⟨data2, i⟩ a w hR1 hI
  replace hR1 : slices_insertionSortCmpFunc_int_of_descending_c1_L1 fu a' b5 cap (fk + 1) data2 i = some out' := hR1
  rw [slices_insertionSortCmpFunc_int_of_descending_c1_L1] at hR1
  obtain ⟨hlen, hf, H⟩ := hI
  have hf : Fr a 53 [(0, (.slice A data2.length c)), (1, (.int .i64 a')), (2, (.int .i64 b5)), (3, (.func (.func 35) #[] #[(.pointer (some ⟨b3_0, o3_0 + 0, none⟩))])), (8, (.int .i64 i))] := by rw [hlen]; exact hf
  refine sq (sqz (pz 3 hf fun a hf => ?_))
  refine wl_end (then_n (ib hR1 hf (fun hc hR1 => ?_) fun hc hR1 => ?_))
  ·refine ws (pz 2 hf fun a hf => ?_)
   refine wl_end (then_n ?_)
   obtain ⟨out2, hB2, hR1⟩ := bs_ hR1
   have hf := hf.pn [0, 1, 2, 3, 8, 9]
   have hf : Fr a 53 [(0, (.slice A data2.length c)), (1, (.int .i64 a')), (2, (.int .i64 b5)), (3, (.func (.func 35) #[] #[(.pointer (some ⟨b3_0, o3_0 + 0, none⟩))])), (8, (.int .i64 i)), (9, (.int .i64 i))] := by first | exact hf | (simp only [List.length_set] at hf; exact hf)
   have H := H.lt_ [] [true] [] [0, 1]
   refine loopC (fun (s : List Int × Int) (a : Act) (w : World) => match s with | (data3, j) => data3.length = data2.length ∧ Fr a 53 [(0, (.slice A data2.length c)), (1, (.int .i64 a')), (2, (.int .i64 b5)), (3, (.func (.func 35) #[] #[(.pointer (some ⟨b3_0, o3_0 + 0, none⟩))])), (8, (.int .i64 i)), (9, (.int .i64 j))] ∧ Mem ⟨w0, F⟩ S [] [⟨.sh true, E, A, c, (data3 : List Int)⟩] [] [(false, MP.cells ⟨b3_0, o3_0, none⟩ [(.slice A2 cap.length c2)]), (false, MP.val [(.slice A2 cap.length c2)] (cap : List Int))] w) (fun k (s : List Int × Int) => slices_insertionSortCmpFunc_int_of_descending_c1_L2 fu a' cap k s.1 s.2 = some out2) (fun s => out2 = s) (data2, i) fu hB2 ⟨rfl, hf, H⟩ (fun s h => by cases h) ?_ ?_
   ·rintro fk ⟨data3, j⟩ a w hR2 hI
    replace hR2 : slices_insertionSortCmpFunc_int_of_descending_c1_L2 fu a' cap (fk + 1) data3 j = some out2 := hR2
    rw [slices_insertionSortCmpFunc_int_of_descending_c1_L2] at hR2
    obtain ⟨hlen2, hf, H⟩ := hI
    have hf : Fr a 53 [(0, (.slice A data3.length c)), (1, (.int .i64 a')), (2, (.int .i64 b5)), (3, (.func (.func 35) #[] #[(.pointer (some ⟨b3_0, o3_0 + 0, none⟩))])), (8, (.int .i64 i)), (9, (.int .i64 j))] := by rw [hlen2]; exact hf
    refine sq (sq ?_)
    obtain ⟨c3, hGc3, hR2⟩ := bs_ hR2
    have fh := hf.prune [0, 1, 2, 3, 8, 9] rfl
    have Hm := H.lt_ [] [true] [] [0, 1]
    refine midF 34 (.bool c3) fh Hm ?_ fun a w hf H => ?_
    ·refine dw [] 17 fun w hb => ?_
     have H := H.keep hb
     refine zp 0 hf trivial fun a hf => ?_
     refine zp 1 hf trivial fun a hf => ?_
     refine zp 2 hf trivial fun a hf => ?_
     refine zp 3 hf trivial fun a hf => ?_
     refine iteB hGc3 (fun hc2 hGc3 => ?_) fun hc2 hGc3 => ?_
     ·have hf := hf.lit 21 rfl hc2
      refine zg 4 hf trivial fun a hf => ?_
      refine zg 5 hf trivial fun a hf => ?_
      refine zg 6 hf trivial fun a hf => ?_
      obtain ⟨e, he, hGc3⟩ := bs_ hGc3
      obtain ⟨p, o5, hA, hx⟩ := pre_iaddrR H Try.underlying24 TF.sz3 0 rfl he
      refine tPg 7 rfl rfl rfl rfl rfl rfl hf (by kernel_rfl) (fun _ => trivial) (fun w => rq_iaddrE hf rfl rfl rfl hx w) fun a hf => ?_
      refine strT (H.lt_ [] [true] [] []) (fun w H => trivial) fun hS => ?_
      refine tSg 8 [] rfl rfl rfl rfl rfl rfl hf (by kernel_rfl) (by kernel_rfl) hS (fun w H => rq_loadRow (off := 0) hf H TF.ls3 0 rfl rfl hA he (fun w T cs h => by obtain rfl := h; rfl)) fun a hf => ?_
      refine zg 9 hf hS fun a hf => ?_
      refine zg 10 hf hS fun a hf => ?_
      refine zg 11 hf hS fun a hf => ?_
      obtain ⟨e2, he2, hGc3⟩ := bs_ hGc3
      obtain ⟨p2, o6, hA2, hx2⟩ := pre_iaddrR H Try.underlying24 TF.sz3 0 rfl he2
      refine tPg 12 rfl rfl rfl rfl rfl rfl hf (by kernel_rfl) (fun _ => hS) (fun w => rq_iaddrE hf rfl rfl rfl hx2 w) fun a hf => ?_
      refine tSg 13 [] rfl rfl rfl rfl rfl rfl hf (by kernel_rfl) (by kernel_rfl) hS (fun w H => rq_loadRow (off := 0) hf H TF.ls3 0 rfl rfl hA2 he2 (fun w T cs h => by obtain rfl := h; rfl)) fun a hf => ?_
      obtain ⟨y, hy, hGc3⟩ := bs_ hGc3
      refine n1g 14 (by kernel_rfl) rfl rfl rfl rfl hf (op_callV hf TF.cl35 rfl rfl (by decide) (impl_descending_c1_ok (S := TT) mk_int mk_int (mp_true (H.get 0 rfl)) (H.rt 1 rfl) hy) fun v w a hp5 hf => ?_)
      obtain ⟨hb, hp5⟩ := hp5
      obtain rfl := VR_int hp5
      have H := H.keep hb
      have hS := H.lt_ [] [true] [] []
      refine aS hS ?_
      refine zg 15 hf hS fun a hf => ?_
      refine zp 16 hf hS fun a hf => ?_
      refine dk ?_
      obtain rfl := oi hGc3
      have hf := hf.pn [34, 0, 1, 2, 3, 8, 9]
      have H := H.lt_ [] [true] [] [0, 1]
      exact ⟨hf, H⟩
     ·have hf := hf.lit 21 rfl hc2
      refine zU 4 hf trivial fun a hf => ?_
      refine zU 5 hf trivial fun a hf => ?_
      refine zU 6 hf trivial fun a hf => ?_
      refine zU 7 hf trivial fun a hf => ?_
      refine zU 8 hf trivial fun a hf => ?_
      refine zU 9 hf trivial fun a hf => ?_
      refine zU 10 hf trivial fun a hf => ?_
      refine zU 11 hf trivial fun a hf => ?_
      refine zU 12 hf trivial fun a hf => ?_
      refine zU 13 hf trivial fun a hf => ?_
      refine zU 14 hf trivial fun a hf => ?_
      refine zU 15 hf trivial fun a hf => ?_
      refine zp 16 hf trivial fun a hf => ?_
      refine dk ?_
      obtain rfl := oi hGc3
      have hf := hf.pn [34, 0, 1, 2, 3, 8, 9]
      have H := H.lt_ [] [true] [] [0, 1]
      exact ⟨hf, H⟩
    refine then_n (ib hR2 hf (fun hc3 hR2 => ?_) fun hc3 hR2 => ?_)
    ·refine wp_skip (then_n (sq (wp_block (dw [15, 17] 18 fun w hb => ?_))))
     have H := H.keep hb
     refine zp 0 hf trivial fun a hf => ?_
     refine zp 1 hf trivial fun a hf => ?_
     refine zp 2 hf trivial fun a hf => ?_
     refine zp 3 hf trivial fun a hf => ?_
     refine zp 4 hf trivial fun a hf => ?_
     refine zp 5 hf trivial fun a hf => ?_
     refine zp 6 hf trivial fun a hf => ?_
     refine zp 7 hf trivial fun a hf => ?_
     obtain ⟨e3, he3, hR2⟩ := bs_ hR2
     obtain ⟨p3, o7, hA3, hx3⟩ := pre_iaddrR H Try.underlying24 TF.sz3 0 rfl he3
     refine tP 8 rfl rfl rfl rfl hf (by kernel_rfl) (fun _ => trivial) (fun w => rq_iaddrE hf rfl rfl rfl hx3 w) fun a hf => ?_
     refine strT (H.lt_ [] [true] [] []) (fun w H => trivial) fun hS => ?_
     refine zS 9 [9, 14, 15, 16, 17] rfl rfl rfl rfl hf hS (fun w H => rq_loadRow (off := 0) hf H TF.ls3 0 rfl rfl hA3 he3 (fun w T cs h => by obtain rfl := h; rfl)) fun a hf => ?_
     refine zp 10 hf hS fun a hf => ?_
     refine zp 11 hf hS fun a hf => ?_
     obtain ⟨e4, he4, hR2⟩ := bs_ hR2
     obtain ⟨p4, o8, hA4, hx4⟩ := pre_iaddrR H Try.underlying24 TF.sz3 0 rfl he4
     refine zP 12 rfl rfl rfl rfl hf hS (fun w => rq_iaddrE hf rfl rfl rfl hx4 w) fun a hf => ?_
     refine zS 13 [13, 14, 15, 16, 17] rfl rfl rfl rfl hf hS (fun w H => rq_loadRow (off := 0) hf H TF.ls3 0 rfl rfl hA4 he4 (fun w T cs h => by obtain rfl := h; rfl)) fun a hf => ?_
     obtain ⟨e5, he5, hR2⟩ := bs_ hR2
     refine nn 14 rfl (op_iaddrR hf H Try.underlying24 TF.sz3 0 rfl rfl rfl he5 (by decide) fun p5 o9 cs5 a hf hA5 hr5 hk => ?_)
     obtain rfl := hr5
     have hS := H.lt_ [] [true] [] []
     refine aS hS ?_
     refine nn 15 rfl (op_storeR (e' := e3) (o := o9) (off := 0) hf H TF.sz3 0 rfl rfl rfl rfl rfl (nle rfl) rfl hA5 he5 (st_full rfl) fun w H => ?_)
     replace hf : Fr a 53 [(0, (.slice A data3.length c)), (1, (.int .i64 a')), (2, (.int .i64 b5)), (3, (.func (.func 35) #[] #[(.pointer (some ⟨b3_0, o3_0 + 0, none⟩))])), (8, (.int .i64 i)), (9, (.int .i64 j)), (37, (.slice A data3.length c)), (38, (.int .i64 j)), (39, (.slice A data3.length c)), (40, (.int .i64 j)), (41, (.int .i64 (w64 (j - 1)))), (42, (.slice A data3.length c)), (43, (.int .i64 j)), (44, (.int .i64 (w64 (j - 1)))), (45, (.pointer (some ⟨p3, o7 + 0, none⟩))), (46, (.int .i64 e3)), (47, (.slice A data3.length c)), (48, (.int .i64 j)), (49, (.pointer (some ⟨p4, o8 + 0, none⟩))), (50, (.int .i64 e4)), (51, (.pointer (some ⟨p5, o9 + 0, none⟩)))] := hf.prune [0, 1, 2, 3, 8, 9, 37, 38, 39, 40, 41, 42, 43, 44, 45, 46, 47, 48, 49, 50, 51] rfl
     replace hf : Fr a 53 [(0, (.slice A (data3.set (j : Int).toNat e3).length c)), (1, (.int .i64 a')), (2, (.int .i64 b5)), (3, (.func (.func 35) #[] #[(.pointer (some ⟨b3_0, o3_0 + 0, none⟩))])), (8, (.int .i64 i)), (9, (.int .i64 j)), (37, (.slice A (data3.set (j : Int).toNat e3).length c)), (38, (.int .i64 j)), (39, (.slice A (data3.set (j : Int).toNat e3).length c)), (40, (.int .i64 j)), (41, (.int .i64 (w64 (j - 1)))), (42, (.slice A (data3.set (j : Int).toNat e3).length c)), (43, (.int .i64 j)), (44, (.int .i64 (w64 (j - 1)))), (45, (.pointer (some ⟨p3, o7 + 0, none⟩))), (46, (.int .i64 e3)), (47, (.slice A (data3.set (j : Int).toNat e3).length c)), (48, (.int .i64 j)), (49, (.pointer (some ⟨p4, o8 + 0, none⟩))), (50, (.int .i64 e4)), (51, (.pointer (some ⟨p5, o9 + 0, none⟩)))] := by simpa only [List.length_set, Nat.add_zero] using hf
     refine ⟨fun h => absurd h (by decide), ?_⟩
     obtain ⟨e6, he6, hR2⟩ := bs_ hR2
     refine nn 16 rfl (op_iaddrR hf H Try.underlying24 TF.sz3 0 rfl rfl rfl he6 (by decide) fun p6 o10 cs6 a hf hA6 hr6 hk2 => ?_)
     obtain rfl := hr6
     refine ⟨fun h => absurd h (by decide), ?_⟩
     refine nn 17 rfl (op_storeR (e' := e4) (o := o10) (off := 0) hf H TF.sz3 0 rfl rfl rfl rfl rfl (nle rfl) rfl hA6 he6 (st_full rfl) fun w H => ?_)
     replace hf : Fr a 53 [(0, (.slice A (data3.set (j : Int).toNat e3).length c)), (1, (.int .i64 a')), (2, (.int .i64 b5)), (3, (.func (.func 35) #[] #[(.pointer (some ⟨b3_0, o3_0 + 0, none⟩))])), (8, (.int .i64 i)), (9, (.int .i64 j)), (37, (.slice A (data3.set (j : Int).toNat e3).length c)), (38, (.int .i64 j)), (39, (.slice A (data3.set (j : Int).toNat e3).length c)), (40, (.int .i64 j)), (41, (.int .i64 (w64 (j - 1)))), (42, (.slice A (data3.set (j : Int).toNat e3).length c)), (43, (.int .i64 j)), (44, (.int .i64 (w64 (j - 1)))), (45, (.pointer (some ⟨p3, o7 + 0, none⟩))), (46, (.int .i64 e3)), (47, (.slice A (data3.set (j : Int).toNat e3).length c)), (48, (.int .i64 j)), (49, (.pointer (some ⟨p4, o8 + 0, none⟩))), (50, (.int .i64 e4)), (51, (.pointer (some ⟨p5, o9 + 0, none⟩))), (52, (.pointer (some ⟨p6, o10 + 0, none⟩)))] := hf.prune [0, 1, 2, 3, 8, 9, 37, 38, 39, 40, 41, 42, 43, 44, 45, 46, 47, 48, 49, 50, 51, 52] rfl
     replace hf : Fr a 53 [(0, (.slice A ((data3.set (j : Int).toNat e3).set (w64 (j - 1) : Int).toNat e4).length c)), (1, (.int .i64 a')), (2, (.int .i64 b5)), (3, (.func (.func 35) #[] #[(.pointer (some ⟨b3_0, o3_0 + 0, none⟩))])), (8, (.int .i64 i)), (9, (.int .i64 j)), (37, (.slice A ((data3.set (j : Int).toNat e3).set (w64 (j - 1) : Int).toNat e4).length c)), (38, (.int .i64 j)), (39, (.slice A ((data3.set (j : Int).toNat e3).set (w64 (j - 1) : Int).toNat e4).length c)), (40, (.int .i64 j)), (41, (.int .i64 (w64 (j - 1)))), (42, (.slice A ((data3.set (j : Int).toNat e3).set (w64 (j - 1) : Int).toNat e4).length c)), (43, (.int .i64 j)), (44, (.int .i64 (w64 (j - 1)))), (45, (.pointer (some ⟨p3, o7 + 0, none⟩))), (46, (.int .i64 e3)), (47, (.slice A ((data3.set (j : Int).toNat e3).set (w64 (j - 1) : Int).toNat e4).length c)), (48, (.int .i64 j)), (49, (.pointer (some ⟨p4, o8 + 0, none⟩))), (50, (.int .i64 e4)), (51, (.pointer (some ⟨p5, o9 + 0, none⟩))), (52, (.pointer (some ⟨p6, o10 + 0, none⟩)))] := by simpa only [List.length_set, Nat.add_zero] using hf
     refine ⟨fun h => absurd h (by decide), ?_⟩
     refine dk ?_
     have hf := hf.pn [0, 1, 2, 3, 8, 9]
     refine blk_n (then_n (reg (pz 3 hf fun a hf => ?_)))
     refine wl_end ?_
     have hf := hf.pn [0, 1, 2, 3, 8, 9]
     have hf : Fr a 53 [(0, (.slice A data2.length c)), (1, (.int .i64 a')), (2, (.int .i64 b5)), (3, (.func (.func 35) #[] #[(.pointer (some ⟨b3_0, o3_0 + 0, none⟩))])), (8, (.int .i64 i)), (9, (.int .i64 (w64 (j - 1))))] := by first | exact hf | (simp only [List.length_set, hlen2] at hf; exact hf)
     have H := H.lt_ [] [true] [] [0, 1]
     exact then_n ⟨((data3.set (j : Int).toNat e3).set (w64 (j - 1) : Int).toNat e4, w64 (j - 1)), hR2, (by simp only [List.length_set, hlen2]), hf, H⟩
    ·refine wp_exit (then_x (then_x (blk_e (?_))))
     have hf := hf.pn [0, 1, 2, 3, 8, 9]
     have hf : Fr a 53 [(0, (.slice A data2.length c)), (1, (.int .i64 a')), (2, (.int .i64 b5)), (3, (.func (.func 35) #[] #[(.pointer (some ⟨b3_0, o3_0 + 0, none⟩))])), (8, (.int .i64 i)), (9, (.int .i64 j))] := by first | exact hf | (simp only [List.length_set, hlen2] at hf; exact hf)
     have H := H.lt_ [] [true] [] [0, 1]
     exact ⟨(data3, j), (Option.some.inj hR2).symm, (by simp only [List.length_set, hlen2]), hf, H⟩
   rintro a w ⟨⟨data4, j2⟩, rfl, hlen2, hf, H⟩
   try dsimp only at hlen2
   have hf : Fr a 53 [(0, (.slice A data4.length c)), (1, (.int .i64 a')), (2, (.int .i64 b5)), (3, (.func (.func 35) #[] #[(.pointer (some ⟨b3_0, o3_0 + 0, none⟩))])), (8, (.int .i64 i)), (9, (.int .i64 j2))] := by rw [hlen2]; exact hf
   try dsimp only at hR1
   refine blk_n (then_n (reg (pz 3 hf fun a hf => ?_)))
   refine wl_end ?_
   have hf := hf.pn [0, 1, 2, 3, 8]
   have hf : Fr a 53 [(0, (.slice A data.length c)), (1, (.int .i64 a')), (2, (.int .i64 b5)), (3, (.func (.func 35) #[] #[(.pointer (some ⟨b3_0, o3_0 + 0, none⟩))])), (8, (.int .i64 (w64 (i + 1))))] := by first | exact hf | (simp only [List.length_set, hlen, hlen2] at hf; exact hf)
   have H := H.lt_ [] [true] [] [0, 1]
   exact then_n ⟨(data4, w64 (i + 1)), hR1, (by simp only [List.length_set, hlen, hlen2]), hf, H⟩
  ·refine wp_exit (then_x (then_x (blk_e (?_))))
   have hf := hf.pn [0, 1, 2, 3, 8]
   have hf : Fr a 53 [(0, (.slice A data.length c)), (1, (.int .i64 a')), (2, (.int .i64 b5)), (3, (.func (.func 35) #[] #[(.pointer (some ⟨b3_0, o3_0 + 0, none⟩))])), (8, (.int .i64 i))] := by first | exact hf | (simp only [List.length_set, hlen] at hf; exact hf)
   have H := H.lt_ [] [true] [] [0, 1]
   exact ⟨(data2, i), (Option.some.inj hR1).symm, (by simp only [List.length_set, hlen]), hf, H⟩
 rintro a w ⟨⟨data5, i2⟩, rfl, hlen, hf, H⟩
 try dsimp only at hlen
 have hf : Fr a 53 [(0, (.slice A data5.length c)), (1, (.int .i64 a')), (2, (.int .i64 b5)), (3, (.func (.func 35) #[] #[(.pointer (some ⟨b3_0, o3_0 + 0, none⟩))])), (8, (.int .i64 i2))] := by rw [hlen]; exact hf
 try dsimp only at hF
 have H := H.rowOwn 0 rfl rfl
 obtain ⟨F', H⟩ := H.freezeOwn 0 rfl
 simp only [List.length_set, hlen] at H
 obtain rfl := oi hF
 refine ret_0 hf rfl ?_
 exact ⟨_, rfl, H.chg, rfl, _, H.ownAt 0 rfl, H.back⟩
theorem slices_stableCmpFunc_int_of_descending_c1_ok {S : Nat → Prop} {F : List Nat} {cs : List Value} {v1_ : Value} {b2_0 o2_0 : Nat} {cs2_0 : List Value} {data : List Int} {n' : Int} {cap : List Int} {r : List Int} (hO : GoTy.own w0 F cs data) (hn : F.Nodup) (hSm : ∀ c ∈ F, ¬ S c) (h1 : VR w0 S v1_ n') (hp2_0 : (MP.cells ⟨b2_0, o2_0, none⟩ cs2_0).pred w0 S) (hr2_0 : GoTy.rep w0 S cs2_0 cap) (hF : slices_stableCmpFunc_int_of_descending_c1 fu data n' cap = some r) :
    Calls Try.prog 42 [(bif GoTy.agg (List Int) then .agg cs.toArray else cs.headD undef), v1_, (.func (.func 35) #[] #[(.pointer (some ⟨b2_0, o2_0, none⟩))])].toArray w0 fun e w' => ∃ v, e = .returned v ∧ (Chg w0 w' F ∧ v = .tuple #[] ∧ ∃ F', GoTy.own w' F' cs r ∧ Back w0 w' F F') := by
 obtain rfl := VR_int h1
 obtain ⟨A2, c2, rfl, hl⟩ := list_cells hr2_0
 obtain ⟨A, c, rfl, hO⟩ := own_list hO
 have H := Mem.startG S hO hn
 obtain ⟨Fs, E, H, -⟩ := H.thaw rfl
 have H := H.rowSh 0 rfl
 have H := H.argB hSm (p := MP.val [(.slice A2 cap.length c2)] cap) hl
 have H := H.argB hSm (p := MP.cells ⟨b2_0, o2_0, none⟩ [(.slice A2 cap.length c2)]) hp2_0
 refine en Try.func42 fun a hf => ?_
 rw [slices_stableCmpFunc_int_of_descending_c1] at hF
 refine sqz (pz 1 hf fun a hf => ?_)
 refine wr (pz 3 hf fun a hf => ?_)
 refine wl_end (then_n (sq ?_))
 obtain ⟨out', hB1, hF⟩ := bs_ hF
 have hf := hf.pn [0, 1, 2, 6, 7, 8]
 have hf : Fr a 63 [(0, (.slice A data.length c)), (1, (.int .i64 n')), (2, (.func (.func 35) #[] #[(.pointer (some ⟨b2_0, o2_0 + 0, none⟩))])), (6, (.int .i64 20)), (7, (.int .i64 0)), (8, (.int .i64 20))] := by first | exact hf | (simp only [List.length_set] at hf; exact hf)
 have H := H.lt_ [] [true] [] [0, 1]
 refine loopC (fun (s : List Int × Int × Int) (a : Act) (w : World) => match s with | (data2, a', b4) => ∃ (E2 : Go.TypeId), data2.length = data.length ∧ Fr a 63 [(0, (.slice A data.length c)), (1, (.int .i64 n')), (2, (.func (.func 35) #[] #[(.pointer (some ⟨b2_0, o2_0 + 0, none⟩))])), (6, (.int .i64 20)), (7, (.int .i64 a')), (8, (.int .i64 b4))] ∧ Mem ⟨w0, F⟩ S [] [⟨.sh true, E2, A, c, (data2 : List Int)⟩] [] [(false, MP.cells ⟨b2_0, o2_0, none⟩ [(.slice A2 cap.length c2)]), (false, MP.val [(.slice A2 cap.length c2)] (cap : List Int))] w) (fun k (s : List Int × Int × Int) => slices_stableCmpFunc_int_of_descending_c1_L1 fu n' cap k s.1 s.2.1 s.2.2 = some out') (fun s => out' = s) (data, 0, 20) fu hB1 ⟨E, rfl, hf, H⟩ (fun s h => by cases h) ?_ ?_
 ·rintro fk ⟨data2, a', b4⟩ a w hR1 hI
  replace hR1 : slices_stableCmpFunc_int_of_descending_c1_L1 fu n' cap (fk + 1) data2 a' b4 = some out' := hR1
  rw [slices_stableCmpFunc_int_of_descending_c1_L1] at hR1
  obtain ⟨E2, hlen, hf, H⟩ := hI
  have hf : Fr a 63 [(0, (.slice A data2.length c)), (1, (.int .i64 n')), (2, (.func (.func 35) #[] #[(.pointer (some ⟨b2_0, o2_0 + 0, none⟩))])), (6, (.int .i64 20)), (7, (.int .i64 a')), (8, (.int .i64 b4))] := by rw [hlen]; exact hf
  refine sq (sqz (pz 3 hf fun a hf => ?_))
  refine wl_end (then_n (ib hR1 hf (fun hc hR1 => ?_) fun hc hR1 => ?_))
  ·refine wp_skip (then_n (wp_block (sqz (pz 4 hf fun a hf => ?_))))
   have H := H.rowOwn 0 rfl rfl
   obtain ⟨F2, H⟩ := H.freezeOwn 0 rfl
   have H := H.lend 0 rfl
   obtain ⟨y, hy, hR1⟩ := bs_ hR1
   refine oc hf TF.cl43 (slices_insertionSortCmpFunc_int_of_descending_c1_ok (S := NO F2) (F := F2) (cs := [(.slice A data2.length c)]) (H.ownAt 0 rfl) H.diNd.1 (fun _ h1 h2 => h2 h1) mk_int mk_int (H.argOc hSm hp2_0) (H.argO hSm (α := List Int) hl) hy) fun v w a hp4 hf => ?_
   obtain ⟨hch, hv, F3, ho, hbk⟩ := hp4
   subst hv
   have H := H.wrote rfl hch ho hbk
   have H := H.argB hSm (p := MP.val [(.slice A2 cap.length c2)] cap) hl
   have H := H.argB hSm (p := MP.cells ⟨b2_0, o2_0, none⟩ [(.slice A2 cap.length c2)]) hp2_0
   have H := H.lend 0 rfl
   refine wr (pz 2 hf fun a hf => ?_)
   refine wl_end (then_n (reg (pz 4 hf fun a hf => ?_)))
   refine wl_end (blk_n ?_)
   have hlen2 := H.ownLen rfl
   obtain ⟨Fs2, E3, H, -⟩ := H.thaw rfl
   have H := H.rowSh 0 rfl
   have hf := hf.pn [0, 1, 2, 6, 7, 8, 11, 12, 13, 14, 15, 16, 17, 18, 19, 20, 21, 22]
   replace hf : Fr a 63 [(0, (.slice A y.length c)), (1, (.int .i64 n')), (2, (.func (.func 35) #[] #[(.pointer (some ⟨b2_0, o2_0 + 0, none⟩))])), (6, (.int .i64 20)), (7, (.int .i64 b4)), (8, (.int .i64 (w64 (b4 + 20)))), (11, (.int .i64 b4)), (12, (.int .i64 n')), (13, (.bool (decide (b4 ≤ n')))), (14, (.slice A y.length c)), (15, (.int .i64 a')), (16, (.int .i64 b4)), (17, (.func (.func 35) #[] #[(.pointer (some ⟨b2_0, o2_0 + 0, none⟩))])), (18, (.tuple #[])), (19, (.int .i64 b4)), (20, (.int .i64 b4)), (21, (.int .i64 20)), (22, (.int .i64 (w64 (b4 + 20))))] := by rw [hlen2]; exact hf
   have H := H.argB hSm (p := MP.val [(.slice A2 cap.length c2)] cap) hl
   have H := H.argB hSm (p := MP.cells ⟨b2_0, o2_0, none⟩ [(.slice A2 cap.length c2)]) hp2_0
   have hf := hf.pn [0, 1, 2, 6, 7, 8]
   have hf : Fr a 63 [(0, (.slice A data.length c)), (1, (.int .i64 n')), (2, (.func (.func 35) #[] #[(.pointer (some ⟨b2_0, o2_0 + 0, none⟩))])), (6, (.int .i64 20)), (7, (.int .i64 b4)), (8, (.int .i64 (w64 (b4 + 20))))] := by first | exact hf | (simp only [List.length_set, hlen, hlen2] at hf; exact hf)
   have H := H.lt_ [] [true] [] [0, 1]
   exact then_n ⟨(y, b4, w64 (b4 + 20)), hR1, E3, (by simp only [List.length_set, hlen, hlen2]), hf, H⟩
  ·refine wp_exit (then_x (then_x (blk_e (?_))))
   have hf := hf.pn [0, 1, 2, 6, 7, 8]
   have hf : Fr a 63 [(0, (.slice A data.length c)), (1, (.int .i64 n')), (2, (.func (.func 35) #[] #[(.pointer (some ⟨b2_0, o2_0 + 0, none⟩))])), (6, (.int .i64 20)), (7, (.int .i64 a')), (8, (.int .i64 b4))] := by first | exact hf | (simp only [List.length_set, hlen] at hf; exact hf)
   have H := H.lt_ [] [true] [] [0, 1]
   exact ⟨(data2, a', b4), (Option.some.inj hR1).symm, E2, (by simp only [List.length_set, hlen]), hf, H⟩
 rintro a w ⟨⟨data3, a2, b5⟩, rfl, E4, hlen, hf, H⟩
 try dsimp only at hlen
 have hf : Fr a 63 [(0, (.slice A data3.length c)), (1, (.int .i64 n')), (2, (.func (.func 35) #[] #[(.pointer (some ⟨b2_0, o2_0 + 0, none⟩))])), (6, (.int .i64 20)), (7, (.int .i64 a2)), (8, (.int .i64 b5))] := by rw [hlen]; exact hf
 try dsimp only at hF
 refine then_n (sqz (pz 4 hf fun a hf => ?_))
 have H := H.rowOwn 0 rfl rfl
 obtain ⟨F4, H⟩ := H.freezeOwn 0 rfl
 have H := H.lend 0 rfl
 obtain ⟨y2, hy2, hF⟩ := bs_ hF
 refine oc hf TF.cl43 (slices_insertionSortCmpFunc_int_of_descending_c1_ok (S := NO F4) (F := F4) (cs := [(.slice A data3.length c)]) (H.ownAt 0 rfl) H.diNd.1 (fun _ h1 h2 => h2 h1) mk_int mk_int (H.argOc hSm hp2_0) (H.argO hSm (α := List Int) hl) hy2) fun v2 w a hp5 hf => ?_
 obtain ⟨hch2, hv2, F5, ho2, hbk2⟩ := hp5
 subst hv2
 have H := H.wrote rfl hch2 ho2 hbk2
 have H := H.argB hSm (p := MP.val [(.slice A2 cap.length c2)] cap) hl
 have H := H.argB hSm (p := MP.cells ⟨b2_0, o2_0, none⟩ [(.slice A2 cap.length c2)]) hp2_0
 have H := H.lend 0 rfl
 refine wl_end (then_n ?_)
 obtain ⟨out2, hB1, hF⟩ := bs_ hF
 have hf := hf.pn [0, 1, 2, 6]
 have H := H.lt_ [] [] [true] [0, 1, 2]
 refine loopC (fun (s : Int) (a : Act) (w : World) => match s with | blockSize => Fr a 63 [(0, (.slice A data3.length c)), (1, (.int .i64 n')), (2, (.func (.func 35) #[] #[(.pointer (some ⟨b2_0, o2_0 + 0, none⟩))])), (6, (.int .i64 blockSize))] ∧ Mem ⟨w0, F⟩ S [] [] [⟨F5, MP.own F5 [(.slice A data3.length c)] (y2 : List Int)⟩] [(true, MP.val [(.slice A data3.length c)] (y2 : List Int)), (false, MP.cells ⟨b2_0, o2_0, none⟩ [(.slice A2 cap.length c2)]), (false, MP.val [(.slice A2 cap.length c2)] (cap : List Int))] w) (fun k (s : Int) => slices_stableCmpFunc_int_of_descending_c1_L2 fu n' k s = some out2) (fun s => out2 = s) 20 fu hB1 ⟨hf, H⟩ (fun s h => by cases h) ?_ ?_
 ·rintro fk blockSize a w hR1 hI
  replace hR1 : slices_stableCmpFunc_int_of_descending_c1_L2 fu n' (fk + 1) blockSize = some out2 := hR1
  rw [slices_stableCmpFunc_int_of_descending_c1_L2] at hR1
  obtain ⟨hf, H⟩ := hI
  refine sq (sqz (pz 3 hf fun a hf => ?_))
  refine wl_end (then_n (ib hR1 hf (fun hc2 hR1 => ?_) fun hc2 hR1 => ?_))
  ·refine wp_skip (then_n (wp_block (sqz (pz 4 hf fun a hf => ?_))))
   refine wl_end (then_n (sq ?_))
   obtain ⟨out3, hB2, hR1⟩ := bs_ hR1
   have hf := hf.pn [0, 1, 2, 6, 7, 8]
   have H := H.lt_ [] [] [true] [0, 1, 2]
   refine loopC (fun (s : Unit) (a : Act) (w : World) => match s with | _ => Fr a 63 [(0, (.slice A data3.length c)), (1, (.int .i64 n')), (2, (.func (.func 35) #[] #[(.pointer (some ⟨b2_0, o2_0 + 0, none⟩))])), (6, (.int .i64 blockSize)), (7, (.int .i64 0)), (8, (.int .i64 (w64 (2 * blockSize))))] ∧ Mem ⟨w0, F⟩ S [] [] [⟨F5, MP.own F5 [(.slice A data3.length c)] (y2 : List Int)⟩] [(true, MP.val [(.slice A data3.length c)] (y2 : List Int)), (false, MP.cells ⟨b2_0, o2_0, none⟩ [(.slice A2 cap.length c2)]), (false, MP.val [(.slice A2 cap.length c2)] (cap : List Int))] w) (fun k (s : Unit) => slices_stableCmpFunc_int_of_descending_c1_L3 fu n' blockSize k = some out3) (fun s => out3 = s) () fu hB2 ⟨hf, H⟩ (fun s h => by cases h) ?_ ?_
   ·rintro fk _ a w hR2 hI
    replace hR2 : slices_stableCmpFunc_int_of_descending_c1_L3 fu n' blockSize (fk + 1) = some out3 := hR2
    rw [slices_stableCmpFunc_int_of_descending_c1_L3] at hR2
    obtain ⟨hf, H⟩ := hI
    refine sq (sqz (pz 3 hf fun a hf => ?_))
    refine wl_end (then_n (ib hR2 hf (fun hc3 hR2 => ?_) fun hc3 hR2 => ?_))
    ·refine wp_skip (then_n (wp_block (sqz (pz 7 hf fun a hf => ?_))))
     cases hR2
    ·refine wp_exit (then_x (then_x (blk_e (?_))))
     have hf := hf.pn [0, 1, 2, 6, 7, 8]
     have H := H.lt_ [] [] [true] [0, 1, 2]
     exact ⟨(), (Option.some.inj hR2).symm, hf, H⟩
   rintro a w ⟨_, rfl, hf, H⟩
   refine then_n (sq (sqz (pz 4 hf fun a hf => ?_)))
   refine wr (pz 3 hf fun a hf => ?_)
   refine wl_end (then_n (ib hR1 hf (fun hc4 hR1 => ?_) fun hc4 hR1 => ?_))
   ·refine reg (pz 5 hf fun a hf => ?_)
    cases hR1
   ·refine wp_skip (then_n (reg (pz 3 hf fun a hf => ?_)))
    refine wl_end (blk_n ?_)
    have hf := hf.pn [0, 1, 2, 6]
    have H := H.lt_ [] [] [true] [0, 1, 2]
    exact then_n ⟨w64 (blockSize * 2), hR1, hf, H⟩
  ·refine wp_exit (then_x (then_x (blk_e (?_))))
   have hf := hf.pn [0, 1, 2, 6]
   have H := H.lt_ [] [] [true] [0, 1, 2]
   exact ⟨blockSize, (Option.some.inj hR1).symm, hf, H⟩
 rintro a w ⟨out2, rfl, hf, H⟩
 simp only [List.length_set, hlen] at H
 obtain rfl := oi hF
 refine ret_0 hf rfl ?_
 exact ⟨_, rfl, H.chg, rfl, _, H.ownAt 0 rfl, H.back⟩
theorem slices_SortStableFunc_int_int_of_descending_c1_ok {S : Nat → Prop} {F : List Nat} {cs : List Value} {b1_0 o1_0 : Nat} {cs1_0 : List Value} {x1 : List Int} {cap : List Int} {r : List Int} (hO : GoTy.own w0 F cs x1) (hn : F.Nodup) (hSm : ∀ c ∈ F, ¬ S c) (hp1_0 : (MP.cells ⟨b1_0, o1_0, none⟩ cs1_0).pred w0 S) (hr1_0 : GoTy.rep w0 S cs1_0 cap) (hF : slices_SortStableFunc_int_int_of_descending_c1 fu x1 cap = some r) :
    Calls Try.prog 34 [(bif GoTy.agg (List Int) then .agg cs.toArray else cs.headD undef), (.func (.func 35) #[] #[(.pointer (some ⟨b1_0, o1_0, none⟩))])].toArray w0 fun e w' => ∃ v, e = .returned v ∧ (Chg w0 w' F ∧ v = .tuple #[] ∧ ∃ F', GoTy.own w' F' cs r ∧ Back w0 w' F F') := by
 obtain ⟨A2, c2, rfl, hl⟩ := list_cells hr1_0
 obtain ⟨A, c, rfl, hO⟩ := own_list hO
 have H := Mem.startG S hO hn
 obtain ⟨Fs, E, H, -⟩ := H.thaw rfl
 have H := H.rowSh 0 rfl
 have H := H.argB hSm (p := MP.val [(.slice A2 cap.length c2)] cap) hl
 have H := H.argB hSm (p := MP.cells ⟨b1_0, o1_0, none⟩ [(.slice A2 cap.length c2)]) hp1_0
 refine en Try.func34 fun a hf => ?_
 rw [slices_SortStableFunc_int_int_of_descending_c1] at hF
 refine reg (pz 4 hf fun a hf => ?_)
 have H := H.rowOwn 0 rfl rfl
 obtain ⟨F2, H⟩ := H.freezeOwn 0 rfl
 have H := H.lend 0 rfl
 obtain ⟨y, hy, hF⟩ := bs_ hF
 refine oc hf TF.cl42 (slices_stableCmpFunc_int_of_descending_c1_ok (S := NO F2) (F := F2) (cs := [(.slice A x1.length c)]) (H.ownAt 0 rfl) H.diNd.1 (fun _ h1 h2 => h2 h1) mk_int (H.argOc hSm hp1_0) (H.argO hSm (α := List Int) hl) hy) fun v w a hp3 hf => ?_
 obtain ⟨hch, hv, F3, ho, hbk⟩ := hp3
 subst hv
 have H := H.wrote rfl hch ho hbk
 have H := H.argB hSm (p := MP.val [(.slice A2 cap.length c2)] cap) hl
 have H := H.argB hSm (p := MP.cells ⟨b1_0, o1_0, none⟩ [(.slice A2 cap.length c2)]) hp1_0
 have H := H.lend 0 rfl
 refine wl_end ?_
 obtain rfl := oi hF
 refine ret_0 hf rfl ?_
 exact ⟨_, rfl, H.chg, rfl, _, H.ownAt 0 rfl, H.back⟩
theorem impl_descending_ok {S : Nat → Prop} {v0_ : Value} {v1_ : Value} {rates : List Int} {capacity : Int} {r : List Int} (h0 : VR w0 S v0_ rates) (h1 : VR w0 S v1_ capacity) (hF : impl_descending fu rates capacity = some r) :
    Calls Try.prog 18 [v0_, v1_].toArray w0 fun e w' => ∃ v, e = .returned v ∧ (Below w0.heap.size w0 w' ∧ ∃ F0, VO w' F0 v r ∧ New w0 w' F0) := by
 obtain ⟨A, c, rfl, hl⟩ := VR_list h0
 obtain rfl := VR_int h1
 have H := Mem.start ⟨w0, []⟩ S
 have H := H.pA hl
 refine en Try.func18 fun a hf => ?_
 rw [impl_descending] at hF
 refine bx hf H fun b' a w hf H => ?_
 refine pz 1 hf fun a hf => ?_
 refine wr (lB 0 hf H TF.ls24 fun a hf => ?_)
 refine pz 1 hf fun a hf => ?_
 obtain ⟨y, hy, hF⟩ := bs_ hF
 refine oc hf TF.cl17 (impl_numbered_ok (S := TT) mk_int hy) fun v w a hp hf => ?_
 obtain ⟨hb, F, hp2, hN⟩ := hp
 obtain ⟨A2, c2, rfl, hl2⟩ := VO_list hp2
 have H := H.aO1 hb hN hl2
 have H := H.lend 0 rfl
 refine pz 1 hf fun a hf => ?_
 refine wr (pz 1 hf fun a hf => ?_)
 refine oq hf (rq_makeFunc hf rfl) fun a hf => ?_
 obtain ⟨y2, hy2, hF⟩ := bs_ hF
 refine oc hf TF.cl34 (slices_SortStableFunc_int_int_of_descending_c1_ok (S := NO F) (F := F) (cs := [(.slice A2 y.length c2)]) (H.ownAt 0 rfl) H.diNd.1 (fun _ h1 h2 => h2 h1) (H.boxO 0 rfl) (H.argO (fun _ h => by cases h) (α := List Int) hl) hy2) fun v2 w a hp3 hf => ?_
 obtain ⟨hch, hv, F3, ho, hbk⟩ := hp3
 subst hv
 have H := H.wrote rfl hch ho hbk
 have H := H.pA hl
 have H := H.lend 0 rfl
 refine wr (lB 0 hf H TF.ls24 fun a hf => ?_)
 refine pz 2 hf fun a hf => ?_
 obtain ⟨y3, hy3, hF⟩ := bs_ hF
 refine oc hf TF.cl16 (impl_packed_ok (S := TT) (mk_list (H.rt 1 rfl)) mk_int (mk_list (H.rt 0 rfl)) hy3) fun v3 w a hp4 hf => ?_
 obtain ⟨hb2, F4, hp5, hN2⟩ := hp4
 obtain ⟨A3, c3, rfl, hl3⟩ := VO_list hp5
 have H := H.aO1 hb2 hN2 hl3
 have H := H.lend 0 rfl
 refine pz 1 hf fun a hf => ?_
 have hf := hf.pn [4]
 refine wer ?_
 obtain rfl := oi hF
 refine rT hf ?_
 have hN := H.ends1
 exact ⟨_, rfl, H.bel, F4, (mko_list (H.ownAt 0 rfl)), by first | exact hN | simpa using hN⟩
theorem impl_PackDescending_ok {S : Nat → Prop} {v0_ : Value} {v1_ : Value} {rates : List Int} {capacity : Int} {r : List Int × Bool} (h0 : VR w0 S v0_ rates) (h1 : VR w0 S v1_ capacity) (hF : impl_PackDescending fu rates capacity = some r) :
    Calls Try.prog 7 [v0_, v1_].toArray w0 fun e w' => ∃ v, e = .returned v ∧ (Below w0.heap.size w0 w' ∧ ∃ F0, ∃ u0 u1, v = .tuple #[u0, u1] ∧ VO w' F0 u0 r.1 ∧ VR w' (St ⟨w0, []⟩ S [] [] [] true) u1 r.2 ∧ New w0 w' F0) := by
 obtain ⟨A, c, rfl, hl⟩ := VR_list h0
 obtain rfl := VR_int h1
 have H := Mem.start ⟨w0, []⟩ S
 have H := H.pA hl
 refine en Try.func7 fun a hf => ?_
 rw [impl_PackDescending] at hF
 refine sqz (pz 2 hf fun a hf => ?_)
 refine we (sqz (pz 2 hf fun a hf => ?_))
 obtain ⟨y, hy, hF⟩ := bs_ hF
 refine oc hf TF.cl15 (impl_isPacking_ok (S := TT) (mk_list (H.rt 0 rfl)) mk_int mk_int hy) fun v w a hp hf => ?_
 obtain ⟨hb, hp⟩ := hp
 obtain rfl := VR_bool hp
 have H := H.keep hb
 refine pz 1 hf fun a hf => ?_
 refine wl_end (then_n (ib hF hf (fun hc hF => ?_) fun hc hF => ?_))
 ·refine sqz (pz 2 hf fun a hf => ?_)
  refine wl_end (then_n (wp_ret (then_r (?_))))
  have H := H.ownNil (Int)
  have H := H.lend 0 rfl
  obtain rfl := oi hF
  refine ret_2 hf rfl (rv_tmp hf rfl) (rv_tmp hf rfl) ?_
  have hN := H.ends1
  exact ⟨_, rfl, H.bel, [], _, _, rfl, (mko_list (H.ownAt 0 rfl)), mk_bool, by first | exact hN | simpa using hN⟩
 ·refine wp_skip (then_n (sqz (pz 2 hf fun a hf => ?_)))
  obtain ⟨y2, hy2, hF⟩ := bs_ hF
  refine oc hf TF.cl18 (impl_descending_ok (S := TT) (mk_list (H.rt 0 rfl)) mk_int hy2) fun v2 w a hp2 hf => ?_
  obtain ⟨hb2, F, hp3, hN⟩ := hp2
  obtain ⟨A2, c2, rfl, hl2⟩ := VO_list hp3
  have H := H.aO1 hb2 hN hl2
  have H := H.lend 0 rfl
  refine pz 2 hf fun a hf => ?_
  refine wer ?_
  obtain rfl := oi hF
  refine ret_2 hf rfl (rv_tmp hf rfl) (rv_tmp hf rfl) ?_
  have hN := H.ends1
  exact ⟨_, rfl, H.bel, F, _, _, rfl, (mko_list (H.ownAt 0 rfl)), mk_bool, by first | exact hN | simpa using hN⟩
theorem spec_l1In_ok {S : Nat → Prop} {v0_ : Value} {v1_ : Value} {v2_ : Value} {x1 : Int} {a' : Int} {b' : Int} {r : Bool} (h0 : VR w0 S v0_ x1) (h1 : VR w0 S v1_ a') (h2 : VR w0 S v2_ b') (hF : spec_l1In fu x1 a' b' = some r) :
    Calls Try.prog 36 [v0_, v1_, v2_].toArray w0 fun e w' => ∃ v, e = .returned v ∧ (Below w0.heap.size w0 w' ∧ VR w' (St ⟨w0, []⟩ S [] [] [] true) v r) := by
 obtain rfl := VR_int h0
 obtain rfl := VR_int h1
 obtain rfl := VR_int h2
 have H := Mem.start ⟨w0, []⟩ S
 refine en Try.func36 fun a hf => ?_
 rw [spec_l1In] at hF
 refine sqz (pz 1 hf fun a hf => ?_)
 refine wl_end (then_n (sq ?_))
 obtain ⟨c, hGc, hF⟩ := bs_ hF
 have fh := hf.prune [] rfl
 have Hm := H.lt_ [] [] [] []
 refine midF 6 (.bool c) fh Hm ?_ fun a w hf H => ?_
 ·refine reg (pz 4 hf fun a hf => ?_)
  refine iteB hGc (fun hc hGc => ?_) fun hc hGc => ?_
  ·have hf := hf.lit 10 rfl hc
   refine pz 5 hf fun a hf => ?_
   obtain rfl := oi hGc
   have hf := hf.pn [6]
   have H := H.lt_ [] [] [] []
   exact wl_end ⟨hf, H⟩
  ·have hf := hf.lit 10 rfl hc
   refine pz 5 hf fun a hf => ?_
   obtain rfl := oi hGc
   have hf := hf.pn [6]
   have H := H.lt_ [] [] [] []
   exact wl_end ⟨hf, H⟩
 refine then_n (wp_ret (?_))
 obtain rfl := oi hF
 refine rT hf ?_
 exact ⟨_, rfl, H.bel, mk_bool⟩
theorem spec_l18Rates_ok {S : Nat → Prop} {v0_ : Value} {v1_ : Value} {rates : List Int} {capacity : Int} {r : Bool} (h0 : VR w0 S v0_ rates) (h1 : VR w0 S v1_ capacity) (hF : spec_l18Rates fu rates capacity = some r) :
    Calls Try.prog 19 [v0_, v1_].toArray w0 fun e w' => ∃ v, e = .returned v ∧ (Below w0.heap.size w0 w' ∧ VR w' (St ⟨w0, []⟩ S [] [] [] true) v r) := by
 obtain ⟨A, c, rfl, hl⟩ := VR_list h0
 obtain rfl := VR_int h1
 have H := Mem.start ⟨w0, []⟩ S
 have H := H.pA hl
 refine en Try.func19 fun a hf => ?_
 rw [spec_l18Rates] at hF
 refine sqz (pz 1 hf fun a hf => ?_)
 refine we (sqz (pz 1 hf fun a hf => ?_))
 refine wl_end (then_n ?_)
 obtain ⟨out', hB1, hF⟩ := bs_ hF
 have hf := hf.pn [0, 1, 5]
 have H := H.lt_ [] [] [] [0]
 refine loopC (fun (s : Int) (a : Act) (w : World) => match s with | i => Fr a 30 [(0, (.slice A rates.length c)), (1, (.int .i64 capacity)), (5, (.int .i64 i))] ∧ Mem ⟨w0, []⟩ S [] [] [] [(false, MP.val [(.slice A rates.length c)] (rates : List Int))] w) (fun k (s : Int) => spec_l18Rates_L1 fu rates capacity k s = some out') (fun s => out' = Out.next s) 0 fu hB1 ⟨hf, H⟩ (fun s h => by cases h) ?_ ?_
 ·rintro fk i a w hR1 hI
  replace hR1 : spec_l18Rates_L1 fu rates capacity (fk + 1) i = some out' := hR1
  rw [spec_l18Rates_L1] at hR1
  obtain ⟨hf, H⟩ := hI
  refine sq (sq ?_)
  obtain ⟨c2, hGc2, hR1⟩ := bs_ hR1
  have fh := hf.prune [0, 1, 5] rfl
  have Hm := H.lt_ [] [] [] [0]
  refine midF 13 (.bool c2) fh Hm ?_ fun a w hf H => ?_
  ·refine reg (pz 5 hf fun a hf => ?_)
   refine iteB hGc2 (fun hc hGc2 => ?_) fun hc hGc2 => ?_
   ·have hf := hf.lit 10 rfl hc
    refine pz 3 hf fun a hf => ?_
    obtain rfl := oi hGc2
    have hf := hf.pn [13, 0, 1, 5]
    have H := H.lt_ [] [] [] [0]
    exact wl_end ⟨hf, H⟩
   ·have hf := hf.lit 10 rfl hc
    refine pz 3 hf fun a hf => ?_
    obtain rfl := oi hGc2
    have hf := hf.pn [13, 0, 1, 5]
    have H := H.lt_ [] [] [] [0]
    exact wl_end ⟨hf, H⟩
  refine then_n (ib hR1 hf (fun hc2 hR1 => ?_) fun hc2 hR1 => ?_)
  ·refine ws (pz 2 hf fun a hf => ?_)
   obtain ⟨e, he, hR1⟩ := bs_ hR1
   refine wl0 rfl (op_iaddr hf H Try.underlying24 TF.sz3 0 rfl rfl rfl he (by decide) fun p o cs a hf hr H => ?_)
   obtain rfl := hr
   refine oq hf (rq_loadI hf H TF.ls3 0 0 rfl rfl rfl) fun a hf => ?_
   refine pz 1 hf fun a hf => ?_
   obtain ⟨y, hy, hR1⟩ := bs_ hR1
   refine oc hf TF.cl36 (spec_l1In_ok (S := TT) mk_int mk_int mk_int hy) fun v w a hp hf => ?_
   obtain ⟨hb, hp⟩ := hp
   obtain rfl := VR_bool hp
   have H := H.keep hb
   refine pz 1 hf fun a hf => ?_
   refine wl_end (then_n (ib hR1 hf (fun hc3 hR1 => ?_) fun hc3 hR1 => ?_))
   ·refine sqz (pz 1 hf fun a hf => ?_)
    refine wl_end (then_n (wp_ret (blk_r (then_r (then_r (blk_r (then_r (then_r (?_)))))))))
    obtain rfl := oi hR1
    replace hF := on_ret hF
    obtain rfl := oi hF
    refine rT hf ?_
    exact ⟨_, rfl, H.bel, mk_bool⟩
   ·refine wp_skip (blk_n (then_n (reg (pz 3 hf fun a hf => ?_))))
    refine wl_end ?_
    have hf := hf.pn [0, 1, 5]
    have H := H.lt_ [] [] [] [1]
    exact then_n ⟨w64 (i + 1), hR1, hf, H⟩
  ·refine wp_exit (then_x (then_x (blk_e (?_))))
   have hf := hf.pn [0, 1, 5]
   have H := H.lt_ [] [] [] [0]
   exact ⟨i, (Option.some.inj hR1).symm, hf, H⟩
 rintro a w ⟨i2, rfl, hf, H⟩
 replace hF := on_next hF
 refine then_n (sq ?_)
 obtain ⟨c3, hGc3, hF⟩ := bs_ hF
 have fh2 := hf.prune [] rfl
 have Hm2 := H.lt_ [] [] [] []
 refine midF 4 (.bool c3) fh2 Hm2 ?_ fun a w hf H => ?_
 ·refine reg (pz 4 hf fun a hf => ?_)
  refine iteB hGc3 (fun hc4 hGc3 => ?_) fun hc4 hGc3 => ?_
  ·have hf := hf.lit 26 rfl hc4
   refine pz 1 hf fun a hf => ?_
   obtain ⟨y2, hy2, hGc3⟩ := bs_ hGc3
   refine wlg hf rfl rfl rfl (oC hf TF.cl36 (spec_l1In_ok (S := TT) mk_int mk_int mk_int hy2) fun v2 w a hp2 hf => ?_)
   obtain ⟨hb2, hp2⟩ := hp2
   obtain rfl := VR_bool hp2
   have H := H.keep hb2
   refine pz 2 hf fun a hf => ?_
   obtain rfl := oi hGc3
   have hf := hf.pn [4]
   have H := H.lt_ [] [] [] []
   exact wl_end ⟨hf, H⟩
  ·have hf := hf.lit 26 rfl hc4
   refine pz 4 hf fun a hf => ?_
   obtain rfl := oi hGc3
   have hf := hf.pn [4]
   have H := H.lt_ [] [] [] []
   exact wl_end ⟨hf, H⟩
 refine then_n (wp_ret (?_))
 obtain rfl := oi hF
 refine rT hf ?_
 exact ⟨_, rfl, H.bel, mk_bool⟩
theorem spec_l18Order_ok {S : Nat → Prop} {v0_ : Value} {v1_ : Value} {rates : List Int} {descending : Bool} {r : List Int} (h0 : VR w0 S v0_ rates) (h1 : VR w0 S v1_ descending) (hF : spec_l18Order fu rates descending = some r) :
    Calls Try.prog 21 [v0_, v1_].toArray w0 fun e w' => ∃ v, e = .returned v ∧ (Below w0.heap.size w0 w' ∧ ∃ F0, VO w' F0 v r ∧ New w0 w' F0) := by
 obtain ⟨A, c, rfl, hl⟩ := VR_list h0
 obtain rfl := VR_bool h1
 have H := Mem.start ⟨w0, []⟩ S
 have H := H.pA hl
 refine en Try.func21 fun a hf => ?_
 rw [spec_l18Order] at hF
 refine sqz (pz 1 hf fun a hf => ?_)
 refine wr (wl0 rfl (bl hf H 3 ([] : List Int) [] el0 fun A2 a w hf H => ?_))
 refine pz 1 hf fun a hf => ?_
 refine we (sqz (pz 1 hf fun a hf => ?_))
 refine wl_end (then_n ?_)
 obtain ⟨out2, hB1, hF⟩ := bs_ hF
 have hf := hf.pn [0, 1, 5, 6]
 have H := H.lt_ [] [true] [] [0]
 refine loopC (fun (s : List Int × Int) (a : Act) (w : World) => match s with | (out', i) => ∃ (A3 : Option Addr) (c2 : Nat) (E : Go.TypeId), Fr a 52 [(0, (.slice A rates.length c)), (1, (.bool descending)), (5, (.slice A3 out'.length c2)), (6, (.int .i64 i))] ∧ Mem ⟨w0, []⟩ S [] [⟨.sh true, E, A3, c2, (out' : List Int)⟩] [] [(false, MP.val [(.slice A rates.length c)] (rates : List Int))] w) (fun k (s : List Int × Int) => spec_l18Order_L1 fu rates descending k s.1 s.2 = some out2) (fun s => out2 = s) (([] : List Int), 0) fu hB1 ⟨A2, 0, 3, hf, H⟩ (fun s h => by cases h) ?_ ?_
 ·rintro fk ⟨out', i⟩ a w hR1 hI
  replace hR1 : spec_l18Order_L1 fu rates descending (fk + 1) out' i = some out2 := hR1
  rw [spec_l18Order_L1] at hR1
  obtain ⟨A3, c2, E, hf, H⟩ := hI
  refine sq (sqz (pz 4 hf fun a hf => ?_))
  refine wl_end (then_n (ib hR1 hf (fun hc hR1 => ?_) fun hc hR1 => ?_))
  ·refine ws (pz 3 hf fun a hf => ?_)
   refine wl_end (then_n (sq ?_))
   obtain ⟨out3, hB2, hR1⟩ := bs_ hR1
   have hf := hf.pn [0, 1, 5, 6, 7]
   have H := H.lt_ [] [true] [] [0]
   refine loopC (fun (s : Int) (a : Act) (w : World) => match s with | k' => Fr a 52 [(0, (.slice A rates.length c)), (1, (.bool descending)), (5, (.slice A3 out'.length c2)), (6, (.int .i64 i)), (7, (.int .i64 k'))] ∧ Mem ⟨w0, []⟩ S [] [⟨.sh true, E, A3, c2, (out' : List Int)⟩] [] [(false, MP.val [(.slice A rates.length c)] (rates : List Int))] w) (fun k (s : Int) => spec_l18Order_L2 fu rates descending out' i k s = some out3) (fun s => out3 = s) (out'.length : Int) fu hB2 ⟨hf, H⟩ (fun s h => by cases h) ?_ ?_
   ·rintro fk k' a w hR2 hI
    replace hR2 : spec_l18Order_L2 fu rates descending out' i (fk + 1) k' = some out3 := hR2
    rw [spec_l18Order_L2] at hR2
    obtain ⟨hf, H⟩ := hI
    refine sq (sq ?_)
    obtain ⟨c3, hGc3, hR2⟩ := bs_ hR2
    have fh := hf.prune [0, 1, 5, 6, 7] rfl
    have Hm := H.lt_ [] [true] [] [0]
    refine midF 36 (.bool c3) fh Hm ?_ fun a w hf H => ?_
    ·refine dw [] 20 fun w hb => ?_
     have H := H.keep hb
     refine zp 0 hf trivial fun a hf => ?_
     refine zp 1 hf trivial fun a hf => ?_
     refine iteB hGc3 (fun hc2 hGc3 => ?_) fun hc2 hGc3 => ?_
     ·have hf := hf.lit 18 rfl hc2
      refine zg 2 hf trivial fun a hf => ?_
      refine zg 3 hf trivial fun a hf => ?_
      refine zp 4 hf trivial fun a hf => ?_
      refine zp 5 hf trivial fun a hf => ?_
      refine iteB hGc3 (fun hc3 hGc3 => ?_) fun hc3 hGc3 => ?_
      ·have hf := hf.lit 22 rfl hc3
       refine zg 6 hf trivial fun a hf => ?_
       refine zg 7 hf trivial fun a hf => ?_
       refine zg 8 hf trivial fun a hf => ?_
       refine zg 9 hf trivial fun a hf => ?_
       obtain ⟨e, he, hGc3⟩ := bs_ hGc3
       obtain ⟨p, o, hA, hx⟩ := pre_iaddrR H Try.underlying24 TF.sz3 0 rfl he
       refine tPg 10 rfl rfl rfl rfl rfl rfl hf (by kernel_rfl) (fun _ => trivial) (fun w => rq_iaddrE hf rfl rfl rfl hx w) fun a hf => ?_
       refine strT (H.lt_ [] [true] [] []) (fun w H => trivial) fun hS => ?_
       refine tSg 11 [] rfl rfl rfl rfl rfl rfl hf (by kernel_rfl) (by kernel_rfl) hS (fun w H => rq_loadRow (off := 0) hf H TF.ls3 0 rfl rfl hA he (fun w T cs h => by obtain rfl := h; rfl)) fun a hf => ?_
       obtain ⟨e2, he2, hGc3⟩ := bs_ hGc3
       obtain ⟨p2, o2, cs, hx2, hr, H⟩ := pre_iaddr H Try.underlying24 TF.sz3 0 rfl he2
       refine tPg 12 rfl rfl rfl rfl rfl rfl hf (by kernel_rfl) (fun _ => hS) (fun w => rq_iaddrE hf rfl rfl rfl hx2 w) fun a hf => ?_
       obtain rfl := hr
       refine strT (H.lt_ [] [true] [] [0]) (fun w H => H.lt_ [] [true] [] []) fun hS => ?_
       refine tSg 13 [] rfl rfl rfl rfl rfl rfl hf (by kernel_rfl) (by kernel_rfl) hS (fun w H => rq_loadI hf H TF.ls3 0 0 rfl rfl rfl) fun a hf => ?_
       refine zg 14 hf hS fun a hf => ?_
       refine zg 15 hf hS fun a hf => ?_
       obtain ⟨e3, he3, hGc3⟩ := bs_ hGc3
       obtain ⟨p3, o3, cs2, hx3, hr2, H⟩ := pre_iaddr H Try.underlying24 TF.sz3 1 rfl he3
       refine tPg 16 rfl rfl rfl rfl rfl rfl hf (by kernel_rfl) (fun _ => hS) (fun w => rq_iaddrE hf rfl rfl rfl hx3 w) fun a hf => ?_
       obtain rfl := hr2
       refine strT (H.lt_ [] [true] [] [0, 1]) (fun w H => H.lt_ [] [true] [] [1]) fun hS => ?_
       refine tSg 17 [] rfl rfl rfl rfl rfl rfl hf (by kernel_rfl) (by kernel_rfl) hS (fun w H => rq_loadI hf H TF.ls3 0 0 rfl rfl rfl) fun a hf => ?_
       refine zg 18 hf hS fun a hf => ?_
       refine zp 19 hf hS fun a hf => ?_
       refine dk ?_
       obtain rfl := oi hGc3
       have hf := hf.pn [36, 0, 1, 5, 6, 7]
       have H := H.lt_ [] [true] [] [2]
       exact ⟨hf, H⟩
      ·have hf := hf.lit 22 rfl hc3
       refine zU 6 hf trivial fun a hf => ?_
       refine zU 7 hf trivial fun a hf => ?_
       refine zU 8 hf trivial fun a hf => ?_
       refine zU 9 hf trivial fun a hf => ?_
       refine zU 10 hf trivial fun a hf => ?_
       refine zU 11 hf trivial fun a hf => ?_
       refine zU 12 hf trivial fun a hf => ?_
       refine zU 13 hf trivial fun a hf => ?_
       refine zU 14 hf trivial fun a hf => ?_
       refine zU 15 hf trivial fun a hf => ?_
       refine zU 16 hf trivial fun a hf => ?_
       refine zU 17 hf trivial fun a hf => ?_
       refine zU 18 hf trivial fun a hf => ?_
       refine zp 19 hf trivial fun a hf => ?_
       refine dk ?_
       obtain rfl := oi hGc3
       have hf := hf.pn [36, 0, 1, 5, 6, 7]
       have H := H.lt_ [] [true] [] [0]
       exact ⟨hf, H⟩
     ·have hf := hf.lit 18 rfl hc2
      refine zU 2 hf trivial fun a hf => ?_
      refine zU 3 hf trivial fun a hf => ?_
      refine zp 4 hf trivial fun a hf => ?_
      refine zp 5 hf trivial fun a hf => ?_
      refine zU 6 hf trivial fun a hf => ?_
      refine zU 7 hf trivial fun a hf => ?_
      refine zU 8 hf trivial fun a hf => ?_
      refine zU 9 hf trivial fun a hf => ?_
      refine zU 10 hf trivial fun a hf => ?_
      refine zU 11 hf trivial fun a hf => ?_
      refine zU 12 hf trivial fun a hf => ?_
      refine zU 13 hf trivial fun a hf => ?_
      refine zU 14 hf trivial fun a hf => ?_
      refine zU 15 hf trivial fun a hf => ?_
      refine zU 16 hf trivial fun a hf => ?_
      refine zU 17 hf trivial fun a hf => ?_
      refine zU 18 hf trivial fun a hf => ?_
      refine zp 19 hf trivial fun a hf => ?_
      refine dk ?_
      obtain rfl := oi hGc3
      have hf := hf.pn [36, 0, 1, 5, 6, 7]
      have H := H.lt_ [] [true] [] [0]
      exact ⟨hf, H⟩
    refine then_n (ib hR2 hf (fun hc4 hR2 => ?_) fun hc4 hR2 => ?_)
    ·refine wp_skip (then_n (wp_block (reg (pz 3 hf fun a hf => ?_))))
     refine wl_end (blk_n ?_)
     have hf := hf.pn [0, 1, 5, 6, 7]
     have H := H.lt_ [] [true] [] [0]
     exact then_n ⟨w64 (k' - 1), hR2, hf, H⟩
    ·refine wp_exit (then_x (then_x (blk_e (?_))))
     have hf := hf.pn [0, 1, 5, 6, 7]
     have H := H.lt_ [] [true] [] [0]
     exact ⟨k', (Option.some.inj hR2).symm, hf, H⟩
   rintro a w ⟨out3, rfl, hf, H⟩
   refine then_n ?_
   obtain ⟨l, hl_, hR1⟩ := bs_ hR1
   obtain ⟨l2, hl2_, hR1⟩ := bs_ hR1
   obtain ⟨l3, hl3_, hR1⟩ := bs_ hR1
   obtain ⟨l4, hl4_, hR1⟩ := bs_ hR1
   obtain ⟨l5, hl5_, hR1⟩ := bs_ hR1
   refine mid (fun a w => ∃ (A10 : Option Addr) (c8 : Nat) (E4 : Go.TypeId), Fr a 52 [(0, (.slice A rates.length c)), (1, (.bool descending)), (5, (.slice A10 l5.length c8)), (6, (.int .i64 i))] ∧ Mem ⟨w0, []⟩ S [] [⟨.sh true, E4, A10, c8, (l5 : List Int)⟩] [] [(false, MP.val [(.slice A rates.length c)] (rates : List Int))] w) ?_ ?_
   ·refine dw [] 13 fun w hb => ?_
    have H := H.keep hb
    refine zp 1 hf trivial fun a hf => ?_
    refine zp 2 hf trivial fun a hf => ?_
    have H := H.freeze 0 rfl
    obtain ⟨A4, c4, hx4, H⟩ := pre_slice H Try.underlying24 TF.sz3 0 (lov := none) (hiv := some (.int .i64 out3)) (.inl ⟨rfl, rfl⟩) (.inr rfl) rfl hl_
    refine tP 3 rfl rfl rfl rfl hf (by kernel_rfl) (fun _ => trivial) (fun w => rq_sliceE hf rfl rfl rfl hx4 w) fun a hf => ?_
    refine zp 5 hf trivial fun a hf => ?_
    refine zp 8 hf trivial fun a hf => ?_
    refine zp 9 hf trivial fun a hf => ?_
    obtain ⟨A5, c5, hx5, H⟩ := pre_slice H Try.underlying24 TF.sz3 1 (lov := some (.int .i64 out3)) (hiv := none) (.inr rfl) (.inl ⟨rfl, rfl⟩) rfl hl2_
    refine tP 10 rfl rfl rfl rfl hf (by kernel_rfl) (fun _ => trivial) (fun w => rq_sliceE hf rfl rfl rfl hx5 w) fun a hf => ?_
    refine on2 (i := 0) (j := 6) (bi := [true, true, true, true, false, true, false, false, true, true, true, false, false]) (bj := [false, true, true, true, false, true, true, false, true, true, true, false, false]) (by kernel_rfl) rfl rfl rfl rfl rfl rfl ?_ ?_
    ·refine (bl hf H 3 ([] : List Int) [] el0 fun A6 a w hf H => ?_)
     refine ⟨fun _ => trivial, ?_⟩
     refine on2 (i := 4) (j := 6) (bi := [true, true, true, true, true, true, false, false, true, true, true, false, false]) (bj := [true, true, true, true, false, true, true, false, true, true, true, false, false]) (by kernel_rfl) rfl rfl rfl rfl rfl rfl ?_ ?_
     ·refine (op_appI hf H Try.underlying24 TF.ai3 rfl (by decide) 0 1 rfl rfl rfl rfl (.inr rfl) hl3_ (by decide) fun E2 A7 c6 a w hf H => ?_)
      refine ⟨fun _ => trivial, ?_⟩
      refine nn 6 rfl (bl hf H 3 ([i] : List Int) [(.int .i64 i)] (el1 (y := i) (rfl)) fun A8 a w hf H => ?_)
      refine ⟨fun _ => trivial, ?_⟩
      refine nn 7 rfl (op_appR hf H Try.underlying24 TF.ai3 rfl (by decide) 1 0 rfl rfl rfl rfl (.inr rfl) hl4_ (by decide) fun E3 A9 c7 a w hf H => ?_)
      refine ⟨fun _ => trivial, ?_⟩
      refine nn 11 rfl (op_appI hf H Try.underlying24 TF.ai3 rfl (by decide) 1 0 rfl rfl rfl rfl (.inr rfl) hl5_ (by decide) fun E4 A10 c8 a w hf H => ?_)
      refine ⟨fun _ => trivial, ?_⟩
      refine zp 12 hf trivial fun a hf => ?_
      refine dk ?_
      have hf := hf.pn [0, 1, 5, 6]
      have H := H.lt_ [] [false, true] [] [3]
      exact ⟨A10, c8, E4, hf, H⟩
     ·refine (bl hf H 3 ([i] : List Int) [(.int .i64 i)] (el1 (y := i) (rfl)) fun A7 a w hf H => ?_)
      refine ⟨fun _ => trivial, ?_⟩
      refine nn 4 rfl (op_appI hf H Try.underlying24 TF.ai3 rfl (by decide) 1 1 rfl rfl rfl rfl (.inr rfl) hl3_ (by decide) fun E2 A8 c6 a w hf H => ?_)
      refine ⟨fun _ => trivial, ?_⟩
      refine nn 7 rfl (op_appR hf H Try.underlying24 TF.ai3 rfl (by decide) 1 0 rfl rfl rfl rfl (.inr rfl) hl4_ (by decide) fun E3 A9 c7 a w hf H => ?_)
      refine ⟨fun _ => trivial, ?_⟩
      refine nn 11 rfl (op_appI hf H Try.underlying24 TF.ai3 rfl (by decide) 1 0 rfl rfl rfl rfl (.inr rfl) hl5_ (by decide) fun E4 A10 c8 a w hf H => ?_)
      refine ⟨fun _ => trivial, ?_⟩
      refine zp 12 hf trivial fun a hf => ?_
      refine dk ?_
      have hf := hf.pn [0, 1, 5, 6]
      have H := H.lt_ [] [false, true] [] [3]
      exact ⟨A10, c8, E4, hf, H⟩
    ·refine (bl hf H 3 ([i] : List Int) [(.int .i64 i)] (el1 (y := i) (rfl)) fun A6 a w hf H => ?_)
     refine ⟨fun _ => trivial, ?_⟩
     refine nn 0 rfl (bl hf H 3 ([] : List Int) [] el0 fun A7 a w hf H => ?_)
     refine ⟨fun _ => trivial, ?_⟩
     refine nn 4 rfl (op_appI hf H Try.underlying24 TF.ai3 rfl (by decide) 0 1 rfl rfl rfl rfl (.inr rfl) hl3_ (by decide) fun E2 A8 c6 a w hf H => ?_)
     refine ⟨fun _ => trivial, ?_⟩
     refine nn 7 rfl (op_appR hf H Try.underlying24 TF.ai3 rfl (by decide) 0 1 rfl rfl rfl rfl (.inr rfl) hl4_ (by decide) fun E3 A9 c7 a w hf H => ?_)
     refine ⟨fun _ => trivial, ?_⟩
     refine nn 11 rfl (op_appI hf H Try.underlying24 TF.ai3 rfl (by decide) 0 0 rfl rfl rfl rfl (.inr rfl) hl5_ (by decide) fun E4 A10 c8 a w hf H => ?_)
     refine ⟨fun _ => trivial, ?_⟩
     refine zp 12 hf trivial fun a hf => ?_
     refine dk ?_
     have hf := hf.pn [0, 1, 5, 6]
     have H := H.lt_ [] [true, false] [] [3]
     exact ⟨A10, c8, E4, hf, H⟩
   rintro a w ⟨A10, c8, E4, hf, H⟩
   refine blk_n (then_n (reg (pz 3 hf fun a hf => ?_)))
   refine wl_end ?_
   have hf := hf.pn [0, 1, 5, 6]
   have H := H.lt_ [] [true] [] [0]
   exact then_n ⟨(l5, w64 (i + 1)), hR1, A10, c8, E4, hf, H⟩
  ·refine wp_exit (then_x (then_x (blk_e (?_))))
   have hf := hf.pn [0, 1, 5, 6]
   have H := H.lt_ [] [true] [] [0]
   exact ⟨(out', i), (Option.some.inj hR1).symm, A3, c2, E, hf, H⟩
 rintro a w ⟨⟨out4, i2⟩, rfl, A11, c9, E5, hf, H⟩
 try dsimp only at hF
 refine then_n (sqz (pz 2 hf fun a hf => ?_))
 refine wer ?_
 have H := H.rowOwn 0 rfl rfl
 obtain ⟨F, H⟩ := H.freezeOwn 0 rfl
 have H := H.lend 0 rfl
 obtain rfl := oi hF
 refine rT hf ?_
 have hN := H.ends1
 exact ⟨_, rfl, H.bel, F, (mko_list (H.ownAt 0 rfl)), by first | exact hN | simpa using hN⟩
theorem spec_l18Pack_ok {S : Nat → Prop} {v0_ : Value} {v1_ : Value} {v2_ : Value} {rates : List Int} {order : List Int} {capacity : Int} {r : List Int × Int} (h0 : VR w0 S v0_ rates) (h1 : VR w0 S v1_ order) (h2 : VR w0 S v2_ capacity) (hF : spec_l18Pack fu rates order capacity = some r) :
    Calls Try.prog 20 [v0_, v1_, v2_].toArray w0 fun e w' => ∃ v, e = .returned v ∧ (Below w0.heap.size w0 w' ∧ ∃ F0, ∃ u0 u1, v = .tuple #[u0, u1] ∧ VO w' F0 u0 r.1 ∧ VR w' (St ⟨w0, []⟩ S [] [] [] true) u1 r.2 ∧ New w0 w' F0) := by
 obtain ⟨A, c, rfl, hl⟩ := VR_list h0
 obtain ⟨A2, c2, rfl, hl2⟩ := VR_list h1
 obtain rfl := VR_int h2
 have H := Mem.start ⟨w0, []⟩ S
 have H := H.pA hl
 have H := H.pA hl2
 refine en Try.func20 fun a hf => ?_
 rw [spec_l18Pack] at hF
 refine sqz (pz 2 hf fun a hf => ?_)
 refine wr (pz 2 hf fun a hf => ?_)
 obtain ⟨l, hl_, hF⟩ := bs_ hF
 refine wl0 rfl (op_make (z0 := (0 : Int)) hf H Try.underlying24 TF.ai3 rfl (by decide) rfl rfl rfl hl_ (by decide) fun A3 c3 a w hf H => ?_)
 refine pz 1 hf fun a hf => ?_
 refine wr (wl0 rfl (bl hf H 3 ([] : List Int) [] el0 fun A4 a w hf H => ?_))
 refine pz 1 hf fun a hf => ?_
 refine we (sqz (pz 1 hf fun a hf => ?_))
 refine wl_end (then_n ?_)
 obtain ⟨out2, hB1, hF⟩ := bs_ hF
 have hf := hf.pn [0, 1, 2, 8, 9, 10]
 have H := H.lt_ [] [true, true] [] [0, 1]
 refine loopC (fun (s : List Int × List Int × Int) (a : Act) (w : World) => match s with | (out', room, i) => ∃ (A5 : Option Addr) (c4 : Nat) (E : Go.TypeId) (A6 : Option Addr) (c5 : Nat) (E2 : Go.TypeId), Fr a 71 [(0, (.slice A rates.length c)), (1, (.slice A2 order.length c2)), (2, (.int .i64 capacity)), (8, (.slice A5 out'.length c4)), (9, (.slice A6 room.length c5)), (10, (.int .i64 i))] ∧ Mem ⟨w0, []⟩ S [] [⟨.sh true, E2, A6, c5, (room : List Int)⟩, ⟨.sh true, E, A5, c4, (out' : List Int)⟩] [] [(false, MP.val [(.slice A2 order.length c2)] (order : List Int)), (false, MP.val [(.slice A rates.length c)] (rates : List Int))] w) (fun k (s : List Int × List Int × Int) => spec_l18Pack_L1 fu rates order capacity k s.1 s.2.1 s.2.2 = some out2) (fun s => out2 = s) (l, ([] : List Int), 0) fu hB1 ⟨A3, c3, 3, A4, 0, 3, hf, H⟩ (fun s h => by cases h) ?_ ?_
 ·rintro fk ⟨out', room, i⟩ a w hR1 hI
  replace hR1 : spec_l18Pack_L1 fu rates order capacity (fk + 1) out' room i = some out2 := hR1
  rw [spec_l18Pack_L1] at hR1
  obtain ⟨A5, c4, E, A6, c5, E2, hf, H⟩ := hI
  refine sq (sqz (pz 4 hf fun a hf => ?_))
  refine wl_end (then_n (ib hR1 hf (fun hc hR1 => ?_) fun hc hR1 => ?_))
  ·refine ws (pz 3 hf fun a hf => ?_)
   obtain ⟨e, he, hR1⟩ := bs_ hR1
   refine wl0 rfl (op_iaddr hf H Try.underlying24 TF.sz3 0 rfl rfl rfl he (by decide) fun p o cs a hf hr H => ?_)
   obtain rfl := hr
   refine oq hf (rq_loadI hf H TF.ls3 0 0 rfl rfl rfl) fun a hf => ?_
   obtain ⟨e2, he2, hR1⟩ := bs_ hR1
   refine wl0 rfl (op_iaddr hf H Try.underlying24 TF.sz3 2 rfl rfl rfl he2 (by decide) fun p2 o2 cs2 a hf hr2 H => ?_)
   obtain rfl := hr2
   refine oq hf (rq_loadI hf H TF.ls3 0 0 rfl rfl rfl) fun a hf => ?_
   refine pz 1 hf fun a hf => ?_
   refine wr (pz 1 hf fun a hf => ?_)
   refine wl_end (then_n (sq ?_))
   obtain ⟨out3, hB2, hR1⟩ := bs_ hR1
   have hf := hf.pn [0, 1, 2, 8, 9, 10, 11, 12]
   have H := H.lt_ [] [true, true] [] [2, 3]
   refine loopC (fun (s : Int) (a : Act) (w : World) => match s with | k' => Fr a 71 [(0, (.slice A rates.length c)), (1, (.slice A2 order.length c2)), (2, (.int .i64 capacity)), (8, (.slice A5 out'.length c4)), (9, (.slice A6 room.length c5)), (10, (.int .i64 i)), (11, (.int .i64 e2)), (12, (.int .i64 k'))] ∧ Mem ⟨w0, []⟩ S [] [⟨.sh true, E2, A6, c5, (room : List Int)⟩, ⟨.sh true, E, A5, c4, (out' : List Int)⟩] [] [(false, MP.val [(.slice A2 order.length c2)] (order : List Int)), (false, MP.val [(.slice A rates.length c)] (rates : List Int))] w) (fun k (s : Int) => spec_l18Pack_L2 fu e2 room k s = some out3) (fun s => out3 = s) 0 fu hB2 ⟨hf, H⟩ (fun s h => by cases h) ?_ ?_
   ·rintro fk k' a w hR2 hI
    replace hR2 : spec_l18Pack_L2 fu e2 room (fk + 1) k' = some out3 := hR2
    rw [spec_l18Pack_L2] at hR2
    obtain ⟨hf, H⟩ := hI
    refine sq (sq ?_)
    obtain ⟨c6, hGc6, hR2⟩ := bs_ hR2
    have fh := hf.prune [0, 1, 2, 8, 9, 10, 11, 12] rfl
    have Hm := H.lt_ [] [true, true] [] [0, 1]
    refine midF 41 (.bool c6) fh Hm ?_ fun a w hf H => ?_
    ·refine reg (pz 5 hf fun a hf => ?_)
     refine iteB hGc6 (fun hc2 hGc6 => ?_) fun hc2 hGc6 => ?_
     ·have hf := hf.lit 34 rfl hc2
      refine pz 2 hf fun a hf => ?_
      obtain ⟨e3, he3, hGc6⟩ := bs_ hGc6
      refine wlg hf rfl rfl rfl (op_iaddrR hf H Try.underlying24 TF.sz3 0 rfl rfl rfl he3 (by decide) fun p3 o3 cs3 a hf hA hr3 hk => ?_)
      obtain rfl := hr3
      refine wlg hf rfl rfl rfl (op_q hf (rq_load1 hf TF.ls3 rfl (hk 0 _ rfl)) rfl (by decide) fun a hf => ?_)
      refine pz 3 hf fun a hf => ?_
      obtain rfl := oi hGc6
      have hf := hf.pn [41, 0, 1, 2, 8, 9, 10, 11, 12]
      have H := H.lt_ [] [true, true] [] [0, 1]
      exact wl_end ⟨hf, H⟩
     ·have hf := hf.lit 34 rfl hc2
      refine pz 7 hf fun a hf => ?_
      obtain rfl := oi hGc6
      have hf := hf.pn [41, 0, 1, 2, 8, 9, 10, 11, 12]
      have H := H.lt_ [] [true, true] [] [0, 1]
      exact wl_end ⟨hf, H⟩
    refine then_n (ib hR2 hf (fun hc3 hR2 => ?_) fun hc3 hR2 => ?_)
    ·refine wp_skip (then_n (wp_block (reg (pz 3 hf fun a hf => ?_))))
     refine wl_end (blk_n ?_)
     have hf := hf.pn [0, 1, 2, 8, 9, 10, 11, 12]
     have H := H.lt_ [] [true, true] [] [0, 1]
     exact then_n ⟨w64 (k' + 1), hR2, hf, H⟩
    ·refine wp_exit (then_x (then_x (blk_e (?_))))
     have hf := hf.pn [0, 1, 2, 8, 9, 10, 11, 12]
     have H := H.lt_ [] [true, true] [] [0, 1]
     exact ⟨k', (Option.some.inj hR2).symm, hf, H⟩
   rintro a w ⟨out3, rfl, hf, H⟩
   refine then_n (sq (sqz (pz 4 hf fun a hf => ?_)))
   refine wl_end (then_n (ib hR1 hf (fun hc4 hR1 => ?_) fun hc4 hR1 => ?_))
   ·refine reg (pz 2 hf fun a hf => ?_)
    refine wl0 rfl (bl hf H 3 ([capacity] : List Int) [(.int .i64 capacity)] (el1 (y := capacity) (rfl)) fun A7 a w hf H => ?_)
    obtain ⟨l2, hl2_, hR1⟩ := bs_ hR1
    refine wl0 rfl (op_appR hf H Try.underlying24 TF.ai3 rfl (by decide) 1 0 rfl rfl rfl rfl (.inr rfl) hl2_ (by decide) fun E3 A8 c7 a w hf H => ?_)
    refine pz 1 hf fun a hf => ?_
    refine wr (pz 4 hf fun a hf => ?_)
    obtain ⟨e4, he4, hR1⟩ := bs_ hR1
    refine wl0 rfl (op_iaddrR hf H Try.underlying24 TF.sz3 1 rfl rfl rfl he4 (by decide) fun p4 o4 cs4 a hf hA2 hr4 hk2 => ?_)
    obtain rfl := hr4
    refine oq hf (rq_load1 hf TF.ls3 rfl (hk2 0 _ rfl)) fun a hf => ?_
    refine pz 2 hf fun a hf => ?_
    obtain ⟨e5, he5, hR1⟩ := bs_ hR1
    refine wl0 rfl (op_iaddrR hf H Try.underlying24 TF.sz3 1 rfl rfl rfl he5 (by decide) fun p5 o5 cs5 a hf hA3 hr5 hk3 => ?_)
    obtain rfl := hr5
    refine wl0 rfl (op_storeR (e' := w64 (e4 - e2)) (o := o5) (off := 0) hf H TF.sz3 1 rfl rfl rfl rfl rfl (nle rfl) rfl hA3 he5 (st_full rfl) fun w H => ?_)
    replace hf : Fr a 71 [(0, (.slice A rates.length c)), (1, (.slice A2 order.length c2)), (2, (.int .i64 capacity)), (8, (.slice A5 out'.length c4)), (9, (.slice A8 l2.length c7)), (10, (.int .i64 i)), (11, (.int .i64 e2)), (12, (.int .i64 out3)), (52, (.slice A8 l2.length c7)), (53, (.int .i64 out3)), (54, (.slice A8 l2.length c7)), (55, (.int .i64 out3)), (56, (.pointer (some ⟨p4, o4 + 0, none⟩))), (57, (.int .i64 e4)), (58, (.int .i64 e2)), (59, (.int .i64 (w64 (e4 - e2)))), (60, (.pointer (some ⟨p5, o5 + 0, none⟩)))] := hf.prune [0, 1, 2, 8, 9, 10, 11, 12, 52, 53, 54, 55, 56, 57, 58, 59, 60] rfl
    replace hf : Fr a 71 [(0, (.slice A rates.length c)), (1, (.slice A2 order.length c2)), (2, (.int .i64 capacity)), (8, (.slice A5 out'.length c4)), (9, (.slice A8 (l2.set (out3 : Int).toNat (w64 (e4 - e2))).length c7)), (10, (.int .i64 i)), (11, (.int .i64 e2)), (12, (.int .i64 out3)), (52, (.slice A8 (l2.set (out3 : Int).toNat (w64 (e4 - e2))).length c7)), (53, (.int .i64 out3)), (54, (.slice A8 (l2.set (out3 : Int).toNat (w64 (e4 - e2))).length c7)), (55, (.int .i64 out3)), (56, (.pointer (some ⟨p4, o4 + 0, none⟩))), (57, (.int .i64 e4)), (58, (.int .i64 e2)), (59, (.int .i64 (w64 (e4 - e2)))), (60, (.pointer (some ⟨p5, o5 + 0, none⟩)))] := by simpa only [List.length_set, Nat.add_zero] using hf
    refine wl_end (then_n (reg (pz 3 hf fun a hf => ?_)))
    obtain ⟨e6, he6, hR1⟩ := bs_ hR1
    refine wl0 rfl (op_iaddr hf H Try.underlying24 TF.sz3 0 rfl rfl rfl he6 (by decide) fun p6 o6 cs6 a hf hr6 H => ?_)
    obtain rfl := hr6
    refine oq hf (rq_loadI hf H TF.ls3 0 0 rfl rfl rfl) fun a hf => ?_
    refine pz 1 hf fun a hf => ?_
    obtain ⟨e7, he7, hR1⟩ := bs_ hR1
    refine wl0 rfl (op_iaddrR hf H Try.underlying24 TF.sz3 2 rfl rfl rfl he7 (by decide) fun p7 o7 cs7 a hf hA4 hr7 hk4 => ?_)
    obtain rfl := hr7
    refine wl0 rfl (op_storeR (e' := out3) (o := o7) (off := 0) hf H TF.sz3 2 rfl rfl rfl rfl rfl (nle rfl) rfl hA4 he7 (st_full rfl) fun w H => ?_)
    replace hf : Fr a 71 [(0, (.slice A rates.length c)), (1, (.slice A2 order.length c2)), (2, (.int .i64 capacity)), (8, (.slice A5 out'.length c4)), (9, (.slice A8 (l2.set (out3 : Int).toNat (w64 (e4 - e2))).length c7)), (10, (.int .i64 i)), (12, (.int .i64 out3)), (61, (.slice A5 out'.length c4)), (62, (.slice A2 order.length c2)), (63, (.int .i64 i)), (64, (.pointer (some ⟨p6, o6 + 0, none⟩))), (65, (.int .i64 e6)), (66, (.int .i64 out3)), (67, (.pointer (some ⟨p7, o7 + 0, none⟩)))] := hf.prune [0, 1, 2, 8, 9, 10, 12, 61, 62, 63, 64, 65, 66, 67] rfl
    replace hf : Fr a 71 [(0, (.slice A rates.length c)), (1, (.slice A2 order.length c2)), (2, (.int .i64 capacity)), (8, (.slice A5 (out'.set (e6 : Int).toNat out3).length c4)), (9, (.slice A8 (l2.set (out3 : Int).toNat (w64 (e4 - e2))).length c7)), (10, (.int .i64 i)), (12, (.int .i64 out3)), (61, (.slice A5 (out'.set (e6 : Int).toNat out3).length c4)), (62, (.slice A2 order.length c2)), (63, (.int .i64 i)), (64, (.pointer (some ⟨p6, o6 + 0, none⟩))), (65, (.int .i64 e6)), (66, (.int .i64 out3)), (67, (.pointer (some ⟨p7, o7 + 0, none⟩)))] := by simpa only [List.length_set, Nat.add_zero] using hf
    refine wl_end (blk_n (then_n (reg (pz 3 hf fun a hf => ?_))))
    refine wl_end ?_
    have hf := hf.pn [0, 1, 2, 8, 9, 10]
    have H := H.lt_ [] [false, true, true] [] [1, 2]
    exact then_n ⟨(out'.set (e6 : Int).toNat out3, l2.set (out3 : Int).toNat (w64 (e4 - e2)), w64 (i + 1)), hR1, A5, c4, E, A8, c7, E3, hf, H⟩
   ·refine wp_skip (then_n (sqz (pz 4 hf fun a hf => ?_)))
    obtain ⟨e8, he8, hR1⟩ := bs_ hR1
    refine wl0 rfl (op_iaddrR hf H Try.underlying24 TF.sz3 0 rfl rfl rfl he8 (by decide) fun p8 o8 cs8 a hf hA5 hr8 hk5 => ?_)
    obtain rfl := hr8
    refine oq hf (rq_load1 hf TF.ls3 rfl (hk5 0 _ rfl)) fun a hf => ?_
    refine pz 2 hf fun a hf => ?_
    obtain ⟨e9, he9, hR1⟩ := bs_ hR1
    refine wl0 rfl (op_iaddrR hf H Try.underlying24 TF.sz3 0 rfl rfl rfl he9 (by decide) fun p9 o9 cs9 a hf hA6 hr9 hk6 => ?_)
    obtain rfl := hr9
    refine wl0 rfl (op_storeR (e' := w64 (e8 - e2)) (o := o9) (off := 0) hf H TF.sz3 0 rfl rfl rfl rfl rfl (nle rfl) rfl hA6 he9 (st_full rfl) fun w H => ?_)
    replace hf : Fr a 71 [(0, (.slice A rates.length c)), (1, (.slice A2 order.length c2)), (2, (.int .i64 capacity)), (8, (.slice A5 out'.length c4)), (9, (.slice A6 room.length c5)), (10, (.int .i64 i)), (11, (.int .i64 e2)), (12, (.int .i64 out3)), (52, (.slice A6 room.length c5)), (53, (.int .i64 out3)), (54, (.slice A6 room.length c5)), (55, (.int .i64 out3)), (56, (.pointer (some ⟨p8, o8 + 0, none⟩))), (57, (.int .i64 e8)), (58, (.int .i64 e2)), (59, (.int .i64 (w64 (e8 - e2)))), (60, (.pointer (some ⟨p9, o9 + 0, none⟩)))] := hf.prune [0, 1, 2, 8, 9, 10, 11, 12, 52, 53, 54, 55, 56, 57, 58, 59, 60] rfl
    replace hf : Fr a 71 [(0, (.slice A rates.length c)), (1, (.slice A2 order.length c2)), (2, (.int .i64 capacity)), (8, (.slice A5 out'.length c4)), (9, (.slice A6 (room.set (out3 : Int).toNat (w64 (e8 - e2))).length c5)), (10, (.int .i64 i)), (11, (.int .i64 e2)), (12, (.int .i64 out3)), (52, (.slice A6 (room.set (out3 : Int).toNat (w64 (e8 - e2))).length c5)), (53, (.int .i64 out3)), (54, (.slice A6 (room.set (out3 : Int).toNat (w64 (e8 - e2))).length c5)), (55, (.int .i64 out3)), (56, (.pointer (some ⟨p8, o8 + 0, none⟩))), (57, (.int .i64 e8)), (58, (.int .i64 e2)), (59, (.int .i64 (w64 (e8 - e2)))), (60, (.pointer (some ⟨p9, o9 + 0, none⟩)))] := by simpa only [List.length_set, Nat.add_zero] using hf
    refine wl_end (then_n (reg (pz 3 hf fun a hf => ?_)))
    obtain ⟨e10, he10, hR1⟩ := bs_ hR1
    refine wl0 rfl (op_iaddr hf H Try.underlying24 TF.sz3 0 rfl rfl rfl he10 (by decide) fun p10 o10 cs10 a hf hr10 H => ?_)
    obtain rfl := hr10
    refine oq hf (rq_loadI hf H TF.ls3 0 0 rfl rfl rfl) fun a hf => ?_
    refine pz 1 hf fun a hf => ?_
    obtain ⟨e11, he11, hR1⟩ := bs_ hR1
    refine wl0 rfl (op_iaddrR hf H Try.underlying24 TF.sz3 1 rfl rfl rfl he11 (by decide) fun p11 o11 cs11 a hf hA7 hr11 hk7 => ?_)
    obtain rfl := hr11
    refine wl0 rfl (op_storeR (e' := out3) (o := o11) (off := 0) hf H TF.sz3 1 rfl rfl rfl rfl rfl (nle rfl) rfl hA7 he11 (st_full rfl) fun w H => ?_)
    replace hf : Fr a 71 [(0, (.slice A rates.length c)), (1, (.slice A2 order.length c2)), (2, (.int .i64 capacity)), (8, (.slice A5 out'.length c4)), (9, (.slice A6 (room.set (out3 : Int).toNat (w64 (e8 - e2))).length c5)), (10, (.int .i64 i)), (12, (.int .i64 out3)), (61, (.slice A5 out'.length c4)), (62, (.slice A2 order.length c2)), (63, (.int .i64 i)), (64, (.pointer (some ⟨p10, o10 + 0, none⟩))), (65, (.int .i64 e10)), (66, (.int .i64 out3)), (67, (.pointer (some ⟨p11, o11 + 0, none⟩)))] := hf.prune [0, 1, 2, 8, 9, 10, 12, 61, 62, 63, 64, 65, 66, 67] rfl
    replace hf : Fr a 71 [(0, (.slice A rates.length c)), (1, (.slice A2 order.length c2)), (2, (.int .i64 capacity)), (8, (.slice A5 (out'.set (e10 : Int).toNat out3).length c4)), (9, (.slice A6 (room.set (out3 : Int).toNat (w64 (e8 - e2))).length c5)), (10, (.int .i64 i)), (12, (.int .i64 out3)), (61, (.slice A5 (out'.set (e10 : Int).toNat out3).length c4)), (62, (.slice A2 order.length c2)), (63, (.int .i64 i)), (64, (.pointer (some ⟨p10, o10 + 0, none⟩))), (65, (.int .i64 e10)), (66, (.int .i64 out3)), (67, (.pointer (some ⟨p11, o11 + 0, none⟩)))] := by simpa only [List.length_set, Nat.add_zero] using hf
    refine wl_end (blk_n (then_n (reg (pz 3 hf fun a hf => ?_))))
    refine wl_end ?_
    have hf := hf.pn [0, 1, 2, 8, 9, 10]
    have H := H.lt_ [] [true, true] [] [1, 2]
    exact then_n ⟨(out'.set (e10 : Int).toNat out3, room.set (out3 : Int).toNat (w64 (e8 - e2)), w64 (i + 1)), hR1, A5, c4, E, A6, c5, E2, hf, H⟩
  ·refine wp_exit (then_x (then_x (blk_e (?_))))
   have hf := hf.pn [0, 1, 2, 8, 9, 10]
   have H := H.lt_ [] [true, true] [] [0, 1]
   exact ⟨(out', room, i), (Option.some.inj hR1).symm, A5, c4, E, A6, c5, E2, hf, H⟩
 rintro a w ⟨⟨out4, room2, i2⟩, rfl, A9, c8, E4, A10, c9, E5, hf, H⟩
 try dsimp only at hF
 refine then_n (sqz (pz 5 hf fun a hf => ?_))
 refine wer ?_
 have H := H.rowOwn 1 rfl rfl
 obtain ⟨F, H⟩ := H.freezeOwn 1 rfl
 have H := H.lend 0 rfl
 obtain rfl := oi hF
 refine ret_2 hf rfl (rv_tmp hf rfl) (rv_tmp hf rfl) ?_
 have hN := H.ends1
 exact ⟨_, rfl, H.bel, F, _, _, rfl, (mko_list (H.ownAt 0 rfl)), mk_int, by first | exact hN | simpa using hN⟩
theorem spec_PackInOrder_ok {S : Nat → Prop} {v0_ : Value} {v1_ : Value} {rates : List Int} {capacity : Int} {r : List Int × Bool} (h0 : VR w0 S v0_ rates) (h1 : VR w0 S v1_ capacity) (hF : spec_PackInOrder fu rates capacity = some r) :
    Calls Try.prog 8 [v0_, v1_].toArray w0 fun e w' => ∃ v, e = .returned v ∧ (Below w0.heap.size w0 w' ∧ ∃ F0, ∃ u0 u1, v = .tuple #[u0, u1] ∧ VO w' F0 u0 r.1 ∧ VR w' (St ⟨w0, []⟩ S [] [] [] true) u1 r.2 ∧ New w0 w' F0) := by
 obtain ⟨A, c, rfl, hl⟩ := VR_list h0
 obtain rfl := VR_int h1
 have H := Mem.start ⟨w0, []⟩ S
 have H := H.pA hl
 refine en Try.func8 fun a hf => ?_
 rw [spec_PackInOrder] at hF
 refine sqz (pz 2 hf fun a hf => ?_)
 refine we (sqz (pz 2 hf fun a hf => ?_))
 obtain ⟨y, hy, hF⟩ := bs_ hF
 refine oc hf TF.cl19 (spec_l18Rates_ok (S := TT) (mk_list (H.rt 0 rfl)) mk_int hy) fun v w a hp hf => ?_
 obtain ⟨hb, hp⟩ := hp
 obtain rfl := VR_bool hp
 have H := H.keep hb
 refine pz 1 hf fun a hf => ?_
 refine wl_end (then_n (ib hF hf (fun hc hF => ?_) fun hc hF => ?_))
 ·refine sq (reg (wl0 rfl (bl hf H 3 ([] : List Int) [] el0 fun A2 a w hf H => ?_)))
  refine pz 2 hf fun a hf => ?_
  refine wl_end (then_n (wp_ret (then_r (?_))))
  have H := H.rowOwn 0 rfl rfl
  obtain ⟨F, H⟩ := H.freezeOwn 0 rfl
  have H := H.lend 0 rfl
  obtain rfl := oi hF
  refine ret_2 hf rfl (rv_tmp hf rfl) (rv_tmp hf rfl) ?_
  have hN := H.ends1
  exact ⟨_, rfl, H.bel, F, _, _, rfl, (mko_list (H.ownAt 0 rfl)), mk_bool, by first | exact hN | simpa using hN⟩
 ·refine wp_skip (then_n (sqz (pz 2 hf fun a hf => ?_)))
  obtain ⟨y2, hy2, hF⟩ := bs_ hF
  refine oc hf TF.cl21 (spec_l18Order_ok (S := TT) (mk_list (H.rt 0 rfl)) mk_bool hy2) fun v2 w a hp2 hf => ?_
  obtain ⟨hb2, F2, hp3, hN⟩ := hp2
  obtain ⟨A3, c2, rfl, hl2⟩ := VO_list hp3
  have H := H.aO1 hb2 hN hl2
  have H := H.lend 0 rfl
  refine pz 1 hf fun a hf => ?_
  obtain ⟨y3, hy3, hF⟩ := bs_ hF
  refine oc hf TF.cl20 (spec_l18Pack_ok (S := TT) (mk_list (H.rt 1 rfl)) (mk_list (H.rt 0 rfl)) mk_int hy3) fun v3 w a hp4 hf => ?_
  obtain ⟨hb3, F4, v4, v5, rfl, hp5, hp6, hN2⟩ := hp4
  obtain ⟨A4, c3, rfl, hl3⟩ := VO_list hp5
  obtain rfl := VR_int hp6
  have H := H.aO1 hb3 hN2 hl3
  have H := H.lend 0 rfl
  refine pz 5 hf fun a hf => ?_
  have hf := hf.pn [6]
  refine wr (pz 3 hf fun a hf => ?_)
  refine wer ?_
  obtain rfl := oi hF
  refine ret_2 hf rfl (rv_tmp hf rfl) (rv_tmp hf rfl) ?_
  have hN := H.ends1
  exact ⟨_, rfl, H.bel, F4, _, _, rfl, (mko_list (H.ownAt 0 rfl)), mk_bool, by first | exact hN | simpa using hN⟩
theorem laws_vInts_ok {S : Nat → Prop} {v0_ : Value} {v1_ : Value} {a' : List Int} {b' : List Int} {r : Bool} (h0 : VR w0 S v0_ a') (h1 : VR w0 S v1_ b') (hF : laws_vInts fu a' b' = some r) :
    Calls Try.prog 9 [v0_, v1_].toArray w0 fun e w' => ∃ v, e = .returned v ∧ (Below w0.heap.size w0 w' ∧ VR w' (St ⟨w0, []⟩ S [] [] [] true) v r) := by
 obtain ⟨A, c, rfl, hl⟩ := VR_list h0
 obtain ⟨A2, c2, rfl, hl2⟩ := VR_list h1
 have H := Mem.start ⟨w0, []⟩ S
 have H := H.pA hl
 have H := H.pA hl2
 refine en Try.func9 fun a hf => ?_
 rw [laws_vInts] at hF
 refine sqz (pz 1 hf fun a hf => ?_)
 refine we (sqz (pz 5 hf fun a hf => ?_))
 refine wl_end (then_n (ib hF hf (fun hc hF => ?_) fun hc hF => ?_))
 ·refine sqz (pz 1 hf fun a hf => ?_)
  refine wl_end (then_n (wp_ret (then_r (?_))))
  obtain rfl := oi hF
  refine rT hf ?_
  exact ⟨_, rfl, H.bel, mk_bool⟩
 ·refine wp_skip (then_n (sq (sqz (pz 1 hf fun a hf => ?_))))
  refine wl_end (then_n ?_)
  obtain ⟨out', hB1, hF⟩ := bs_ hF
  have hf := hf.pn [0, 1, 5]
  have H := H.lt_ [] [] [] [0, 1]
  refine loopC (fun (s : Int) (a : Act) (w : World) => match s with | i => Fr a 26 [(0, (.slice A a'.length c)), (1, (.slice A2 b'.length c2)), (5, (.int .i64 i))] ∧ Mem ⟨w0, []⟩ S [] [] [] [(false, MP.val [(.slice A2 b'.length c2)] (b' : List Int)), (false, MP.val [(.slice A a'.length c)] (a' : List Int))] w) (fun k (s : Int) => laws_vInts_L1 fu a' b' k s = some out') (fun s => out' = Out.next s) 0 fu hB1 ⟨hf, H⟩ (fun s h => by cases h) ?_ ?_
  ·rintro fk i a w hR1 hI
   replace hR1 : laws_vInts_L1 fu a' b' (fk + 1) i = some out' := hR1
   rw [laws_vInts_L1] at hR1
   obtain ⟨hf, H⟩ := hI
   refine sq (sqz (pz 4 hf fun a hf => ?_))
   refine wl_end (then_n (ib hR1 hf (fun hc2 hR1 => ?_) fun hc2 hR1 => ?_))
   ·refine wp_skip (then_n (sq (wp_block (sq (dw [] 9 fun w hb => ?_)))))
    have H := H.keep hb
    refine zp 0 hf trivial fun a hf => ?_
    refine zp 1 hf trivial fun a hf => ?_
    obtain ⟨e, he, hR1⟩ := bs_ hR1
    obtain ⟨p, o, cs, hx, hr, H⟩ := pre_iaddr H Try.underlying24 TF.sz3 1 rfl he
    refine tP 2 rfl rfl rfl rfl hf (by kernel_rfl) (fun _ => trivial) (fun w => rq_iaddrE hf rfl rfl rfl hx w) fun a hf => ?_
    obtain rfl := hr
    refine strT (H.lt_ [] [] [] [0]) (fun w H => trivial) fun hS => ?_
    refine zS 3 [] rfl rfl rfl rfl hf hS (fun w H => rq_loadI hf H TF.ls3 0 0 rfl rfl rfl) fun a hf => ?_
    refine zp 4 hf hS fun a hf => ?_
    refine zp 5 hf hS fun a hf => ?_
    obtain ⟨e2, he2, hR1⟩ := bs_ hR1
    obtain ⟨p2, o2, cs2, hx2, hr2, H⟩ := pre_iaddr H Try.underlying24 TF.sz3 1 rfl he2
    refine zP 6 rfl rfl rfl rfl hf hS (fun w => rq_iaddrE hf rfl rfl rfl hx2 w) fun a hf => ?_
    obtain rfl := hr2
    refine strT (H.lt_ [] [] [] [0, 1]) (fun w H => H.lt_ [] [] [] [1]) fun hS => ?_
    refine zS 7 [] rfl rfl rfl rfl hf hS (fun w H => rq_loadI hf H TF.ls3 0 0 rfl rfl rfl) fun a hf => ?_
    refine zp 8 hf hS fun a hf => ?_
    refine dk ?_
    refine then_n (ib hR1 hf (fun hc3 hR1 => ?_) fun hc3 hR1 => ?_)
    ·refine sqz (pz 1 hf fun a hf => ?_)
     have hf := hf.pn [4]
     refine wl_end (then_n (wp_ret (blk_r (then_r (then_r (blk_r (then_r (then_r (?_)))))))))
     obtain rfl := oi hR1
     replace hF := on_ret hF
     obtain rfl := oi hF
     refine rT hf ?_
     exact ⟨_, rfl, H.bel, mk_bool⟩
    ·refine wp_skip (blk_n (then_n (reg (pz 3 hf fun a hf => ?_))))
     have hf := hf.pn [0, 1, 5]
     refine wl_end ?_
     have hf := hf.pn [0, 1, 5]
     have H := H.lt_ [] [] [] [2, 3]
     exact then_n ⟨w64 (i + 1), hR1, hf, H⟩
   ·refine wp_exit (then_x (then_x (blk_e (?_))))
    have hf := hf.pn [0, 1, 5]
    have H := H.lt_ [] [] [] [0, 1]
    exact ⟨i, (Option.some.inj hR1).symm, hf, H⟩
  rintro a w ⟨i2, rfl, hf, H⟩
  replace hF := on_next hF
  refine then_n (sqz (pz 1 hf fun a hf => ?_))
  refine wer ?_
  obtain rfl := oi hF
  refine rT hf ?_
  exact ⟨_, rfl, H.bel, mk_bool⟩
end AT
