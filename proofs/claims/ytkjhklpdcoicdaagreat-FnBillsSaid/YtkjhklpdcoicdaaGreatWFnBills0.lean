/- The Go functions do what is told of them, by program (gen.py). -/
import Derived.Test.YtkjhklpdcoicdaaGreatT
import Derived.Test.YtkjhklpdcoicdaaGreatK
set_option linter.unusedVariables false
set_option linter.unusedSimpArgs false
set_option maxRecDepth 100000
set_option maxHeartbeats 1000000
namespace AT
open Go Go.RowKit Go.Proofs
variable {fu : Nat} {w0 : World}
theorem laws_vBig_ok {S : Nat → Prop} {v0_ : Value} {code : List By} {r : Bool} (h0 : VR w0 S v0_ code) (hF : laws_vBig fu code = some r) :
    Calls Tryz.prog 9 [v0_].toArray w0 fun e w' => ∃ v, e = .returned v ∧ (Below w0.heap.size w0 w' ∧ VR w' (St ⟨w0, []⟩ S [] [] [] true) v r) := by
 obtain ⟨A, c, rfl, hl⟩ := VR_list h0
 have H := Mem.start ⟨w0, []⟩ S
 have H := H.pA hl
 refine en Tryz.func9 fun a hf => ?_
 rw [laws_vBig] at hF
 refine sqz (pz 1 hf fun a hf => ?_)
 refine wr (pz 4 hf fun a hf => ?_)
 refine wer ?_
 obtain rfl := oi hF
 refine rT hf ?_
 exact ⟨_, rfl, H.bel, mk_bool⟩
theorem spec_l1Cur_next_ok {S : Nat → Prop} {b0 : Nat} {cs0 : List Value} {c : L1CurP} {r : Int × L1CurP} (hp0 : w0.heap[b0]? = some (.cells cs0.toArray 98 (0, 0))) (hr0 : GoTy.rep w0 S cs0 c) (hS0 : ¬ S b0) (hF : spec_l1Cur_next fu c = some r) :
    Calls Tryz.prog 136 [(.pointer (some ⟨b0, 0, none⟩))].toArray w0 fun e w' => ∃ v, e = .returned v ∧ (Chg w0 w' [b0] ∧ ∃ cs', w'.heap[b0]? = some (.cells cs'.toArray 98 (0, 0)) ∧ GoTy.rep w' (St ⟨w0, [b0]⟩ S [⟨b0, 98, cs'⟩] [] [] false) cs' r.2 ∧ (cs'[0]? = cs0[0]? ∧ r.2.code = c.code) ∧ VR w' (St ⟨w0, [b0]⟩ S [⟨b0, 98, cs'⟩] [] [] true) v r.1) := by
 obtain ⟨A, c2, rfl, hl⟩ := L1CurP_cells hr0
 have H := Mem.startB S hp0
 have H := H.pB hS0 hl
 refine en Tryz.func136 fun a hf => ?_
 rw [spec_l1Cur_next] at hF
 refine sqz (pz 1 hf fun a hf => ?_)
 refine wr (pz 1 hf fun a hf => ?_)
 refine wl_end (then_n (sq (sq (dw [] 10 fun w hb => ?_))))
 have H := H.keep hb
 refine zp 0 hf trivial fun a hf => ?_
 refine zp 1 hf trivial fun a hf => ?_
 refine zp 2 hf trivial fun a hf => ?_
 refine strT (H.lt_ [true] [] [] []) (fun w H => trivial) fun hS => ?_
 refine zS 3 [] rfl rfl rfl rfl hf hS (fun w H => rq_loadB hf H TF.ls3 0 rfl rfl rfl) fun a hf => ?_
 refine zp 4 hf hS fun a hf => ?_
 refine zp 5 hf hS fun a hf => ?_
 refine zp 6 hf hS fun a hf => ?_
 refine zS 7 [] rfl rfl rfl rfl hf hS (fun w H => rq_loadB hf H TF.ls22 0 rfl rfl rfl) fun a hf => ?_
 refine zp 8 hf hS fun a hf => ?_
 refine zp 9 hf hS fun a hf => ?_
 refine dn (by kernel_rfl) ?_
 refine then_n (ib hF hf (fun hc hF => ?_) fun hc hF => ?_)
 ·refine dw [] 12 fun w hb => ?_
  have H := H.keep hb
  refine zp 0 hf trivial fun a hf => ?_
  refine zp 1 hf trivial fun a hf => ?_
  refine zp 2 hf trivial fun a hf => ?_
  refine strT (H.lt_ [true] [] [] []) (fun w H => trivial) fun hS => ?_
  refine zS 3 [] rfl rfl rfl rfl hf hS (fun w H => rq_loadB hf H TF.ls22 0 rfl rfl rfl) fun a hf => ?_
  refine zp 4 hf hS fun a hf => ?_
  refine zp 5 hf hS fun a hf => ?_
  refine zp 6 hf hS fun a hf => ?_
  refine zS 7 [] rfl rfl rfl rfl hf hS (fun w H => rq_loadB hf H TF.ls3 0 rfl rfl rfl) fun a hf => ?_
  obtain ⟨e, he, hF⟩ := bs_ hF
  obtain ⟨p, o, cs, hx, hr, H⟩ := pre_iaddr H Tryz.underlying22 TF.sz5 0 rfl he
  refine zP 8 rfl rfl rfl rfl hf hS (fun w => rq_iaddrE hf rfl rfl rfl hx w) fun a hf => ?_
  obtain rfl := hr
  refine strT (H.lt_ [true] [] [] [0]) (fun w H => H.lt_ [true] [] [] []) fun hS => ?_
  refine zS 9 [] rfl rfl rfl rfl hf hS (fun w H => rq_loadI hf H TF.ls5 0 0 rfl rfl rfl) fun a hf => ?_
  refine nn 10 rfl (op_q hf (rq_conv i64w Tryz.underlying5 Tryz.underlying3 hf rfl) rfl (by decide) fun a hf => ?_)
  have hS := H.lt_ [true] [] [] [0]
  refine ⟨fun _ => hS, ?_⟩
  refine zp 11 hf hS fun a hf => ?_
  refine dn (by kernel_rfl) ?_
  have hf := hf.pn [0, 3]
  refine then_n (sqz (pz 3 hf fun a hf => ?_))
  refine lB 0 hf H TF.ls3 fun a hf => ?_
  refine pz 3 hf fun a hf => ?_
  refine sB 0 hf H TF.sz3 fun w H => ?_
  refine wr (pz 4 hf fun a hf => ?_)
  refine lB 0 hf H TF.ls96 fun a hf => ?_
  refine oq hf (rq_mulK u64w hf rfl rfl) fun a hf => ?_
  refine pz 1 hf fun a hf => ?_
  refine oq hf (rq_conv u64w Tryz.underlying3 Tryz.underlying96 hf rfl) fun a hf => ?_
  refine oq hf (rq_addK u64w hf rfl rfl) fun a hf => ?_
  refine oq hf (rq_addK u64w hf rfl rfl) fun a hf => ?_
  refine pz 2 hf fun a hf => ?_
  refine sB 0 hf H TF.sz96 fun w H => ?_
  have hf := hf.pn [0, 3]
  refine wl_end (then_n (sq (sq (dw [] 10 fun w hb => ?_))))
  have H := H.keep hb
  refine zp 0 hf trivial fun a hf => ?_
  refine zp 1 hf trivial fun a hf => ?_
  refine zp 2 hf trivial fun a hf => ?_
  refine strT (H.lt_ [true] [] [] []) (fun w H => trivial) fun hS => ?_
  refine zS 3 [] rfl rfl rfl rfl hf hS (fun w H => rq_loadB hf H TF.ls3 0 rfl rfl rfl) fun a hf => ?_
  refine zp 4 hf hS fun a hf => ?_
  refine zp 5 hf hS fun a hf => ?_
  refine zp 6 hf hS fun a hf => ?_
  refine zS 7 [] rfl rfl rfl rfl hf hS (fun w H => rq_loadB hf H TF.ls22 0 rfl rfl rfl) fun a hf => ?_
  refine zp 8 hf hS fun a hf => ?_
  refine zp 9 hf hS fun a hf => ?_
  refine dn (by kernel_rfl) ?_
  refine then_n (ib hF hf (fun hc2 hF => ?_) fun hc2 hF => ?_)
  ·refine sqz (pz 2 hf fun a hf => ?_)
   have hf := hf.pn [2]
   refine wl_end (then_n (wp_ret (then_r (?_))))
   obtain rfl := oi hF
   refine rT hf ?_
   exact ⟨_, rfl, H.chg, _, H.boxAt 0 rfl, (L1CurP_mk (x := ({ code := c.code, at_ := w64 (c.at_ + 1), seed := (⟨wu64 ((wu64 ((wu64 (c.seed.n * 6364136223846793005)) + (wu64 (w64 e.n)))) + 897897)⟩ : U64) } : L1CurP)) (eB 0 (H.get 1 rfl))), ⟨rfl, rfl⟩, mk_int⟩
  ·refine wp_skip (then_n (sqz (pz 3 hf fun a hf => ?_)))
   refine lB 0 hf H TF.ls96 fun a hf => ?_
   obtain ⟨q, hq, hF⟩ := bs_ hF
   refine oq hf (rq_shrK rfl hf rfl rfl hq) fun a hf => ?_
   refine oq hf (rq_andu64 hf rfl rfl) fun a hf => ?_
   refine oq hf (rq_conv i64w Tryz.underlying96 Tryz.underlying3 hf rfl) fun a hf => ?_
   refine pz 1 hf fun a hf => ?_
   have hf := hf.pn [2]
   refine wer ?_
   obtain rfl := oi hF
   refine rT hf ?_
   exact ⟨_, rfl, H.chg, _, H.boxAt 0 rfl, (L1CurP_mk (x := ({ code := c.code, at_ := w64 (c.at_ + 1), seed := (⟨wu64 ((wu64 ((wu64 (c.seed.n * 6364136223846793005)) + (wu64 (w64 e.n)))) + 897897)⟩ : U64) } : L1CurP)) (eB 0 (H.get 1 rfl))), ⟨rfl, rfl⟩, mk_int⟩
 ·refine wp_skip (then_n (sqz (pz 3 hf fun a hf => ?_)))
  refine lB 0 hf H TF.ls3 fun a hf => ?_
  refine pz 3 hf fun a hf => ?_
  refine sB 0 hf H TF.sz3 fun w H => ?_
  have hf := hf.pn [0, 3]
  refine wr (pz 4 hf fun a hf => ?_)
  refine lB 0 hf H TF.ls96 fun a hf => ?_
  refine oq hf (rq_mulK u64w hf rfl rfl) fun a hf => ?_
  refine pz 1 hf fun a hf => ?_
  refine oq hf (rq_conv u64w Tryz.underlying3 Tryz.underlying96 hf rfl) fun a hf => ?_
  refine oq hf (rq_addK u64w hf rfl rfl) fun a hf => ?_
  refine oq hf (rq_addK u64w hf rfl rfl) fun a hf => ?_
  refine pz 2 hf fun a hf => ?_
  refine sB 0 hf H TF.sz96 fun w H => ?_
  refine wl_end (then_n (sq (sq (dw [] 10 fun w hb => ?_))))
  have H := H.keep hb
  refine zp 0 hf trivial fun a hf => ?_
  refine zp 1 hf trivial fun a hf => ?_
  refine zp 2 hf trivial fun a hf => ?_
  refine strT (H.lt_ [true] [] [] []) (fun w H => trivial) fun hS => ?_
  refine zS 3 [] rfl rfl rfl rfl hf hS (fun w H => rq_loadB hf H TF.ls3 0 rfl rfl rfl) fun a hf => ?_
  refine zp 4 hf hS fun a hf => ?_
  refine zp 5 hf hS fun a hf => ?_
  refine zp 6 hf hS fun a hf => ?_
  refine zS 7 [] rfl rfl rfl rfl hf hS (fun w H => rq_loadB hf H TF.ls22 0 rfl rfl rfl) fun a hf => ?_
  refine zp 8 hf hS fun a hf => ?_
  refine zp 9 hf hS fun a hf => ?_
  refine dn (by kernel_rfl) ?_
  have hf := hf.pn [0, 3, 53]
  refine then_n (ib hF hf (fun hc3 hF => ?_) fun hc3 hF => ?_)
  ·refine sqz (pz 2 hf fun a hf => ?_)
   refine wl_end (then_n (wp_ret (then_r (?_))))
   obtain rfl := oi hF
   refine rT hf ?_
   exact ⟨_, rfl, H.chg, _, H.boxAt 0 rfl, (L1CurP_mk (x := ({ code := c.code, at_ := w64 (c.at_ + 1), seed := (⟨wu64 ((wu64 ((wu64 (c.seed.n * 6364136223846793005)) + (wu64 0))) + 897897)⟩ : U64) } : L1CurP)) (eB 0 (H.get 0 rfl))), ⟨rfl, rfl⟩, mk_int⟩
  ·refine wp_skip (then_n (sqz (pz 3 hf fun a hf => ?_)))
   refine lB 0 hf H TF.ls96 fun a hf => ?_
   obtain ⟨q2, hq2, hF⟩ := bs_ hF
   refine oq hf (rq_shrK rfl hf rfl rfl hq2) fun a hf => ?_
   refine oq hf (rq_andu64 hf rfl rfl) fun a hf => ?_
   refine oq hf (rq_conv i64w Tryz.underlying96 Tryz.underlying3 hf rfl) fun a hf => ?_
   refine pz 1 hf fun a hf => ?_
   refine wer ?_
   obtain rfl := oi hF
   refine rT hf ?_
   exact ⟨_, rfl, H.chg, _, H.boxAt 0 rfl, (L1CurP_mk (x := ({ code := c.code, at_ := w64 (c.at_ + 1), seed := (⟨wu64 ((wu64 ((wu64 (c.seed.n * 6364136223846793005)) + (wu64 0))) + 897897)⟩ : U64) } : L1CurP)) (eB 0 (H.get 0 rfl))), ⟨rfl, rfl⟩, mk_int⟩
theorem spec_l1Cur_pick_ok {S : Nat → Prop} {b0 : Nat} {cs0 : List Value} {v1_ : Value} {c : L1CurP} {n' : Int} {r : Int × L1CurP} (hp0 : w0.heap[b0]? = some (.cells cs0.toArray 98 (0, 0))) (hr0 : GoTy.rep w0 S cs0 c) (hS0 : ¬ S b0) (h1 : VR w0 S v1_ n') (hF : spec_l1Cur_pick fu c n' = some r) :
    Calls Tryz.prog 62 [(.pointer (some ⟨b0, 0, none⟩)), v1_].toArray w0 fun e w' => ∃ v, e = .returned v ∧ (Chg w0 w' [b0] ∧ ∃ cs', w'.heap[b0]? = some (.cells cs'.toArray 98 (0, 0)) ∧ GoTy.rep w' (St ⟨w0, [b0]⟩ S [⟨b0, 98, cs'⟩] [] [] false) cs' r.2 ∧ (cs'[0]? = cs0[0]? ∧ r.2.code = c.code) ∧ VR w' (St ⟨w0, [b0]⟩ S [⟨b0, 98, cs'⟩] [] [] true) v r.1) := by
 obtain ⟨A, c2, rfl, hl⟩ := L1CurP_cells hr0
 obtain rfl := VR_int h1
 have H := Mem.startB S hp0
 have H := H.pB hS0 hl
 refine en Tryz.func62 fun a hf => ?_
 rw [spec_l1Cur_pick] at hF
 refine sqz (pz 1 hf fun a hf => ?_)
 refine wl_end (then_n (sq (sqz (pz 2 hf fun a hf => ?_))))
 refine wl_end (then_n (ib hF hf (fun hc hF => ?_) fun hc hF => ?_))
 ·refine sqz (pz 1 hf fun a hf => ?_)
  refine wl_end (then_n (wp_ret (then_r (?_))))
  obtain rfl := oi hF
  refine rT hf ?_
  exact ⟨_, rfl, H.chg, _, H.boxAt 0 rfl, (L1CurP_mk (x := c) (eB 0 (H.get 0 rfl))), ⟨rfl, rfl⟩, mk_int⟩
 ·refine wp_skip (then_n (sqz (pz 1 hf fun a hf => ?_)))
  obtain ⟨y, hy, hF⟩ := bs_ hF
  refine oc hf TF.cl136 (spec_l1Cur_next_ok (S := NB b0) (H.boxAt 0 rfl) ((L1CurP_mk (x := c) (H.nb 0 rfl (H.get 0 rfl)))) (fun h => h rfl) hy) fun v w a hp hf => ?_
  obtain ⟨hch, cs, hbx, hr, ⟨hx, hx2⟩, hs⟩ := hp
  obtain rfl := VR_int hs
  obtain ⟨A2, c3, rfl, hl2⟩ := L1CurP_cells hr
  obtain ⟨rfl, rfl⟩ := fx_slice hx rfl rfl
  have H := H.wroteBox 0 rfl hch hbx
  have H := H.pX 0 rfl hx2
  refine pz 1 hf fun a hf => ?_
  refine wl_end (then_n (sq (sqz (pz 2 hf fun a hf => ?_))))
  refine wl_end (then_n (ib hF hf (fun hc2 hF => ?_) fun hc2 hF => ?_))
  ·refine reg (pz 3 hf fun a hf => ?_)
   obtain ⟨y2, hy2, hF⟩ := bs_ hF
   refine oc hf TF.cl136 (spec_l1Cur_next_ok (S := NB b0) (H.boxAt 0 rfl) ((L1CurP_mk (x := y.2) (H.nb 0 rfl (H.get 0 rfl)))) (fun h => h rfl) hy2) fun v2 w a hp2 hf => ?_
   obtain ⟨hch2, cs2, hbx2, hr2, ⟨hx3, hx4⟩, hs2⟩ := hp2
   obtain rfl := VR_int hs2
   obtain ⟨A3, c4, rfl, hl3⟩ := L1CurP_cells hr2
   obtain ⟨rfl, rfl⟩ := fx_slice hx3 rfl rfl
   have hx5 := hx4.trans hx2
   have H := H.wroteBox 0 rfl hch2 hbx2
   have H := H.pX 0 rfl hx4
   refine pz 2 hf fun a hf => ?_
   have hf := hf.pn [1, 5]
   refine wr (pz 2 hf fun a hf => ?_)
   obtain ⟨q, hq, hF⟩ := bs_ hF
   refine oq hf (rq_rem hf rfl rfl hq) fun a hf => ?_
   refine pz 1 hf fun a hf => ?_
   refine wer ?_
   obtain rfl := oi hF
   refine rT hf ?_
   exact ⟨_, rfl, H.chg, _, H.boxAt 0 rfl, (L1CurP_mk (x := y2.2) (eB 0 (H.get 0 rfl))), ⟨fxc hx5, hx5⟩, mk_int⟩
  ·refine wp_skip (then_n (sqz (pz 2 hf fun a hf => ?_)))
   obtain ⟨q2, hq2, hF⟩ := bs_ hF
   refine oq hf (rq_rem hf rfl rfl hq2) fun a hf => ?_
   refine pz 1 hf fun a hf => ?_
   refine wer ?_
   obtain rfl := oi hF
   refine rT hf ?_
   exact ⟨_, rfl, H.chg, _, H.boxAt 0 rfl, (L1CurP_mk (x := y.2) (eB 0 (H.get 0 rfl))), ⟨fxc hx2, hx2⟩, mk_int⟩
theorem spec_l1Cur_one_ok {S : Nat → Prop} {b0 : Nat} {cs0 : List Value} {v1_ : Value} {c : L1CurP} {n' : Int} {r : Bool × L1CurP} (hp0 : w0.heap[b0]? = some (.cells cs0.toArray 98 (0, 0))) (hr0 : GoTy.rep w0 S cs0 c) (hS0 : ¬ S b0) (h1 : VR w0 S v1_ n') (hF : spec_l1Cur_one fu c n' = some r) :
    Calls Tryz.prog 74 [(.pointer (some ⟨b0, 0, none⟩)), v1_].toArray w0 fun e w' => ∃ v, e = .returned v ∧ (Chg w0 w' [b0] ∧ ∃ cs', w'.heap[b0]? = some (.cells cs'.toArray 98 (0, 0)) ∧ GoTy.rep w' (St ⟨w0, [b0]⟩ S [⟨b0, 98, cs'⟩] [] [] false) cs' r.2 ∧ (cs'[0]? = cs0[0]? ∧ r.2.code = c.code) ∧ VR w' (St ⟨w0, [b0]⟩ S [⟨b0, 98, cs'⟩] [] [] true) v r.1) := by
 obtain ⟨A, c2, rfl, hl⟩ := L1CurP_cells hr0
 obtain rfl := VR_int h1
 have H := Mem.startB S hp0
 have H := H.pB hS0 hl
 refine en Tryz.func74 fun a hf => ?_
 rw [spec_l1Cur_one] at hF
 refine sqz (pz 1 hf fun a hf => ?_)
 refine wr (pz 2 hf fun a hf => ?_)
 obtain ⟨y, hy, hF⟩ := bs_ hF
 refine oc hf TF.cl62 (spec_l1Cur_pick_ok (S := NB b0) (H.boxAt 0 rfl) ((L1CurP_mk (x := c) (H.nb 0 rfl (H.get 0 rfl)))) (fun h => h rfl) mk_int hy) fun v w a hp hf => ?_
 obtain ⟨hch, cs, hbx, hr, ⟨hx, hx2⟩, hs⟩ := hp
 obtain rfl := VR_int hs
 obtain ⟨A2, c3, rfl, hl2⟩ := L1CurP_cells hr
 obtain ⟨rfl, rfl⟩ := fx_slice hx rfl rfl
 have H := H.wroteBox 0 rfl hch hbx
 have H := H.pX 0 rfl hx2
 refine pz 2 hf fun a hf => ?_
 refine wer ?_
 obtain rfl := oi hF
 refine rT hf ?_
 exact ⟨_, rfl, H.chg, _, H.boxAt 0 rfl, (L1CurP_mk (x := y.2) (eB 0 (H.get 0 rfl))), ⟨fxc hx2, hx2⟩, mk_bool⟩
theorem spec_l1Cur_among_ok {S : Nat → Prop} {b0 : Nat} {cs0 : List Value} {v1_ : Value} {c : L1CurP} {list : List Int} {r : Int × L1CurP} (hp0 : w0.heap[b0]? = some (.cells cs0.toArray 98 (0, 0))) (hr0 : GoTy.rep w0 S cs0 c) (hS0 : ¬ S b0) (h1 : VR w0 S v1_ list) (hF : spec_l1Cur_among fu c list = some r) :
    Calls Tryz.prog 61 [(.pointer (some ⟨b0, 0, none⟩)), v1_].toArray w0 fun e w' => ∃ v, e = .returned v ∧ (Chg w0 w' [b0] ∧ ∃ cs', w'.heap[b0]? = some (.cells cs'.toArray 98 (0, 0)) ∧ GoTy.rep w' (St ⟨w0, [b0]⟩ S [⟨b0, 98, cs'⟩] [] [] false) cs' r.2 ∧ (cs'[0]? = cs0[0]? ∧ r.2.code = c.code) ∧ VR w' (St ⟨w0, [b0]⟩ S [⟨b0, 98, cs'⟩] [] [] true) v r.1) := by
 obtain ⟨A, c2, rfl, hl⟩ := L1CurP_cells hr0
 obtain ⟨A2, c3, rfl, hl2⟩ := VR_list h1
 have H := Mem.startB S hp0
 have H := H.pB hS0 hl
 have H := H.pB hS0 hl2
 refine en Tryz.func61 fun a hf => ?_
 rw [spec_l1Cur_among] at hF
 refine sqz (pz 1 hf fun a hf => ?_)
 refine wr (pz 4 hf fun a hf => ?_)
 obtain ⟨y, hy, hF⟩ := bs_ hF
 refine oc hf TF.cl62 (spec_l1Cur_pick_ok (S := NB b0) (H.boxAt 0 rfl) ((L1CurP_mk (x := c) (H.nb 0 rfl (H.get 1 rfl)))) (fun h => h rfl) mk_int hy) fun v w a hp hf => ?_
 obtain ⟨hch, cs, hbx, hr, ⟨hx, hx2⟩, hs⟩ := hp
 obtain rfl := VR_int hs
 obtain ⟨A3, c4, rfl, hl3⟩ := L1CurP_cells hr
 obtain ⟨rfl, rfl⟩ := fx_slice hx rfl rfl
 have H := H.wroteBox 0 rfl hch hbx
 have H := H.pX 1 rfl hx2
 obtain ⟨e, he, hF⟩ := bs_ hF
 refine wl0 rfl (op_iaddr hf H Tryz.underlying29 TF.sz3 1 rfl rfl rfl he (by decide) fun p o cs2 a hf hr2 H => ?_)
 obtain rfl := hr2
 refine oq hf (rq_loadI hf H TF.ls3 0 0 rfl rfl rfl) fun a hf => ?_
 refine pz 1 hf fun a hf => ?_
 refine wer ?_
 obtain rfl := oi hF
 refine rT hf ?_
 exact ⟨_, rfl, H.chg, _, H.boxAt 0 rfl, (L1CurP_mk (x := y.2) (eB 0 (H.get 1 rfl))), ⟨fxc hx2, hx2⟩, mk_int⟩
theorem spec_l1Cur_bill_ok {S : Nat → Prop} {b0 : Nat} {cs0 : List Value} {c : L1CurP} {r : List Item × L1CurP} (hp0 : w0.heap[b0]? = some (.cells cs0.toArray 98 (0, 0))) (hr0 : GoTy.rep w0 S cs0 c) (hS0 : ¬ S b0) (hF : spec_l1Cur_bill fu c = some r) :
    Calls Tryz.prog 50 [(.pointer (some ⟨b0, 0, none⟩))].toArray w0 fun e w' => ∃ v, e = .returned v ∧ (Chg w0 w' [b0] ∧ ∃ cs', w'.heap[b0]? = some (.cells cs'.toArray 98 (0, 0)) ∧ GoTy.rep w' (St ⟨w0, [b0]⟩ S [⟨b0, 98, cs'⟩] [] [] false) cs' r.2 ∧ (cs'[0]? = cs0[0]? ∧ r.2.code = c.code) ∧ ∃ F0, VO w' F0 v r.1 ∧ New w0 w' F0) := by
 obtain ⟨A, c2, rfl, hl⟩ := L1CurP_cells hr0
 have H := Mem.startB S hp0
 have H := H.pB hS0 hl
 refine en Tryz.func50 fun a hf => ?_
 rw [spec_l1Cur_bill] at hF
 refine sqz (pz 1 hf fun a hf => ?_)
 refine wr (wl0 rfl (bl hf H 43 ([] : List Item) [] el0 fun A2 a w hf H => ?_))
 refine pz 1 hf fun a hf => ?_
 refine wl_end (then_n (sq (sqz (pz 1 hf fun a hf => ?_))))
 refine wl_end (then_n ?_)
 obtain ⟨out2, hB1, hF⟩ := bs_ hF
 have hf := hf.pn [0, 3, 4]
 have H := H.lt_ [true] [true] [] [0]
 refine loopC (fun (s : List Item × Int × List By × Int × U64) (a : Act) (w : World) => match s with | (out', kind, m, m2, m3) => ∃ (A3 : Option Addr) (c3 : Nat) (E : Go.TypeId), m = c.code ∧ Fr a 50 [(0, (.pointer (some ⟨b0, 0, none⟩))), (3, (.slice A3 out'.length c3)), (4, (.int .i64 kind))] ∧ Mem ⟨w0, [b0]⟩ S [⟨b0, 98, [(.slice A m.length c2), (.int .i64 m2), (.int .u64 m3.n)]⟩] [⟨.sh true, E, A3, c3, (out' : List Item)⟩] [] [(false, MP.val [(.slice A m.length c2)] (m : List By))] w) (fun k (s : List Item × Int × List By × Int × U64) => spec_l1Cur_bill_L1 fu k s.1 s.2.1 s.2.2.1 s.2.2.2.1 s.2.2.2.2 = some out2) (fun s => out2 = s) (([] : List Item), 1, c.code, c.at_, c.seed) fu hB1 ⟨A2, 0, 43, rfl, hf, H⟩ (fun s h => by cases h) ?_ ?_
 ·rintro fk ⟨out', kind, m, m2, m3⟩ a w hR1 hI
  replace hR1 : spec_l1Cur_bill_L1 fu (fk + 1) out' kind m m2 m3 = some out2 := hR1
  rw [spec_l1Cur_bill_L1] at hR1
  obtain ⟨A3, c3, E, hsm, hf, H⟩ := hI
  refine sq (sqz (pz 2 hf fun a hf => ?_))
  refine wl_end (then_n (ib hR1 hf (fun hc hR1 => ?_) fun hc hR1 => ?_))
  ·refine ws (pz 1 hf fun a hf => ?_)
   refine wl_end (then_n ?_)
   obtain ⟨out4, hB2, hR1⟩ := bs_ hR1
   have hf := hf.pn [0, 3, 4, 5]
   have H := H.lt_ [true] [true] [] [0]
   refine loopC (fun (s : List Item × Int × List By × Int × U64) (a : Act) (w : World) => match s with | (out3, node, m4, m5, m6) => ∃ (A4 : Option Addr) (c4 : Nat) (E2 : Go.TypeId), m4 = c.code ∧ Fr a 50 [(0, (.pointer (some ⟨b0, 0, none⟩))), (3, (.slice A4 out3.length c4)), (4, (.int .i64 kind)), (5, (.int .i64 node))] ∧ Mem ⟨w0, [b0]⟩ S [⟨b0, 98, [(.slice A m4.length c2), (.int .i64 m5), (.int .u64 m6.n)]⟩] [⟨.sh true, E2, A4, c4, (out3 : List Item)⟩] [] [(false, MP.val [(.slice A m4.length c2)] (m4 : List By))] w) (fun k (s : List Item × Int × List By × Int × U64) => spec_l1Cur_bill_L2 fu kind k s.1 s.2.1 s.2.2.1 s.2.2.2.1 s.2.2.2.2 = some out4) (fun s => out4 = s) (out', 0, m, m2, m3) fu hB2 ⟨A3, c3, E, hsm, hf, H⟩ (fun s h => by cases h) ?_ ?_
   ·rintro fk ⟨out3, node, m4, m5, m6⟩ a w hR2 hI
    replace hR2 : spec_l1Cur_bill_L2 fu kind (fk + 1) out3 node m4 m5 m6 = some out4 := hR2
    rw [spec_l1Cur_bill_L2] at hR2
    obtain ⟨A4, c4, E2, hsm, hf, H⟩ := hI
    refine sq (sqz (pz 2 hf fun a hf => ?_))
    refine wl_end (then_n (ib hR2 hf (fun hc2 hR2 => ?_) fun hc2 hR2 => ?_))
    ·refine ws (pz 1 hf fun a hf => ?_)
     obtain ⟨y, hy, hR2⟩ := bs_ hR2
     refine oc hf TF.cl74 (spec_l1Cur_one_ok (S := NB b0) (H.boxAt 0 rfl) ((L1CurP_mk (x := ({ code := m4, at_ := m5, seed := m6 } : L1CurP)) (H.nb 0 rfl (H.get 0 rfl)))) (fun h => h rfl) mk_int hy) fun v w a hp hf => ?_
     obtain ⟨hch, cs, hbx, hr, ⟨hx, hx2⟩, hs⟩ := hp
     obtain rfl := VR_bool hs
     obtain ⟨A5, c5, rfl, hl2⟩ := L1CurP_cells hr
     obtain ⟨rfl, rfl⟩ := fx_slice hx rfl rfl
     have hx3 := hx2.trans hsm
     have H := H.wroteBox 0 rfl hch hbx
     have H := H.pX 0 rfl hx2
     refine wl_end (then_n (ib hR2 hf (fun hc3 hR2 => ?_) fun hc3 hR2 => ?_))
     ·refine reg (pz 4 hf fun a hf => ?_)
      refine wl0 rfl (bl hf H 3 ([1, 2, 3, 10, 500] : List Int) [(.int .i64 1), (.int .i64 2), (.int .i64 3), (.int .i64 10), (.int .i64 500)] (elI [1, 2, 3, 10, 500]) fun A6 a w hf H => ?_)
      have H := H.freeze 0 rfl
      obtain ⟨y2, hy2, hR2⟩ := bs_ hR2
      refine oc hf TF.cl61 (spec_l1Cur_among_ok (S := NB b0) (H.boxAt 0 rfl) ((L1CurP_mk (x := y.2) (H.nb 0 rfl (H.get 1 rfl)))) (fun h => h rfl) (mk_list (H.nb 0 rfl (H.get 0 rfl))) hy2) fun v2 w a hp2 hf => ?_
      obtain ⟨hch2, cs2, hbx2, hr2, ⟨hx4, hx5⟩, hs2⟩ := hp2
      obtain rfl := VR_int hs2
      obtain ⟨A7, c6, rfl, hl3⟩ := L1CurP_cells hr2
      obtain ⟨rfl, rfl⟩ := fx_slice hx4 rfl rfl
      have hx6 := hx5.trans hx3
      have H := H.wroteBox 0 rfl hch2 hbx2
      have H := H.pX 1 rfl hx5
      refine oq hf (rq_build hf (cs := [(.int .i64 kind), (.int .i64 node), (.int .i64 y2.1)]) rfl (fun w => by kernel_rfl)) fun a hf => ?_
      refine wl0 rfl (bl hf H 43 ([({ Kind := kind, Node := node, Count := y2.1 } : Item)] : List Item) [(.int .i64 kind), (.int .i64 node), (.int .i64 y2.1)] (el1 (y := ({ Kind := kind, Node := node, Count := y2.1 } : Item)) ((Item_mk (x := ({ Kind := kind, Node := node, Count := y2.1 } : Item))))) fun A8 a w hf H => ?_)
      obtain ⟨l, hl, hR2⟩ := bs_ hR2
      refine wl0 rfl (op_appR hf H Tryz.underlying24 TF.ai43 rfl (by decide) 1 0 rfl rfl rfl rfl (.inr rfl) hl (by decide) fun E3 A9 c7 a w hf H => ?_)
      refine pz 1 hf fun a hf => ?_
      have hf := hf.pn [0, 3, 4, 5]
      refine wl_end (blk_n (then_n (reg (pz 3 hf fun a hf => ?_))))
      refine wl_end ?_
      have hf := hf.pn [0, 3, 4, 5]
      have H := H.lt_ [true] [false, true] [] [0]
      exact then_n ⟨(l, w64 (node + 1), y2.2.code, y2.2.at_, y2.2.seed), hR2, A9, c7, E3, hx6, hf, H⟩
     ·refine wp_skip (blk_n (then_n (reg (pz 3 hf fun a hf => ?_))))
      refine wl_end ?_
      have hf := hf.pn [0, 3, 4, 5]
      have H := H.lt_ [true] [true] [] [0]
      exact then_n ⟨(out3, w64 (node + 1), y.2.code, y.2.at_, y.2.seed), hR2, A4, c4, E2, hx3, hf, H⟩
    ·refine wp_exit (then_x (then_x (blk_e (?_))))
     have hf := hf.pn [0, 3, 4, 5]
     have H := H.lt_ [true] [true] [] [0]
     exact ⟨(out3, node, m4, m5, m6), (Option.some.inj hR2).symm, A4, c4, E2, hsm, hf, H⟩
   rintro a w ⟨⟨out5, node2, m7, m8, m9⟩, rfl, A10, c8, E4, hsm, hf, H⟩
   try dsimp only at hsm
   try dsimp only at hR1
   refine blk_n (then_n (reg (pz 3 hf fun a hf => ?_)))
   refine wl_end ?_
   have hf := hf.pn [0, 3, 4]
   have H := H.lt_ [true] [true] [] [0]
   exact then_n ⟨(out5, w64 (kind + 1), m7, m8, m9), hR1, A10, c8, E4, hsm, hf, H⟩
  ·refine wp_exit (then_x (then_x (blk_e (?_))))
   have hf := hf.pn [0, 3, 4]
   have H := H.lt_ [true] [true] [] [0]
   exact ⟨(out', kind, m, m2, m3), (Option.some.inj hR1).symm, A3, c3, E, hsm, hf, H⟩
 rintro a w ⟨⟨out6, kind2, m10, m11, m12⟩, rfl, A11, c9, E5, hsm2, hf, H⟩
 try dsimp only at hsm2
 try dsimp only at hF
 refine then_n (sq (sqz (pz 1 hf fun a hf => ?_)))
 obtain ⟨y3, hy3, hF⟩ := bs_ hF
 refine oc hf TF.cl62 (spec_l1Cur_pick_ok (S := NB b0) (H.boxAt 0 rfl) ((L1CurP_mk (x := ({ code := m10, at_ := m11, seed := m12 } : L1CurP)) (H.nb 0 rfl (H.get 0 rfl)))) (fun h => h rfl) mk_int hy3) fun v3 w a hp3 hf => ?_
 obtain ⟨hch3, cs3, hbx3, hr3, ⟨hx7, hx8⟩, hs3⟩ := hp3
 obtain rfl := VR_int hs3
 obtain ⟨A12, c10, rfl, hl4⟩ := L1CurP_cells hr3
 obtain ⟨rfl, rfl⟩ := fx_slice hx7 rfl rfl
 have hx9 := hx8.trans hsm2
 have H := H.wroteBox 0 rfl hch3 hbx3
 have H := H.pX 0 rfl hx8
 refine wl_end (then_n (wp_block (sqz (pz 2 hf fun a hf => ?_))))
 refine wl_end (then_n (ib hF hf (fun hc4 hF => ?_) fun hc4 hF => ?_))
 ·refine reg (pz 2 hf fun a hf => ?_)
  refine wl0 rfl (bl hf H 3 ([4, 5, 0] : List Int) [(.int .i64 4), (.int .i64 5), (.int .i64 0)] (elI [4, 5, 0]) fun A13 a w hf H => ?_)
  have H := H.freeze 0 rfl
  obtain ⟨y4, hy4, hF⟩ := bs_ hF
  refine oc hf TF.cl61 (spec_l1Cur_among_ok (S := NB b0) (H.boxAt 0 rfl) ((L1CurP_mk (x := y3.2) (H.nb 0 rfl (H.get 1 rfl)))) (fun h => h rfl) (mk_list (H.nb 0 rfl (H.get 0 rfl))) hy4) fun v4 w a hp4 hf => ?_
  obtain ⟨hch4, cs4, hbx4, hr4, ⟨hx10, hx11⟩, hs4⟩ := hp4
  obtain rfl := VR_int hs4
  obtain ⟨A14, c11, rfl, hl5⟩ := L1CurP_cells hr4
  obtain ⟨rfl, rfl⟩ := fx_slice hx10 rfl rfl
  have hx12 := hx11.trans hx9
  have H := H.wroteBox 0 rfl hch4 hbx4
  have H := H.pX 1 rfl hx11
  refine pz 1 hf fun a hf => ?_
  refine wl0 rfl (bl hf H 3 ([7, 8, 0] : List Int) [(.int .i64 7), (.int .i64 8), (.int .i64 0)] (elI [7, 8, 0]) fun A15 a w hf H => ?_)
  have H := H.freeze 0 rfl
  obtain ⟨y5, hy5, hF⟩ := bs_ hF
  refine oc hf TF.cl61 (spec_l1Cur_among_ok (S := NB b0) (H.boxAt 0 rfl) ((L1CurP_mk (x := y4.2) (H.nb 0 rfl (H.get 1 rfl)))) (fun h => h rfl) (mk_list (H.nb 0 rfl (H.get 0 rfl))) hy5) fun v5 w a hp5 hf => ?_
  obtain ⟨hch5, cs5, hbx5, hr5, ⟨hx13, hx14⟩, hs5⟩ := hp5
  obtain rfl := VR_int hs5
  obtain ⟨A16, c12, rfl, hl6⟩ := L1CurP_cells hr5
  obtain ⟨rfl, rfl⟩ := fx_slice hx13 rfl rfl
  have hx15 := hx14.trans hx12
  have H := H.wroteBox 0 rfl hch5 hbx5
  have H := H.pX 1 rfl hx14
  refine oq hf (rq_build hf (cs := [(.int .i64 y4.1), (.int .i64 y5.1), (.int .i64 1)]) rfl (fun w => by kernel_rfl)) fun a hf => ?_
  refine wl0 rfl (bl hf H 43 ([({ Kind := y4.1, Node := y5.1, Count := 1 } : Item)] : List Item) [(.int .i64 y4.1), (.int .i64 y5.1), (.int .i64 1)] (el1 (y := ({ Kind := y4.1, Node := y5.1, Count := 1 } : Item)) ((Item_mk (x := ({ Kind := y4.1, Node := y5.1, Count := 1 } : Item))))) fun A17 a w hf H => ?_)
  obtain ⟨l2, hl2, hF⟩ := bs_ hF
  refine wl0 rfl (op_appR hf H Tryz.underlying24 TF.ai43 rfl (by decide) 1 0 rfl rfl rfl rfl (.inr rfl) hl2 (by decide) fun E6 A18 c13 a w hf H => ?_)
  refine pz 1 hf fun a hf => ?_
  have hf := hf.pn [3]
  refine wl_end (blk_n (then_n (sqz (pz 2 hf fun a hf => ?_))))
  refine wer ?_
  have H := H.rowOwn 1 rfl rfl
  obtain ⟨F, H⟩ := H.freezeOwn 1 rfl
  have H := H.lend 0 rfl
  obtain rfl := oi hF
  refine rT hf ?_
  have hN := H.endsB1 0 rfl
  exact ⟨_, rfl, H.chg, _, H.boxAt 0 rfl, (L1CurP_mk (x := y5.2) (eB 0 (H.get 1 rfl))), ⟨fxc hx15, hx15⟩, F, (mko_list (H.ownAt 0 rfl)), hN⟩
 ·refine sqz (pz 2 hf fun a hf => ?_)
  refine wl_end (then_n (ib hF hf (fun hc5 hF => ?_) fun hc5 hF => ?_))
  ·refine reg (pz 2 hf fun a hf => ?_)
   refine wl0 rfl (bl hf H 3 ([0, 1000, 1001] : List Int) [(.int .i64 0), (.int .i64 1000), (.int .i64 1001)] (elI [0, 1000, 1001]) fun A19 a w hf H => ?_)
   have H := H.freeze 0 rfl
   obtain ⟨y6, hy6, hF⟩ := bs_ hF
   refine oc hf TF.cl61 (spec_l1Cur_among_ok (S := NB b0) (H.boxAt 0 rfl) ((L1CurP_mk (x := y3.2) (H.nb 0 rfl (H.get 1 rfl)))) (fun h => h rfl) (mk_list (H.nb 0 rfl (H.get 0 rfl))) hy6) fun v6 w a hp6 hf => ?_
   obtain ⟨hch6, cs6, hbx6, hr6, ⟨hx16, hx17⟩, hs6⟩ := hp6
   obtain rfl := VR_int hs6
   obtain ⟨A20, c14, rfl, hl7⟩ := L1CurP_cells hr6
   obtain ⟨rfl, rfl⟩ := fx_slice hx16 rfl rfl
   have hx18 := hx17.trans hx9
   have H := H.wroteBox 0 rfl hch6 hbx6
   have H := H.pX 1 rfl hx17
   refine oq hf (rq_build hf (cs := [(.int .i64 4), (.int .i64 7), (.int .i64 y6.1)]) rfl (fun w => by kernel_rfl)) fun a hf => ?_
   refine wl0 rfl (bl hf H 43 ([({ Kind := 4, Node := 7, Count := y6.1 } : Item)] : List Item) [(.int .i64 4), (.int .i64 7), (.int .i64 y6.1)] (el1 (y := ({ Kind := 4, Node := 7, Count := y6.1 } : Item)) ((Item_mk (x := ({ Kind := 4, Node := 7, Count := y6.1 } : Item))))) fun A21 a w hf H => ?_)
   obtain ⟨l3, hl3, hF⟩ := bs_ hF
   refine wl0 rfl (op_appR hf H Tryz.underlying24 TF.ai43 rfl (by decide) 1 0 rfl rfl rfl rfl (.inr rfl) hl3 (by decide) fun E7 A22 c15 a w hf H => ?_)
   refine pz 1 hf fun a hf => ?_
   have hf := hf.pn [3]
   refine wl_end (blk_n (then_n (sqz (pz 2 hf fun a hf => ?_))))
   refine wer ?_
   have H := H.rowOwn 1 rfl rfl
   obtain ⟨F2, H⟩ := H.freezeOwn 1 rfl
   have H := H.lend 0 rfl
   obtain rfl := oi hF
   refine rT hf ?_
   have hN := H.endsB1 0 rfl
   exact ⟨_, rfl, H.chg, _, H.boxAt 0 rfl, (L1CurP_mk (x := y6.2) (eB 0 (H.get 1 rfl))), ⟨fxc hx18, hx18⟩, F2, (mko_list (H.ownAt 0 rfl)), hN⟩
  ·refine wp_skip (blk_n (then_n (sqz (pz 2 hf fun a hf => ?_))))
   refine wer ?_
   have H := H.rowOwn 0 rfl rfl
   obtain ⟨F3, H⟩ := H.freezeOwn 0 rfl
   have H := H.lend 0 rfl
   obtain rfl := oi hF
   refine rT hf ?_
   have hN := H.endsB1 0 rfl
   exact ⟨_, rfl, H.chg, _, H.boxAt 0 rfl, (L1CurP_mk (x := y3.2) (eB 0 (H.get 1 rfl))), ⟨fxc hx9, hx9⟩, F3, (mko_list (H.ownAt 0 rfl)), hN⟩
theorem spec_DrawMergeBills_ok {S : Nat → Prop} {v0_ : Value} {code : List By} {r : List Item × List Item} (h0 : VR w0 S v0_ code) (hF : spec_DrawMergeBills fu code = some r) :
    Calls Tryz.prog 10 [v0_].toArray w0 fun e w' => ∃ v, e = .returned v ∧ (Below w0.heap.size w0 w' ∧ ∃ F0 F1, ∃ u0 u1, v = .tuple #[u0, u1] ∧ VO w' F0 u0 r.1 ∧ VO w' F1 u1 r.2 ∧ New w0 w' (F0 ++ F1)) := by
 obtain ⟨A, c, rfl, hl⟩ := VR_list h0
 have H := Mem.start ⟨w0, []⟩ S
 have H := H.pA hl
 refine en Tryz.func10 fun a hf => ?_
 rw [spec_DrawMergeBills] at hF
 refine sqz (pz 2 hf fun a hf => ?_)
 refine wr (pz 1 hf fun a hf => ?_)
 refine oq hf (rq_build hf (cs := [(.slice A code.length c), (.int .i64 0), (.int .u64 0)]) rfl (fun w => by kernel_rfl)) fun a hf => ?_
 refine wl0 rfl (op_box hf H rfl rfl (by decide) fun b' a w hf H => ?_)
 refine pz 1 hf fun a hf => ?_
 refine wr (pz 1 hf fun a hf => ?_)
 obtain ⟨y, hy, hF⟩ := bs_ hF
 refine oc hf TF.cl50 (spec_l1Cur_bill_ok (S := NB b') (H.boxAt 0 rfl) ((L1CurP_mk (x := ({ code := code, at_ := 0, seed := (⟨0⟩ : U64) } : L1CurP)) (H.nb 0 rfl (H.get 0 rfl)))) (fun h => h rfl) hy) fun v w a hp hf => ?_
 obtain ⟨hch, cs, hbx, hr, ⟨hx, hx2⟩, hs⟩ := hp
 obtain ⟨F, hp2, hN⟩ := hs
 obtain ⟨A2, c2, rfl, hl2⟩ := VO_list hp2
 obtain ⟨A3, c3, rfl, hl3⟩ := L1CurP_cells hr
 obtain ⟨rfl, rfl⟩ := fx_slice hx rfl rfl
 have H := H.bO1 0 rfl hch hbx hN hl2
 have H := H.pX 0 rfl hx2
 have H := H.lend 0 rfl
 refine pz 1 hf fun a hf => ?_
 refine wr (pz 2 hf fun a hf => ?_)
 obtain ⟨y2, hy2, hF⟩ := bs_ hF
 refine oc hf TF.cl50 (spec_l1Cur_bill_ok (S := NB b') (H.boxAt 0 rfl) ((L1CurP_mk (x := y.2) (H.nb 0 rfl (H.get 1 rfl)))) (fun h => h rfl) hy2) fun v2 w a hp3 hf => ?_
 obtain ⟨hch2, cs2, hbx2, hr2, ⟨hx3, hx4⟩, hs2⟩ := hp3
 obtain ⟨F3, hp4, hN2⟩ := hs2
 obtain ⟨A4, c4, rfl, hl4⟩ := VO_list hp4
 obtain ⟨A5, c5, rfl, hl5⟩ := L1CurP_cells hr2
 obtain ⟨rfl, rfl⟩ := fx_slice hx3 rfl rfl
 have hx5 := hx4.trans hx2
 have H := H.bO1 0 rfl hch2 hbx2 hN2 hl4
 have H := H.pX 1 rfl hx4
 have H := H.lend 0 rfl
 refine pz 2 hf fun a hf => ?_
 refine wer ?_
 have H := H.frontD 1 rfl
 obtain rfl := oi hF
 refine ret_2 hf rfl (rv_tmp hf rfl) (rv_tmp hf rfl) ?_
 have hN := H.ends2
 exact ⟨_, rfl, H.bel, F, F3, _, _, rfl, (mko_list (H.ownAt 0 rfl)), (mko_list (H.ownAt 1 rfl)), hN⟩
theorem impl_within_ok {S : Nat → Prop} {v0_ : Value} {v1_ : Value} {v2_ : Value} {n' : Int} {low : Int} {high : Int} {r : Bool} (h0 : VR w0 S v0_ n') (h1 : VR w0 S v1_ low) (h2 : VR w0 S v2_ high) (hF : impl_within fu n' low high = some r) :
    Calls Tryz.prog 58 [v0_, v1_, v2_].toArray w0 fun e w' => ∃ v, e = .returned v ∧ (Below w0.heap.size w0 w' ∧ VR w' (St ⟨w0, []⟩ S [] [] [] true) v r) := by
 obtain rfl := VR_int h0
 obtain rfl := VR_int h1
 obtain rfl := VR_int h2
 have H := Mem.start ⟨w0, []⟩ S
 refine en Tryz.func58 fun a hf => ?_
 rw [impl_within] at hF
 refine sqz (pz 1 hf fun a hf => ?_)
 refine wl_end (then_n (sq ?_))
 obtain ⟨c, hGc, hF⟩ := bs_ hF
 have fh := hf.prune [] rfl
 have Hm := H.lt_ [] [] [] []
 refine midF 6 (.bool c) fh Hm ?_ fun a w hf H => ?_
 ·refine reg (pz 4 hf fun a hf => ?_)
  refine iteB hGc (fun hc hGc => ?_) fun hc hGc => ?_
  ·have hf := hf.lit 10 rfl hc
   refine pz 5 hf fun a hf => ?_
   obtain rfl := oi hGc
   have hf := hf.pn [6]
   have H := H.lt_ [] [] [] []
   exact wl_end ⟨hf, H⟩
  ·have hf := hf.lit 10 rfl hc
   refine pz 5 hf fun a hf => ?_
   obtain rfl := oi hGc
   have hf := hf.pn [6]
   have H := H.lt_ [] [] [] []
   exact wl_end ⟨hf, H⟩
 refine then_n (wp_ret (?_))
 obtain rfl := oi hF
 refine rT hf ?_
 exact ⟨_, rfl, H.bel, mk_bool⟩
theorem impl_isBill_ok {S : Nat → Prop} {v0_ : Value} {bill : List Item} {r : Bool} (h0 : VR w0 S v0_ bill) (hF : impl_isBill fu bill = some r) :
    Calls Tryz.prog 51 [v0_].toArray w0 fun e w' => ∃ v, e = .returned v ∧ (Below w0.heap.size w0 w' ∧ VR w' (St ⟨w0, []⟩ S [] [] [] true) v r) := by
 obtain ⟨A, c, rfl, hl⟩ := VR_list h0
 have H := Mem.start ⟨w0, []⟩ S
 have H := H.pA hl
 refine en Tryz.func51 fun a hf => ?_
 rw [impl_isBill] at hF
 refine sqz (pz 1 hf fun a hf => ?_)
 refine wl_end (then_n (sq (sqz (pz 3 hf fun a hf => ?_))))
 refine wl_end (then_n ?_)
 obtain ⟨out', hB1, hF⟩ := bs_ hF
 have hf := hf.pn [0, 5, 6, 7]
 have H := H.lt_ [] [] [] [0]
 refine loopC (fun (s : Int) (a : Act) (w : World) => match s with | i => Fr a 57 [(0, (.slice A bill.length c)), (5, (.slice A bill.length c)), (6, (.int .i64 (bill.length : Int))), (7, (.int .i64 i))] ∧ Mem ⟨w0, []⟩ S [] [] [] [(false, MP.val [(.slice A bill.length c)] (bill : List Item))] w) (fun k (s : Int) => impl_isBill_L1 fu bill k s = some out') (fun s => out' = Out.next s) 0 fu hB1 ⟨hf, H⟩ (fun s h => by cases h) ?_ ?_
 ·rintro fk i a w hR1 hI
  replace hR1 : impl_isBill_L1 fu bill (fk + 1) i = some out' := hR1
  rw [impl_isBill_L1] at hR1
  obtain ⟨hf, H⟩ := hI
  refine sqz (pz 1 hf fun a hf => ?_)
  refine wl_end (then_n (sq (ib hR1 hf (fun hc hR1 => ?_) fun hc hR1 => ?_)))
  ·refine ws (pz 1 hf fun a hf => ?_)
   obtain ⟨e, he, hR1⟩ := bs_ hR1
   refine wl0 rfl (op_iaddr hf H Tryz.underlying24 TF.sz43 0 rfl rfl rfl he (by decide) fun p o cs a hf hr H => ?_)
   obtain rfl := Item_cells hr
   refine oq hf (rq_loadIN hf H TF.la43 0 0 rfl rfl rfl rfl) fun a hf => ?_
   refine aL hf H TF.zv43 fun b' a w hf H => ?_
   refine pz 1 hf fun a hf => ?_
   refine sB 0 hf H TF.sz43 fun w H => ?_
   refine wl_end (then_n (sq (sq ?_)))
   obtain ⟨c2, hGc2, hR1⟩ := bs_ hR1
   have fh := hf.prune [0, 3, 4, 5, 6, 7] rfl
   have Hm := H.lt_ [true] [] [] [1]
   refine midF 27 (.bool c2) fh Hm ?_ fun a w hf H => ?_
   ·refine reg (pz 1 hf fun a hf => ?_)
    refine lB 0 hf H TF.ls3 fun a hf => ?_
    obtain ⟨y, hy, hGc2⟩ := bs_ hGc2
    refine oc hf TF.cl58 (impl_within_ok (S := TT) mk_int mk_int mk_int hy) fun v w a hp hf => ?_
    obtain ⟨hb, hp⟩ := hp
    obtain rfl := VR_bool hp
    have H := H.keep hb
    refine pz 2 hf fun a hf => ?_
    refine iteB hGc2 (fun hc2 hGc2 => ?_) fun hc2 hGc2 => ?_
    ·have hf := hf.lit 16 rfl hc2
     refine pz 11 hf fun a hf => ?_
     obtain rfl := oi hGc2
     have hf := hf.pn [27, 0, 3, 4, 5, 6, 7]
     have H := H.lt_ [true] [] [] [1]
     exact wl_end ⟨hf, H⟩
    ·have hf := hf.lit 16 rfl hc2
     refine pz 1 hf fun a hf => ?_
     refine wlg hf rfl rfl rfl (op_q hf (rq_loadB hf H TF.ls3 0 rfl rfl rfl) rfl (by decide) fun a hf => ?_)
     obtain ⟨y2, hy2, hGc2⟩ := bs_ hGc2
     refine wlg hf rfl rfl rfl (oC hf TF.cl58 (impl_within_ok (S := TT) mk_int mk_int mk_int hy2) fun v2 w a hp2 hf => ?_)
     obtain ⟨hb2, hp2⟩ := hp2
     obtain rfl := VR_bool hp2
     have H := H.keep hb2
     refine pz 3 hf fun a hf => ?_
     refine iteB hGc2 (fun hc3 hGc2 => ?_) fun hc3 hGc2 => ?_
     ·have hf := hf.lit 22 rfl hc3
      refine pz 5 hf fun a hf => ?_
      obtain rfl := oi hGc2
      have hf := hf.pn [27, 0, 3, 4, 5, 6, 7]
      have H := H.lt_ [true] [] [] [1]
      exact wl_end ⟨hf, H⟩
     ·have hf := hf.lit 22 rfl hc3
      refine pz 1 hf fun a hf => ?_
      refine wlg hf rfl rfl rfl (op_q hf (rq_loadB hf H TF.ls3 0 rfl rfl rfl) rfl (by decide) fun a hf => ?_)
      obtain ⟨y3, hy3, hGc2⟩ := bs_ hGc2
      refine wlg hf rfl rfl rfl (oC hf TF.cl58 (impl_within_ok (S := TT) mk_int mk_int mk_int hy3) fun v3 w a hp3 hf => ?_)
      obtain ⟨hb3, hp3⟩ := hp3
      obtain rfl := VR_bool hp3
      have H := H.keep hb3
      refine pz 2 hf fun a hf => ?_
      obtain rfl := oi hGc2
      have hf := hf.pn [27, 0, 3, 4, 5, 6, 7]
      have H := H.lt_ [true] [] [] [1]
      exact wl_end ⟨hf, H⟩
   refine then_n (ib hR1 hf (fun hc4 hR1 => ?_) fun hc4 hR1 => ?_)
   ·refine sqz (pz 1 hf fun a hf => ?_)
    refine wl_end (then_n (wp_ret (then_r (blk_r (then_r (then_r (blk_r (then_r (then_r (?_))))))))))
    obtain rfl := oi hR1
    replace hF := on_ret hF
    obtain rfl := oi hF
    refine rT hf ?_
    exact ⟨_, rfl, H.bel, mk_bool⟩
   ·refine wp_skip (then_n (sq ?_))
    obtain ⟨c3, hGc3, hR1⟩ := bs_ hR1
    have fh2 := hf.prune [0, 5, 6, 7] rfl
    have Hm2 := H.lt_ [false] [] [] [0]
    refine midF 52 (.bool c3) fh2 Hm2 ?_ fun a w hf H => ?_
    ·refine dw [] 25 fun w hb => ?_
     have H := H.keep hb
     refine zp 0 hf trivial fun a hf => ?_
     refine zp 1 hf trivial fun a hf => ?_
     refine zp 2 hf trivial fun a hf => ?_
     refine iteB hGc3 (fun hc5 hGc3 => ?_) fun hc5 hGc3 => ?_
     ·have hf := hf.lit 30 rfl hc5
      refine zg 3 hf trivial fun a hf => ?_
      refine zg 4 hf trivial fun a hf => ?_
      refine zg 5 hf trivial fun a hf => ?_
      obtain ⟨e2, he2, hGc3⟩ := bs_ hGc3
      obtain ⟨p2, o2, cs2, hx, hr2, H⟩ := pre_iaddr H Tryz.underlying24 TF.sz43 0 rfl he2
      refine tPg 6 rfl rfl rfl rfl rfl rfl hf (by kernel_rfl) (fun _ => trivial) (fun w => rq_iaddrE hf rfl rfl rfl hx w) fun a hf => ?_
      obtain rfl := Item_cells hr2
      refine zg 7 hf trivial fun a hf => ?_
      refine strT (H.lt_ [false] [] [] [0]) (fun w H => trivial) fun hS => ?_
      refine tSg 8 [] rfl rfl rfl rfl rfl rfl hf (by kernel_rfl) (by kernel_rfl) hS (fun w H => rq_loadI hf H TF.ls3 0 0 rfl rfl rfl) fun a hf => ?_
      refine zg 9 hf hS fun a hf => ?_
      refine zg 10 hf hS fun a hf => ?_
      refine zg 11 hf hS fun a hf => ?_
      refine zg 12 hf hS fun a hf => ?_
      obtain ⟨e3, he3, hGc3⟩ := bs_ hGc3
      obtain ⟨p3, o3, cs3, hx2, hr3, H⟩ := pre_iaddr H Tryz.underlying24 TF.sz43 1 rfl he3
      refine tPg 13 rfl rfl rfl rfl rfl rfl hf (by kernel_rfl) (fun _ => hS) (fun w => rq_iaddrE hf rfl rfl rfl hx2 w) fun a hf => ?_
      obtain rfl := Item_cells hr3
      refine zg 14 hf hS fun a hf => ?_
      refine strT (H.lt_ [false] [] [] [0, 1]) (fun w H => H.lt_ [] [] [] [1]) fun hS => ?_
      refine tSg 15 [] rfl rfl rfl rfl rfl rfl hf (by kernel_rfl) (by kernel_rfl) hS (fun w H => rq_loadI hf H TF.ls3 0 1 rfl rfl rfl) fun a hf => ?_
      refine zg 16 hf hS fun a hf => ?_
      refine zg 17 hf hS fun a hf => ?_
      refine strT (H.lt_ [true] [] [] [0, 1]) (fun w H => H.lt_ [false] [] [] [0, 1]) fun hS => ?_
      refine tSg 18 [] rfl rfl rfl rfl rfl rfl hf (by kernel_rfl) (by kernel_rfl) hS (fun w H => rq_loadB hf H TF.ls3 0 rfl rfl rfl) fun a hf => ?_
      refine zg 19 hf hS fun a hf => ?_
      refine zg 20 hf hS fun a hf => ?_
      refine tSg 21 [] rfl rfl rfl rfl rfl rfl hf (by kernel_rfl) (by kernel_rfl) hS (fun w H => rq_loadB hf H TF.ls3 0 rfl rfl rfl) fun a hf => ?_
      refine zg 22 hf hS fun a hf => ?_
      refine zg 23 hf hS fun a hf => ?_
      refine zp 24 hf hS fun a hf => ?_
      refine dn (by kernel_rfl) ?_
      obtain rfl := oi hGc3
      have hf := hf.pn [52, 0, 5, 6, 7]
      have H := H.lt_ [false] [] [] [2]
      exact ⟨hf, H⟩
     ·have hf := hf.lit 30 rfl hc5
      refine zU 3 hf trivial fun a hf => ?_
      refine zU 4 hf trivial fun a hf => ?_
      refine zU 5 hf trivial fun a hf => ?_
      refine zU 6 hf trivial fun a hf => ?_
      refine zU 7 hf trivial fun a hf => ?_
      refine zU 8 hf trivial fun a hf => ?_
      refine zU 9 hf trivial fun a hf => ?_
      refine zU 10 hf trivial fun a hf => ?_
      refine zU 11 hf trivial fun a hf => ?_
      refine zU 12 hf trivial fun a hf => ?_
      refine zU 13 hf trivial fun a hf => ?_
      refine zU 14 hf trivial fun a hf => ?_
      refine zU 15 hf trivial fun a hf => ?_
      refine zU 16 hf trivial fun a hf => ?_
      refine zU 17 hf trivial fun a hf => ?_
      refine zU 18 hf trivial fun a hf => ?_
      refine zU 19 hf trivial fun a hf => ?_
      refine zU 20 hf trivial fun a hf => ?_
      refine zU 21 hf trivial fun a hf => ?_
      refine zU 22 hf trivial fun a hf => ?_
      refine zU 23 hf trivial fun a hf => ?_
      refine zp 24 hf trivial fun a hf => ?_
      refine dn (by kernel_rfl) ?_
      obtain rfl := oi hGc3
      have hf := hf.pn [52, 0, 5, 6, 7]
      have H := H.lt_ [false] [] [] [0]
      exact ⟨hf, H⟩
    refine then_n (ib hR1 hf (fun hc6 hR1 => ?_) fun hc6 hR1 => ?_)
    ·refine sqz (pz 1 hf fun a hf => ?_)
     refine wl_end (then_n (wp_ret (blk_r (then_r (then_r (blk_r (then_r (then_r (?_)))))))))
     obtain rfl := oi hR1
     replace hF := on_ret hF
     obtain rfl := oi hF
     refine rT hf ?_
     exact ⟨_, rfl, H.bel, mk_bool⟩
    ·refine wp_skip (blk_n (then_n (reg (pz 2 hf fun a hf => ?_))))
     refine wl_end ?_
     have hf := hf.pn [0, 5, 6, 7]
     have H := H.lt_ [] [] [] [0]
     exact then_n ⟨w64 (i + 1), hR1, hf, H⟩
  ·refine wp_exit (then_x (then_x (blk_e (?_))))
   have hf := hf.pn [0, 5, 6, 7]
   have H := H.lt_ [] [] [] [0]
   exact ⟨i, (Option.some.inj hR1).symm, hf, H⟩
 rintro a w ⟨i2, rfl, hf, H⟩
 replace hF := on_next hF
 refine then_n (sqz (pz 4 hf fun a hf => ?_))
 refine wer ?_
 obtain rfl := oi hF
 refine rT hf ?_
 exact ⟨_, rfl, H.bel, mk_bool⟩
theorem impl_tally_add_ok {S : Nat → Prop} {b0 : Nat} {cs0 : List Value} {v1_ : Value} {v2_ : Value} {t : IA 40} {bill : List Item} {factor : Int} {r : IA 40} (hp0 : w0.heap[b0]? = some (.cells cs0.toArray 104 (0, 0))) (hr0 : GoTy.rep w0 S cs0 t) (hS0 : ¬ S b0) (h1 : VR w0 S v1_ bill) (h2 : VR w0 S v2_ factor) (hF : impl_tally_add fu t bill factor = some r) :
    Calls Tryz.prog 52 [(.pointer (some ⟨b0, 0, none⟩)), v1_, v2_].toArray w0 fun e w' => ∃ v, e = .returned v ∧ (Chg w0 w' [b0] ∧ ∃ cs', w'.heap[b0]? = some (.cells cs'.toArray 104 (0, 0)) ∧ GoTy.rep w' (St ⟨w0, [b0]⟩ S [⟨b0, 104, cs'⟩] [] [] false) cs' r ∧ v = .tuple #[]) := by
 obtain rfl := hr0
 obtain ⟨A, c, rfl, hl⟩ := VR_list h1
 obtain rfl := VR_int h2
 have H := Mem.startB S hp0
 have H := H.pB hS0 hl
 refine en Tryz.func52 fun a hf => ?_
 rw [impl_tally_add] at hF
 refine sqz (pz 3 hf fun a hf => ?_)
 refine wl_end (then_n ?_)
 obtain ⟨out', hB1, hF⟩ := bs_ hF
 have hf := hf.pn [0, 2, 8, 9, 10]
 have H := H.lt_ [true] [] [] [0]
 refine loopC (fun (s : Int × IA 40) (a : Act) (w : World) => match s with | (i, m) => Fr a 32 [(0, (.pointer (some ⟨b0, 0, none⟩))), (2, (.int .i64 factor)), (8, (.slice A bill.length c)), (9, (.int .i64 (bill.length : Int))), (10, (.int .i64 i))] ∧ Mem ⟨w0, [b0]⟩ S [⟨b0, 104, m.cells⟩] [] [] [(false, MP.val [(.slice A bill.length c)] (bill : List Item))] w) (fun k (s : Int × IA 40) => impl_tally_add_L1 fu bill factor k s.1 s.2 = some out') (fun s => out' = s) (0, t) fu hB1 ⟨hf, H⟩ (fun s h => by cases h) ?_ ?_
 ·rintro fk ⟨i, m⟩ a w hR1 hI
  replace hR1 : impl_tally_add_L1 fu bill factor (fk + 1) i m = some out' := hR1
  rw [impl_tally_add_L1] at hR1
  obtain ⟨hf, H⟩ := hI
  refine sqz (pz 1 hf fun a hf => ?_)
  refine wl_end (then_n (sq (ib hR1 hf (fun hc hR1 => ?_) fun hc hR1 => ?_)))
  ·refine wp_skip (then_n (sq (wp_block (sq (reg ?_)))))
   obtain ⟨e, he, hR1⟩ := bs_ hR1
   refine wl0 rfl (op_iaddr hf H Tryz.underlying24 TF.sz43 0 rfl rfl rfl he (by decide) fun p o cs a hf hr H => ?_)
   obtain rfl := Item_cells hr
   refine oq hf (rq_loadIN hf H TF.la43 0 0 rfl rfl rfl rfl) fun a hf => ?_
   refine aL hf H TF.zv43 fun b' a w hf H => ?_
   refine sB 0 hf H TF.sz43 fun w H => ?_
   refine wl_end (then_n (dw [17] 18 fun w hb => ?_))
   have H := H.keep hb
   refine zp 0 hf trivial fun a hf => ?_
   refine zp 1 hf trivial fun a hf => ?_
   refine strT (H.lt_ [true, false] [] [] []) (fun w H => trivial) fun hS => ?_
   refine zS 2 [2, 6, 7, 8, 13, 15, 16, 17] rfl rfl rfl rfl hf hS (fun w H => rq_loadB hf H TF.ls3 0 rfl rfl rfl) fun a hf => ?_
   refine zp 3 hf hS fun a hf => ?_
   refine zS 4 [4, 7, 8, 13, 16, 17] rfl rfl rfl rfl hf hS (fun w H => rq_loadB hf H TF.ls3 0 rfl rfl rfl) fun a hf => ?_
   refine zp 5 hf hS fun a hf => ?_
   obtain ⟨q, hq, hR1⟩ := bs_ hR1
   refine zP 6 rfl rfl rfl rfl hf hS (fun w => rq_iaddrA hf Tryz.underlying104 TF.sz102 rfl rfl hq) fun a hf => ?_
   obtain ⟨q2, hq2, hR1⟩ := bs_ hR1
   refine zP 7 rfl rfl rfl rfl hf hS (fun w => rq_iaddrA hf Tryz.underlying102 TF.sz3 rfl rfl hq2) fun a hf => ?_
   refine strT (H.lt_ [true, true] [] [] []) (fun w H => H.lt_ [true, false] [] [] []) fun hS => ?_
   obtain ⟨e2, he2, hR1⟩ := bs_ hR1
   refine zS 8 [8, 13, 16, 17] rfl rfl rfl rfl hf hS (fun w H => rq_loadArr hf H TF.ls3 1 rfl rfl he2) fun a hf => ?_
   refine zp 9 hf hS fun a hf => ?_
   refine zp 10 hf hS fun a hf => ?_
   refine zS 11 [11, 12, 13, 16, 17] rfl rfl rfl rfl hf hS (fun w H => rq_loadB hf H TF.ls3 0 rfl rfl rfl) fun a hf => ?_
   refine zp 12 hf hS fun a hf => ?_
   refine zp 13 hf hS fun a hf => ?_
   refine zp 14 hf hS fun a hf => ?_
   obtain ⟨q3, hq3, hR1⟩ := bs_ hR1
   refine zP 15 rfl rfl rfl rfl hf hS (fun w => rq_iaddrA hf Tryz.underlying104 TF.sz102 rfl rfl hq3) fun a hf => ?_
   obtain ⟨q4, hq4, hR1⟩ := bs_ hR1
   refine zP 16 rfl rfl rfl rfl hf hS (fun w => rq_iaddrA hf Tryz.underlying102 TF.sz3 rfl rfl hq4) fun a hf => ?_
   obtain ⟨x1, hx1, hR1⟩ := bs_ hR1
   refine nn 17 rfl (op_storeArr hf H 1 TF.sz3 rfl rfl rfl hx1 fun w H => ?_)
   refine ⟨fun h => absurd h (by decide), ?_⟩
   refine dn (by kernel_rfl) ?_
   have hf := hf.pn [0, 2, 8, 9, 10]
   refine blk_n (then_n (reg (pz 2 hf fun a hf => ?_)))
   refine wl_end ?_
   have hf := hf.pn [0, 2, 8, 9, 10]
   have H := H.lt_ [false, true] [] [] [1]
   exact then_n ⟨(w64 (i + 1), x1), hR1, hf, H⟩
  ·refine wp_exit (then_x (then_x (blk_e (?_))))
   have hf := hf.pn [0, 2, 8, 9, 10]
   have H := H.lt_ [true] [] [] [0]
   exact ⟨(i, m), (Option.some.inj hR1).symm, hf, H⟩
 rintro a w ⟨⟨i2, m2⟩, rfl, hf, H⟩
 try dsimp only at hF
 obtain rfl := oi hF
 refine ret_0 hf rfl ?_
 exact ⟨_, rfl, H.chg, _, H.boxAt 0 rfl, rfl, rfl⟩
theorem impl_tally_bill_ok {S : Nat → Prop} {b0 o0 : Nat} {cs0 : List Value} {t : IA 40} {r : List Item × Bool} (hp0 : (MP.cells ⟨b0, o0, none⟩ cs0).pred w0 S) (hr0 : GoTy.rep w0 S cs0 t) (hF : impl_tally_bill fu t = some r) :
    Calls Tryz.prog 53 [(.pointer (some ⟨b0, o0, none⟩))].toArray w0 fun e w' => ∃ v, e = .returned v ∧ (Below w0.heap.size w0 w' ∧ ∃ F0, ∃ u0 u1, v = .tuple #[u0, u1] ∧ VO w' F0 u0 r.1 ∧ VR w' (St ⟨w0, []⟩ S [] [] [] true) u1 r.2 ∧ New w0 w' F0) := by
 obtain rfl := hr0
 have H := Mem.start ⟨w0, []⟩ S
 have H := H.pushArg (MP.cells ⟨b0, o0, none⟩ t.cells) hp0
 refine en Tryz.func53 fun a hf => ?_
 rw [impl_tally_bill] at hF
 refine sqz (pz 2 hf fun a hf => ?_)
 refine wr (wl0 rfl (bl hf H 43 ([] : List Item) [] el0 fun A a w hf H => ?_))
 refine pz 1 hf fun a hf => ?_
 refine wl_end (then_n (sq (sqz (pz 1 hf fun a hf => ?_))))
 refine wl_end (then_n ?_)
 obtain ⟨out2, hB1, hF⟩ := bs_ hF
 have hf := hf.pn [0, 4, 5]
 have H := H.lt_ [] [true] [] [0]
 refine loopC (fun (s : List Item × Int) (a : Act) (w : World) => match s with | (out', kind) => ∃ (A2 : Option Addr) (c : Nat) (E : Go.TypeId), Fr a 36 [(0, (.pointer (some ⟨b0, o0 + 0, none⟩))), (4, (.slice A2 out'.length c)), (5, (.int .i64 kind))] ∧ Mem ⟨w0, []⟩ S [] [⟨.sh true, E, A2, c, (out' : List Item)⟩] [] [(false, MP.cells ⟨b0, o0, none⟩ t.cells)] w) (fun k (s : List Item × Int) => impl_tally_bill_L1 fu t k s.1 s.2 = some out2) (fun s => out2 = s) (([] : List Item), 1) fu hB1 ⟨A, 0, 43, hf, H⟩ (fun s h => by cases h) ?_ ?_
 ·rintro fk ⟨out', kind⟩ a w hR1 hI
  replace hR1 : impl_tally_bill_L1 fu t (fk + 1) out' kind = some out2 := hR1
  rw [impl_tally_bill_L1] at hR1
  obtain ⟨A2, c, E, hf, H⟩ := hI
  refine sq (sqz (pz 2 hf fun a hf => ?_))
  refine wl_end (then_n (ib hR1 hf (fun hc hR1 => ?_) fun hc hR1 => ?_))
  ·refine ws (pz 3 hf fun a hf => ?_)
   obtain ⟨q, hq, hR1⟩ := bs_ hR1
   refine oq hf (rq_iaddrA hf Tryz.underlying104 TF.sz102 rfl rfl hq) fun a hf => ?_
   obtain ⟨z, hz, hR1⟩ := bs_ hR1
   refine oq hf (rq_loadArrNI hf H TF.la102 0 rfl rfl hz) fun a hf => ?_
   refine pz 1 hf fun a hf => ?_
   refine wl_end (then_n ?_)
   obtain ⟨out4, hB2, hR1⟩ := bs_ hR1
   have hf := hf.pn [0, 4, 5, 17, 18]
   have H := H.lt_ [] [true] [] [0]
   refine loopC (fun (s : List Item × Int) (a : Act) (w : World) => match s with | (out3, i) => ∃ (A3 : Option Addr) (c2 : Nat) (E2 : Go.TypeId), Fr a 36 [(0, (.pointer (some ⟨b0, o0 + 0, none⟩))), (4, (.slice A3 out3.length c2)), (5, (.int .i64 kind)), (17, (.agg z.cells.toArray)), (18, (.int .i64 i))] ∧ Mem ⟨w0, []⟩ S [] [⟨.sh true, E2, A3, c2, (out3 : List Item)⟩] [] [(false, MP.cells ⟨b0, o0, none⟩ t.cells)] w) (fun k (s : List Item × Int) => impl_tally_bill_L2 fu z kind k s.1 s.2 = some out4) (fun s => out4 = s) (out', 0) fu hB2 ⟨A2, c, E, hf, H⟩ (fun s h => by cases h) ?_ ?_
   ·rintro fk ⟨out3, i⟩ a w hR2 hI
    replace hR2 : impl_tally_bill_L2 fu z kind (fk + 1) out3 i = some out4 := hR2
    rw [impl_tally_bill_L2] at hR2
    obtain ⟨A3, c2, E2, hf, H⟩ := hI
    refine sqz (pz 1 hf fun a hf => ?_)
    refine wl_end (then_n (sq (ib hR2 hf (fun hc2 hR2 => ?_) fun hc2 hR2 => ?_)))
    ·refine ws (pz 1 hf fun a hf => ?_)
     obtain ⟨e, he, hR2⟩ := bs_ hR2
     refine oq hf (rq_indexA hf Tryz.underlying102 TF.pt3 rfl rfl rfl z.h he) fun a hf => ?_
     refine pz 2 hf fun a hf => ?_
     refine wr (pz 2 hf fun a hf => ?_)
     refine wl_end (then_n (ib hR2 hf (fun hc3 hR2 => ?_) fun hc3 hR2 => ?_))
     ·refine reg (pz 4 hf fun a hf => ?_)
      refine oq hf (rq_build hf (cs := [(.int .i64 kind), (.int .i64 i), (.int .i64 e)]) rfl (fun w => by kernel_rfl)) fun a hf => ?_
      refine wl0 rfl (bl hf H 43 ([({ Kind := kind, Node := i, Count := e } : Item)] : List Item) [(.int .i64 kind), (.int .i64 i), (.int .i64 e)] (el1 (y := ({ Kind := kind, Node := i, Count := e } : Item)) ((Item_mk (x := ({ Kind := kind, Node := i, Count := e } : Item))))) fun A4 a w hf H => ?_)
      obtain ⟨l, hl, hR2⟩ := bs_ hR2
      refine wl0 rfl (op_appR hf H Tryz.underlying24 TF.ai43 rfl (by decide) 1 0 rfl rfl rfl rfl (.inr rfl) hl (by decide) fun E3 A5 c3 a w hf H => ?_)
      refine pz 1 hf fun a hf => ?_
      have hf := hf.pn [0, 4, 5, 17, 18]
      refine wl_end (blk_n (then_n (reg (pz 2 hf fun a hf => ?_))))
      refine wl_end ?_
      have hf := hf.pn [0, 4, 5, 17, 18]
      have H := H.lt_ [] [false, true] [] [0]
      exact then_n ⟨(l, w64 (i + 1)), hR2, A5, c3, E3, hf, H⟩
     ·refine wp_skip (blk_n (then_n (reg (pz 2 hf fun a hf => ?_))))
      refine wl_end ?_
      have hf := hf.pn [0, 4, 5, 17, 18]
      have H := H.lt_ [] [true] [] [0]
      exact then_n ⟨(out3, w64 (i + 1)), hR2, A3, c2, E2, hf, H⟩
    ·refine wp_exit (then_x (then_x (blk_e (?_))))
     have hf := hf.pn [0, 4, 5, 17, 18]
     have H := H.lt_ [] [true] [] [0]
     exact ⟨(out3, i), (Option.some.inj hR2).symm, A3, c2, E2, hf, H⟩
   rintro a w ⟨⟨out5, i2⟩, rfl, A6, c4, E4, hf, H⟩
   try dsimp only at hR1
   refine blk_n (then_n (reg (pz 3 hf fun a hf => ?_)))
   refine wl_end ?_
   have hf := hf.pn [0, 4, 5]
   have H := H.lt_ [] [true] [] [0]
   exact then_n ⟨(out5, w64 (kind + 1)), hR1, A6, c4, E4, hf, H⟩
  ·refine wp_exit (then_x (then_x (blk_e (?_))))
   have hf := hf.pn [0, 4, 5]
   have H := H.lt_ [] [true] [] [0]
   exact ⟨(out', kind), (Option.some.inj hR1).symm, A2, c, E, hf, H⟩
 rintro a w ⟨⟨out6, kind2⟩, rfl, A7, c5, E5, hf, H⟩
 try dsimp only at hF
 refine then_n (sq (sqz (pz 1 hf fun a hf => ?_)))
 obtain ⟨y, hy, hF⟩ := bs_ hF
 refine oc hf TF.cl51 (impl_isBill_ok (S := TT) (mk_list (H.rowTrue 0 rfl)) hy) fun v w a hp hf => ?_
 obtain ⟨hb, hp⟩ := hp
 obtain rfl := VR_bool hp
 have H := H.keep hb
 refine pz 1 hf fun a hf => ?_
 refine wl_end (then_n (ib hF hf (fun hc4 hF => ?_) fun hc4 hF => ?_))
 ·refine sqz (pz 2 hf fun a hf => ?_)
  refine wl_end (then_n (wp_ret (then_r (?_))))
  have H := H.ownNil (Item)
  have H := H.lend 0 rfl
  obtain rfl := oi hF
  refine ret_2 hf rfl (rv_tmp hf rfl) (rv_tmp hf rfl) ?_
  have hN := H.ends1
  exact ⟨_, rfl, H.bel, [], _, _, rfl, (mko_list (H.ownAt 0 rfl)), mk_bool, hN⟩
 ·refine wp_skip (then_n (sqz (pz 3 hf fun a hf => ?_)))
  refine wer ?_
  have H := H.rowOwn 0 rfl rfl
  obtain ⟨F, H⟩ := H.freezeOwn 0 rfl
  have H := H.lend 0 rfl
  obtain rfl := oi hF
  refine ret_2 hf rfl (rv_tmp hf rfl) (rv_tmp hf rfl) ?_
  have hN := H.ends1
  exact ⟨_, rfl, H.bel, F, _, _, rfl, (mko_list (H.ownAt 0 rfl)), mk_bool, hN⟩
theorem impl_MergeBills_ok {S : Nat → Prop} {v0_ : Value} {v1_ : Value} {a' : List Item} {b' : List Item} {r : List Item × Bool} (h0 : VR w0 S v0_ a') (h1 : VR w0 S v1_ b') (hF : impl_MergeBills fu a' b' = some r) :
    Calls Tryz.prog 11 [v0_, v1_].toArray w0 fun e w' => ∃ v, e = .returned v ∧ (Below w0.heap.size w0 w' ∧ ∃ F0, ∃ u0 u1, v = .tuple #[u0, u1] ∧ VO w' F0 u0 r.1 ∧ VR w' (St ⟨w0, []⟩ S [] [] [] true) u1 r.2 ∧ New w0 w' F0) := by
 obtain ⟨A, c, rfl, hl⟩ := VR_list h0
 obtain ⟨A2, c2, rfl, hl2⟩ := VR_list h1
 have H := Mem.start ⟨w0, []⟩ S
 have H := H.pA hl
 have H := H.pA hl2
 refine en Tryz.func11 fun a hf => ?_
 rw [impl_MergeBills] at hF
 refine sqz (pz 2 hf fun a hf => ?_)
 refine wl_end (then_n (sq (sq ?_)))
 obtain ⟨c3, hGc3, hF⟩ := bs_ hF
 have fh := hf.prune [0, 1] rfl
 have Hm := H.lt_ [] [] [] [0, 1]
 refine midF 14 (.bool c3) fh Hm ?_ fun a w hf H => ?_
 ·refine reg (pz 1 hf fun a hf => ?_)
  obtain ⟨y, hy, hGc3⟩ := bs_ hGc3
  refine oc hf TF.cl51 (impl_isBill_ok (S := TT) (mk_list (H.rt 1 rfl)) hy) fun v w a hp hf => ?_
  obtain ⟨hb, hp⟩ := hp
  obtain rfl := VR_bool hp
  have H := H.keep hb
  refine pz 2 hf fun a hf => ?_
  refine iteB hGc3 (fun hc hGc3 => ?_) fun hc hGc3 => ?_
  ·have hf := hf.lit 10 rfl hc
   refine pz 4 hf fun a hf => ?_
   obtain rfl := oi hGc3
   have hf := hf.pn [14, 0, 1]
   have H := H.lt_ [] [] [] [0, 1]
   exact wl_end ⟨hf, H⟩
  ·have hf := hf.lit 10 rfl hc
   refine pz 1 hf fun a hf => ?_
   obtain ⟨y2, hy2, hGc3⟩ := bs_ hGc3
   refine wlg hf rfl rfl rfl (oC hf TF.cl51 (impl_isBill_ok (S := TT) (mk_list (H.rt 0 rfl)) hy2) fun v2 w a hp2 hf => ?_)
   obtain ⟨hb2, hp2⟩ := hp2
   obtain rfl := VR_bool hp2
   have H := H.keep hb2
   refine pz 2 hf fun a hf => ?_
   obtain rfl := oi hGc3
   have hf := hf.pn [14, 0, 1]
   have H := H.lt_ [] [] [] [0, 1]
   exact wl_end ⟨hf, H⟩
 refine then_n (ib hF hf (fun hc2 hF => ?_) fun hc2 hF => ?_)
 ·refine sqz (pz 2 hf fun a hf => ?_)
  refine wl_end (then_n (wp_ret (then_r (?_))))
  have H := H.ownNil (Item)
  have H := H.lend 0 rfl
  obtain rfl := oi hF
  refine ret_2 hf rfl (rv_tmp hf rfl) (rv_tmp hf rfl) ?_
  have hN := H.ends1
  exact ⟨_, rfl, H.bel, [], _, _, rfl, (mko_list (H.ownAt 0 rfl)), mk_bool, hN⟩
 ·refine wp_skip (then_n (sq (reg (oq hf (rq_build hf (cs := [(.int .i64 0), (.int .i64 0), (.int .i64 0), (.int .i64 0), (.int .i64 0), (.int .i64 0), (.int .i64 0), (.int .i64 0), (.int .i64 0), (.int .i64 0), (.int .i64 0), (.int .i64 0), (.int .i64 0), (.int .i64 0), (.int .i64 0), (.int .i64 0), (.int .i64 0), (.int .i64 0), (.int .i64 0), (.int .i64 0), (.int .i64 0), (.int .i64 0), (.int .i64 0), (.int .i64 0), (.int .i64 0), (.int .i64 0), (.int .i64 0), (.int .i64 0), (.int .i64 0), (.int .i64 0), (.int .i64 0), (.int .i64 0), (.int .i64 0), (.int .i64 0), (.int .i64 0), (.int .i64 0), (.int .i64 0), (.int .i64 0), (.int .i64 0), (.int .i64 0)]) rfl (fun w => by kernel_rfl)) fun a hf => ?_))))
  refine wl0 rfl (op_box hf H rfl rfl (by decide) fun b2 a w hf H => ?_)
  have H : Mem ⟨w0, []⟩ S [⟨b2, 104, (⟨[0, 0, 0, 0, 0, 0, 0, 0, 0, 0, 0, 0, 0, 0, 0, 0, 0, 0, 0, 0, 0, 0, 0, 0, 0, 0, 0, 0, 0, 0, 0, 0, 0, 0, 0, 0, 0, 0, 0, 0], rfl⟩ : IA 40).cells⟩] [] [] [(false, MP.val [(.slice A2 b'.length c2)] (b' : List Item)), (false, MP.val [(.slice A a'.length c)] (a' : List Item))] w := H
  refine pz 1 hf fun a hf => ?_
  refine wr (pz 2 hf fun a hf => ?_)
  obtain ⟨y3, hy3, hF⟩ := bs_ hF
  refine oc hf TF.cl52 (impl_tally_add_ok (S := St ⟨w0, []⟩ S [⟨b2, 104, (⟨[0, 0, 0, 0, 0, 0, 0, 0, 0, 0, 0, 0, 0, 0, 0, 0, 0, 0, 0, 0, 0, 0, 0, 0, 0, 0, 0, 0, 0, 0, 0, 0, 0, 0, 0, 0, 0, 0, 0, 0], rfl⟩ : IA 40).cells⟩] [] [] false) (H.boxAt 0 rfl) (rfl) (H.notSt 0 rfl _) (mk_list (H.get 1 rfl)) mk_int hy3) fun v3 w a hp3 hf => ?_
  obtain ⟨hch, cs, hbx, hr, hs⟩ := hp3
  obtain rfl := hs
  replace hr := GoTy.mono hr (H.movesB 0 rfl false)
  obtain rfl := hr
  have H := H.wroteBox 0 rfl hch hbx
  refine wr (pz 2 hf fun a hf => ?_)
  obtain ⟨y4, hy4, hF⟩ := bs_ hF
  refine oc hf TF.cl52 (impl_tally_add_ok (S := St ⟨w0, []⟩ S [⟨b2, 104, y3.cells⟩] [] [] false) (H.boxAt 0 rfl) (rfl) (H.notSt 0 rfl _) (mk_list (H.get 0 rfl)) mk_int hy4) fun v4 w a hp4 hf => ?_
  obtain ⟨hch2, cs2, hbx2, hr2, hs2⟩ := hp4
  obtain rfl := hs2
  replace hr2 := GoTy.mono hr2 (H.movesB 0 rfl false)
  obtain rfl := hr2
  have H := H.wroteBox 0 rfl hch2 hbx2
  refine wr (pz 1 hf fun a hf => ?_)
  obtain ⟨y5, hy5, hF⟩ := bs_ hF
  refine oc hf TF.cl53 (impl_tally_bill_ok (S := TT) (H.boxTrue 0 rfl) (rfl) hy5) fun v5 w a hp5 hf => ?_
  obtain ⟨hb3, F, v6, v7, rfl, hp6, hp7, hN⟩ := hp5
  obtain ⟨A3, c4, rfl, hl3⟩ := VO_list hp6
  obtain rfl := VR_bool hp7
  have H := H.aO1 hb3 hN hl3
  have H := H.lend 0 rfl
  refine pz 4 hf fun a hf => ?_
  have hf := hf.pn [4, 5]
  refine wer ?_
  obtain rfl := oi hF
  refine ret_2 hf rfl (rv_tmp hf rfl) (rv_tmp hf rfl) ?_
  have hN := H.ends1
  exact ⟨_, rfl, H.bel, F, _, _, rfl, (mko_list (H.ownAt 0 rfl)), mk_bool, hN⟩
theorem spec_l1In_ok {S : Nat → Prop} {v0_ : Value} {v1_ : Value} {v2_ : Value} {x1 : Int} {a' : Int} {b' : Int} {r : Bool} (h0 : VR w0 S v0_ x1) (h1 : VR w0 S v1_ a') (h2 : VR w0 S v2_ b') (hF : spec_l1In fu x1 a' b' = some r) :
    Calls Tryz.prog 68 [v0_, v1_, v2_].toArray w0 fun e w' => ∃ v, e = .returned v ∧ (Below w0.heap.size w0 w' ∧ VR w' (St ⟨w0, []⟩ S [] [] [] true) v r) := by
 obtain rfl := VR_int h0
 obtain rfl := VR_int h1
 obtain rfl := VR_int h2
 have H := Mem.start ⟨w0, []⟩ S
 refine en Tryz.func68 fun a hf => ?_
 rw [spec_l1In] at hF
 refine sqz (pz 1 hf fun a hf => ?_)
 refine wl_end (then_n (sq ?_))
 obtain ⟨c, hGc, hF⟩ := bs_ hF
 have fh := hf.prune [] rfl
 have Hm := H.lt_ [] [] [] []
 refine midF 6 (.bool c) fh Hm ?_ fun a w hf H => ?_
 ·refine reg (pz 4 hf fun a hf => ?_)
  refine iteB hGc (fun hc hGc => ?_) fun hc hGc => ?_
  ·have hf := hf.lit 10 rfl hc
   refine pz 5 hf fun a hf => ?_
   obtain rfl := oi hGc
   have hf := hf.pn [6]
   have H := H.lt_ [] [] [] []
   exact wl_end ⟨hf, H⟩
  ·have hf := hf.lit 10 rfl hc
   refine pz 5 hf fun a hf => ?_
   obtain rfl := oi hGc
   have hf := hf.pn [6]
   have H := H.lt_ [] [] [] []
   exact wl_end ⟨hf, H⟩
 refine then_n (wp_ret (?_))
 obtain rfl := oi hF
 refine rT hf ?_
 exact ⟨_, rfl, H.bel, mk_bool⟩
theorem spec_l19Before_ok {S : Nat → Prop} {v0_ : Value} {v1_ : Value} {a' : Item} {b' : Item} {r : Bool} (h0 : VR w0 S v0_ a') (h1 : VR w0 S v1_ b') (hF : spec_l19Before fu a' b' = some r) :
    Calls Tryz.prog 130 [v0_, v1_].toArray w0 fun e w' => ∃ v, e = .returned v ∧ (Below w0.heap.size w0 w' ∧ VR w' (St ⟨w0, []⟩ S [] [] [] true) v r) := by
 obtain rfl := Item_open h0
 obtain rfl := Item_open h1
 have H := Mem.start ⟨w0, []⟩ S
 refine en Tryz.func130 fun a hf => ?_
 rw [spec_l19Before] at hF
 refine bx hf H fun b2 a w hf H => ?_
 refine wl0 rfl (op_box hf H rfl rfl (by decide) fun b3 a w hf H => ?_)
 refine pz 1 hf fun a hf => ?_
 refine wl_end (then_n (sq ?_))
 obtain ⟨c, hGc, hF⟩ := bs_ hF
 have fh := hf.prune [] rfl
 have Hm := H.lt_ [false, false] [] [] []
 refine midF 4 (.bool c) fh Hm ?_ fun a w hf H => ?_
 ·refine reg (pz 1 hf fun a hf => ?_)
  refine lB 1 hf H TF.ls3 fun a hf => ?_
  refine pz 1 hf fun a hf => ?_
  refine lB 0 hf H TF.ls3 fun a hf => ?_
  refine pz 2 hf fun a hf => ?_
  refine iteB hGc (fun hc hGc => ?_) fun hc hGc => ?_
  ·have hf := hf.lit 10 rfl hc
   refine pz 6 hf fun a hf => ?_
   refine wlsu hf rfl rfl rfl rfl (by decide) fun a hf => ?_
   refine wlsu hf rfl rfl rfl rfl (by decide) fun a hf => ?_
   refine wlsu hf rfl rfl rfl rfl (by decide) fun a hf => ?_
   refine wlsu hf rfl rfl rfl rfl (by decide) fun a hf => ?_
   refine wlsu hf rfl rfl rfl rfl (by decide) fun a hf => ?_
   refine pz 3 hf fun a hf => ?_
   obtain rfl := oi hGc
   have hf := hf.pn [4]
   have H := H.lt_ [false, false] [] [] []
   exact wl_end ⟨hf, H⟩
  ·have hf := hf.lit 10 rfl hc
   refine pz 1 hf fun a hf => ?_
   refine wlg hf rfl rfl rfl (op_q hf (rq_loadB hf H TF.ls3 1 rfl rfl rfl) rfl (by decide) fun a hf => ?_)
   refine pz 1 hf fun a hf => ?_
   refine wlg hf rfl rfl rfl (op_q hf (rq_loadB hf H TF.ls3 0 rfl rfl rfl) rfl (by decide) fun a hf => ?_)
   refine pz 2 hf fun a hf => ?_
   refine iteB hGc (fun hc2 hGc => ?_) fun hc2 hGc => ?_
   ·have hf := hf.lit 16 rfl hc2
    refine pz 1 hf fun a hf => ?_
    refine wlg hf rfl rfl rfl (op_q hf (rq_loadB hf H TF.ls3 1 rfl rfl rfl) rfl (by decide) fun a hf => ?_)
    refine pz 1 hf fun a hf => ?_
    refine wlg hf rfl rfl rfl (op_q hf (rq_loadB hf H TF.ls3 0 rfl rfl rfl) rfl (by decide) fun a hf => ?_)
    refine pz 4 hf fun a hf => ?_
    obtain rfl := oi hGc
    have hf := hf.pn [4]
    have H := H.lt_ [false, false] [] [] []
    exact wl_end ⟨hf, H⟩
   ·have hf := hf.lit 16 rfl hc2
    refine pz 8 hf fun a hf => ?_
    obtain rfl := oi hGc
    have hf := hf.pn [4]
    have H := H.lt_ [false, false] [] [] []
    exact wl_end ⟨hf, H⟩
 refine then_n (wp_ret (?_))
 obtain rfl := oi hF
 refine rT hf ?_
 exact ⟨_, rfl, H.bel, mk_bool⟩
theorem spec_l19Bill_ok {S : Nat → Prop} {v0_ : Value} {bill : List Item} {r : Bool} (h0 : VR w0 S v0_ bill) (hF : spec_l19Bill fu bill = some r) :
    Calls Tryz.prog 54 [v0_].toArray w0 fun e w' => ∃ v, e = .returned v ∧ (Below w0.heap.size w0 w' ∧ VR w' (St ⟨w0, []⟩ S [] [] [] true) v r) := by
 obtain ⟨A, c, rfl, hl⟩ := VR_list h0
 have H := Mem.start ⟨w0, []⟩ S
 have H := H.pA hl
 refine en Tryz.func54 fun a hf => ?_
 rw [spec_l19Bill] at hF
 refine sqz (pz 1 hf fun a hf => ?_)
 refine wl_end (then_n (sq (sqz (pz 1 hf fun a hf => ?_))))
 refine wl_end (then_n ?_)
 obtain ⟨out', hB1, hF⟩ := bs_ hF
 have hf := hf.pn [0, 3]
 have H := H.lt_ [] [] [] [0]
 refine loopC (fun (s : Int) (a : Act) (w : World) => match s with | i => Fr a 48 [(0, (.slice A bill.length c)), (3, (.int .i64 i))] ∧ Mem ⟨w0, []⟩ S [] [] [] [(false, MP.val [(.slice A bill.length c)] (bill : List Item))] w) (fun k (s : Int) => spec_l19Bill_L1 fu bill k s = some out') (fun s => out' = Out.next s) 0 fu hB1 ⟨hf, H⟩ (fun s h => by cases h) ?_ ?_
 ·rintro fk i a w hR1 hI
  replace hR1 : spec_l19Bill_L1 fu bill (fk + 1) i = some out' := hR1
  rw [spec_l19Bill_L1] at hR1
  obtain ⟨hf, H⟩ := hI
  refine sq (sqz (pz 4 hf fun a hf => ?_))
  refine wl_end (then_n (ib hR1 hf (fun hc hR1 => ?_) fun hc hR1 => ?_))
  ·refine ws (pz 2 hf fun a hf => ?_)
   obtain ⟨e, he, hR1⟩ := bs_ hR1
   refine wl0 rfl (op_iaddr hf H Tryz.underlying24 TF.sz43 0 rfl rfl rfl he (by decide) fun p o cs a hf hr H => ?_)
   obtain rfl := Item_cells hr
   refine oq hf (rq_loadIN hf H TF.la43 0 0 rfl rfl rfl rfl) fun a hf => ?_
   refine aL hf H TF.zv43 fun b' a w hf H => ?_
   refine sB 0 hf H TF.sz43 fun w H => ?_
   refine wl_end (then_n (sq ?_))
   obtain ⟨c2, hGc2, hR1⟩ := bs_ hR1
   have fh := hf.prune [0, 3] rfl
   have Hm := H.lt_ [false] [] [] [1]
   refine midF 44 (.bool c2) fh Hm ?_ fun a w hf H => ?_
   ·refine dw [] 30 fun w hb => ?_
    have H := H.keep hb
    refine zp 0 hf trivial fun a hf => ?_
    refine strT (H.lt_ [true] [] [] []) (fun w H => trivial) fun hS => ?_
    refine zS 1 [] rfl rfl rfl rfl hf hS (fun w H => rq_loadB hf H TF.ls3 0 rfl rfl rfl) fun a hf => ?_
    obtain ⟨y, hy, hGc2⟩ := bs_ hGc2
    refine nn 2 rfl (oC hf TF.cl68 (spec_l1In_ok (S := TT) mk_int mk_int mk_int hy) fun v w a hp hf => ?_)
    obtain ⟨hb, hp⟩ := hp
    obtain rfl := VR_bool hp
    have H := H.keep hb
    have hS := H.lt_ [true] [] [] []
    refine ⟨fun _ => hS, ?_⟩
    refine zp 3 hf hS fun a hf => ?_
    refine zp 4 hf hS fun a hf => ?_
    refine iteB hGc2 (fun hc2 hGc2 => ?_) fun hc2 hGc2 => ?_
    ·have hf := hf.lit 19 rfl hc2
     refine zU 5 hf hS fun a hf => ?_
     refine zU 6 hf hS fun a hf => ?_
     refine zU 7 hf hS fun a hf => ?_
     refine zU 8 hf hS fun a hf => ?_
     refine zp 9 hf hS fun a hf => ?_
     refine zp 10 hf hS fun a hf => ?_
     refine zU 11 hf hS fun a hf => ?_
     refine zU 12 hf hS fun a hf => ?_
     refine zU 13 hf hS fun a hf => ?_
     refine zU 14 hf hS fun a hf => ?_
     refine zp 15 hf hS fun a hf => ?_
     refine zp 16 hf hS fun a hf => ?_
     refine zU 17 hf hS fun a hf => ?_
     refine zU 18 hf hS fun a hf => ?_
     refine zU 19 hf hS fun a hf => ?_
     refine zV 20 hf hS fun a hf => ?_
     refine zV 21 hf hS fun a hf => ?_
     refine zV 22 hf hS fun a hf => ?_
     refine zV 23 hf hS fun a hf => ?_
     refine zV 24 hf hS fun a hf => ?_
     refine zV 25 hf hS fun a hf => ?_
     refine zV 26 hf hS fun a hf => ?_
     refine zV 27 hf hS fun a hf => ?_
     refine zU 28 hf hS fun a hf => ?_
     refine zp 29 hf hS fun a hf => ?_
     refine dn (by kernel_rfl) ?_
     obtain rfl := oi hGc2
     have hf := hf.pn [44, 0, 3]
     have H := H.lt_ [false] [] [] [1]
     exact ⟨hf, H⟩
    ·have hf := hf.lit 19 rfl hc2
     refine zg 5 hf hS fun a hf => ?_
     refine tSg 6 [] rfl rfl rfl rfl rfl rfl hf (by kernel_rfl) (by kernel_rfl) hS (fun w H => rq_loadB hf H TF.ls3 0 rfl rfl rfl) fun a hf => ?_
     obtain ⟨y2, hy2, hGc2⟩ := bs_ hGc2
     refine n1g 7 (by kernel_rfl) rfl rfl rfl rfl hf (oC hf TF.cl68 (spec_l1In_ok (S := TT) mk_int mk_int mk_int hy2) fun v2 w a hp2 hf => ?_)
     obtain ⟨hb2, hp2⟩ := hp2
     obtain rfl := VR_bool hp2
     have H := H.keep hb2
     have hS := H.lt_ [true] [] [] []
     refine ⟨fun _ => hS, ?_⟩
     refine zg 8 hf hS fun a hf => ?_
     refine zp 9 hf hS fun a hf => ?_
     refine zp 10 hf hS fun a hf => ?_
     refine iteB hGc2 (fun hc3 hGc2 => ?_) fun hc3 hGc2 => ?_
     ·have hf := hf.lit 25 rfl hc3
      refine zU 11 hf hS fun a hf => ?_
      refine zU 12 hf hS fun a hf => ?_
      refine zU 13 hf hS fun a hf => ?_
      refine zU 14 hf hS fun a hf => ?_
      refine zp 15 hf hS fun a hf => ?_
      refine zp 16 hf hS fun a hf => ?_
      refine zU 17 hf hS fun a hf => ?_
      refine zU 18 hf hS fun a hf => ?_
      refine zU 19 hf hS fun a hf => ?_
      refine zV 20 hf hS fun a hf => ?_
      refine zV 21 hf hS fun a hf => ?_
      refine zV 22 hf hS fun a hf => ?_
      refine zV 23 hf hS fun a hf => ?_
      refine zV 24 hf hS fun a hf => ?_
      refine zV 25 hf hS fun a hf => ?_
      refine zV 26 hf hS fun a hf => ?_
      refine zV 27 hf hS fun a hf => ?_
      refine zU 28 hf hS fun a hf => ?_
      refine zp 29 hf hS fun a hf => ?_
      refine dn (by kernel_rfl) ?_
      obtain rfl := oi hGc2
      have hf := hf.pn [44, 0, 3]
      have H := H.lt_ [false] [] [] [1]
      exact ⟨hf, H⟩
     ·have hf := hf.lit 25 rfl hc3
      refine zg 11 hf hS fun a hf => ?_
      refine tSg 12 [] rfl rfl rfl rfl rfl rfl hf (by kernel_rfl) (by kernel_rfl) hS (fun w H => rq_loadB hf H TF.ls3 0 rfl rfl rfl) fun a hf => ?_
      obtain ⟨y3, hy3, hGc2⟩ := bs_ hGc2
      refine n1g 13 (by kernel_rfl) rfl rfl rfl rfl hf (oC hf TF.cl68 (spec_l1In_ok (S := TT) mk_int mk_int mk_int hy3) fun v3 w a hp3 hf => ?_)
      obtain ⟨hb3, hp3⟩ := hp3
      obtain rfl := VR_bool hp3
      have H := H.keep hb3
      have hS := H.lt_ [true] [] [] []
      refine ⟨fun _ => hS, ?_⟩
      refine zg 14 hf hS fun a hf => ?_
      refine zp 15 hf hS fun a hf => ?_
      refine zp 16 hf hS fun a hf => ?_
      refine iteB hGc2 (fun hc4 hGc2 => ?_) fun hc4 hGc2 => ?_
      ·have hf := hf.lit 31 rfl hc4
       refine zU 17 hf hS fun a hf => ?_
       refine zU 18 hf hS fun a hf => ?_
       refine zU 19 hf hS fun a hf => ?_
       refine zV 20 hf hS fun a hf => ?_
       refine zV 21 hf hS fun a hf => ?_
       refine zV 22 hf hS fun a hf => ?_
       refine zV 23 hf hS fun a hf => ?_
       refine zV 24 hf hS fun a hf => ?_
       refine zV 25 hf hS fun a hf => ?_
       refine zV 26 hf hS fun a hf => ?_
       refine zV 27 hf hS fun a hf => ?_
       refine zU 28 hf hS fun a hf => ?_
       refine zp 29 hf hS fun a hf => ?_
       refine dn (by kernel_rfl) ?_
       obtain rfl := oi hGc2
       have hf := hf.pn [44, 0, 3]
       have H := H.lt_ [false] [] [] [1]
       exact ⟨hf, H⟩
      ·have hf := hf.lit 31 rfl hc4
       refine zg 17 hf hS fun a hf => ?_
       refine zg 18 hf hS fun a hf => ?_
       refine zg 19 hf hS fun a hf => ?_
       refine iteB hGc2 (fun hc5 hGc2 => ?_) fun hc5 hGc2 => ?_
       ·have hf := hf.lit 34 rfl hc5
        refine zg 20 hf hS fun a hf => ?_
        refine zg 21 hf hS fun a hf => ?_
        refine zg 22 hf hS fun a hf => ?_
        obtain ⟨e2, he2, hGc2⟩ := bs_ hGc2
        obtain ⟨p2, o2, cs2, hx, hr2, H⟩ := pre_iaddr H Tryz.underlying24 TF.sz43 1 rfl he2
        refine tPg 23 rfl rfl rfl rfl rfl rfl hf (by kernel_rfl) (fun _ => hS) (fun w => rq_iaddrE hf rfl rfl rfl hx w) fun a hf => ?_
        obtain rfl := Item_cells hr2
        refine strT (H.lt_ [true] [] [] [0]) (fun w H => H.lt_ [true] [] [] []) fun hS => ?_
        refine tSg 24 [] rfl rfl rfl rfl rfl rfl hf (by kernel_rfl) (by kernel_rfl) hS (fun w H => rq_loadIN hf H TF.la43 0 0 rfl rfl rfl rfl) fun a hf => ?_
        refine tSg 25 [] rfl rfl rfl rfl rfl rfl hf (by kernel_rfl) (by kernel_rfl) hS (fun w H => rq_loadBN hf H TF.la43 0 rfl rfl rfl rfl) fun a hf => ?_
        obtain ⟨y4, hy4, hGc2⟩ := bs_ hGc2
        refine n1g 26 (by kernel_rfl) rfl rfl rfl rfl hf (oC hf TF.cl130 (spec_l19Before_ok (S := TT) Item_mkv Item_mkv hy4) fun v4 w a hp4 hf => ?_)
        obtain ⟨hb4, hp4⟩ := hp4
        obtain rfl := VR_bool hp4
        have H := H.keep hb4
        have hS := H.lt_ [true] [] [] [0]
        refine ⟨fun _ => hS, ?_⟩
        refine zg 27 hf hS fun a hf => ?_
        refine zg 28 hf hS fun a hf => ?_
        refine zp 29 hf hS fun a hf => ?_
        refine dn (by kernel_rfl) ?_
        obtain rfl := oi hGc2
        have hf := hf.pn [44, 0, 3]
        have H := H.lt_ [false] [] [] [2]
        exact ⟨hf, H⟩
       ·have hf := hf.lit 34 rfl hc5
        refine zU 20 hf hS fun a hf => ?_
        refine zU 21 hf hS fun a hf => ?_
        refine zU 22 hf hS fun a hf => ?_
        refine zU 23 hf hS fun a hf => ?_
        refine zU 24 hf hS fun a hf => ?_
        refine zU 25 hf hS fun a hf => ?_
        refine zU 26 hf hS fun a hf => ?_
        refine zU 27 hf hS fun a hf => ?_
        refine zg 28 hf hS fun a hf => ?_
        refine zp 29 hf hS fun a hf => ?_
        refine dn (by kernel_rfl) ?_
        obtain rfl := oi hGc2
        have hf := hf.pn [44, 0, 3]
        have H := H.lt_ [false] [] [] [1]
        exact ⟨hf, H⟩
   refine then_n (ib hR1 hf (fun hc6 hR1 => ?_) fun hc6 hR1 => ?_)
   ·refine sqz (pz 1 hf fun a hf => ?_)
    refine wl_end (then_n (wp_ret (blk_r (then_r (then_r (blk_r (then_r (then_r (?_)))))))))
    obtain rfl := oi hR1
    replace hF := on_ret hF
    obtain rfl := oi hF
    refine rT hf ?_
    exact ⟨_, rfl, H.bel, mk_bool⟩
   ·refine wp_skip (blk_n (then_n (reg (pz 3 hf fun a hf => ?_))))
    refine wl_end ?_
    have hf := hf.pn [0, 3]
    have H := H.lt_ [] [] [] [0]
    exact then_n ⟨w64 (i + 1), hR1, hf, H⟩
  ·refine wp_exit (then_x (then_x (blk_e (?_))))
   have hf := hf.pn [0, 3]
   have H := H.lt_ [] [] [] [0]
   exact ⟨i, (Option.some.inj hR1).symm, hf, H⟩
 rintro a w ⟨i2, rfl, hf, H⟩
 replace hF := on_next hF
 refine then_n (sqz (pz 4 hf fun a hf => ?_))
 refine wer ?_
 obtain rfl := oi hF
 refine rT hf ?_
 exact ⟨_, rfl, H.bel, mk_bool⟩
theorem spec_l19Add_ok {S : Nat → Prop} {v0_ : Value} {v1_ : Value} {bill : List Item} {x1 : Item} {r : List Item} (h0 : VR w0 S v0_ bill) (h1 : VR w0 S v1_ x1) (hF : spec_l19Add fu bill x1 = some r) :
    Calls Tryz.prog 55 [v0_, v1_].toArray w0 fun e w' => ∃ v, e = .returned v ∧ (Below w0.heap.size w0 w' ∧ VR w' (St ⟨w0, []⟩ S [] [] [] false) v r) := by
 obtain ⟨A, c, rfl, hl⟩ := VR_list h0
 obtain rfl := Item_open h1
 have H := Mem.start ⟨w0, []⟩ S
 have H := H.pA hl
 refine en Tryz.func55 fun a hf => ?_
 rw [spec_l19Add] at hF
 refine bx hf H fun b' a w hf H => ?_
 refine pz 1 hf fun a hf => ?_
 refine wl_end (then_n (sq (sqz (pz 1 hf fun a hf => ?_))))
 refine lB 0 hf H TF.ls3 fun a hf => ?_
 refine pz 1 hf fun a hf => ?_
 refine wl_end (then_n (ib hF hf (fun hc hF => ?_) fun hc hF => ?_))
 ·refine sqz (pz 2 hf fun a hf => ?_)
  refine wl_end (then_n (wp_ret (then_r (?_))))
  obtain rfl := oi hF
  refine rT hf ?_
  exact ⟨_, rfl, H.bel, (mk_list (rep_end (α := List Item) (H.get 0 rfl)))⟩
 ·refine wp_skip (then_n (sqz (pz 1 hf fun a hf => ?_)))
  refine wl_end (then_n (sq ?_))
  obtain ⟨out', hB1, hF⟩ := bs_ hF
  have hf := hf.pn [0, 3, 5]
  have H := H.lt_ [true] [] [] [0]
  refine loopC (fun (s : Int) (a : Act) (w : World) => match s with | i => Fr a 62 [(0, (.slice A bill.length c)), (3, (.pointer (some ⟨b', 0, none⟩))), (5, (.int .i64 i))] ∧ Mem ⟨w0, []⟩ S [⟨b', 43, [(.int .i64 x1.Kind), (.int .i64 x1.Node), (.int .i64 x1.Count)]⟩] [] [] [(false, MP.val [(.slice A bill.length c)] (bill : List Item))] w) (fun k (s : Int) => spec_l19Add_L1 fu bill x1 k s = some out') (fun s => out' = s) 0 fu hB1 ⟨hf, H⟩ (fun s h => by cases h) ?_ ?_
  ·rintro fk i a w hR1 hI
   replace hR1 : spec_l19Add_L1 fu bill x1 (fk + 1) i = some out' := hR1
   rw [spec_l19Add_L1] at hR1
   obtain ⟨hf, H⟩ := hI
   refine sq (sq ?_)
   obtain ⟨c2, hGc2, hR1⟩ := bs_ hR1
   have fh := hf.prune [0, 3, 5] rfl
   have Hm := H.lt_ [true] [] [] [0]
   refine midF 22 (.bool c2) fh Hm ?_ fun a w hf H => ?_
   ·refine dw [] 12 fun w hb => ?_
    have H := H.keep hb
    refine zp 0 hf trivial fun a hf => ?_
    refine zp 1 hf trivial fun a hf => ?_
    refine zp 2 hf trivial fun a hf => ?_
    refine zp 3 hf trivial fun a hf => ?_
    refine zp 4 hf trivial fun a hf => ?_
    refine iteB hGc2 (fun hc2 hGc2 => ?_) fun hc2 hGc2 => ?_
    ·have hf := hf.lit 15 rfl hc2
     refine zg 5 hf trivial fun a hf => ?_
     refine zg 6 hf trivial fun a hf => ?_
     obtain ⟨e, he, hGc2⟩ := bs_ hGc2
     obtain ⟨p, o, cs, hx, hr, H⟩ := pre_iaddr H Tryz.underlying24 TF.sz43 0 rfl he
     refine tPg 7 rfl rfl rfl rfl rfl rfl hf (by kernel_rfl) (fun _ => trivial) (fun w => rq_iaddrE hf rfl rfl rfl hx w) fun a hf => ?_
     obtain rfl := Item_cells hr
     refine strT (H.lt_ [false] [] [] [0]) (fun w H => trivial) fun hS => ?_
     refine tSg 8 [] rfl rfl rfl rfl rfl rfl hf (by kernel_rfl) (by kernel_rfl) hS (fun w H => rq_loadIN hf H TF.la43 0 0 rfl rfl rfl rfl) fun a hf => ?_
     refine strT (H.lt_ [true] [] [] [0]) (fun w H => H.lt_ [false] [] [] [0]) fun hS => ?_
     refine tSg 9 [] rfl rfl rfl rfl rfl rfl hf (by kernel_rfl) (by kernel_rfl) hS (fun w H => rq_loadBN hf H TF.la43 0 rfl rfl rfl rfl) fun a hf => ?_
     obtain ⟨y, hy, hGc2⟩ := bs_ hGc2
     refine n1g 10 (by kernel_rfl) rfl rfl rfl rfl hf (oC hf TF.cl130 (spec_l19Before_ok (S := TT) Item_mkv Item_mkv hy) fun v w a hp hf => ?_)
     obtain ⟨hb, hp⟩ := hp
     obtain rfl := VR_bool hp
     have H := H.keep hb
     have hS := H.lt_ [true] [] [] [0]
     refine ⟨fun _ => hS, ?_⟩
     refine zp 11 hf hS fun a hf => ?_
     refine dn (by kernel_rfl) ?_
     obtain rfl := oi hGc2
     have hf := hf.pn [22, 0, 3, 5]
     have H := H.lt_ [true] [] [] [1]
     exact ⟨hf, H⟩
    ·have hf := hf.lit 15 rfl hc2
     refine zU 5 hf trivial fun a hf => ?_
     refine zU 6 hf trivial fun a hf => ?_
     refine zU 7 hf trivial fun a hf => ?_
     refine zU 8 hf trivial fun a hf => ?_
     refine zU 9 hf trivial fun a hf => ?_
     refine zU 10 hf trivial fun a hf => ?_
     refine zp 11 hf trivial fun a hf => ?_
     refine dn (by kernel_rfl) ?_
     obtain rfl := oi hGc2
     have hf := hf.pn [22, 0, 3, 5]
     have H := H.lt_ [true] [] [] [0]
     exact ⟨hf, H⟩
   refine then_n (ib hR1 hf (fun hc3 hR1 => ?_) fun hc3 hR1 => ?_)
   ·refine wp_skip (then_n (wp_block (reg (pz 3 hf fun a hf => ?_))))
    refine wl_end (blk_n ?_)
    have hf := hf.pn [0, 3, 5]
    have H := H.lt_ [true] [] [] [0]
    exact then_n ⟨w64 (i + 1), hR1, hf, H⟩
   ·refine wp_exit (then_x (then_x (blk_e (?_))))
    have hf := hf.pn [0, 3, 5]
    have H := H.lt_ [true] [] [] [0]
    exact ⟨i, (Option.some.inj hR1).symm, hf, H⟩
  rintro a w ⟨out', rfl, hf, H⟩
  refine then_n (sq (reg (wl0 rfl (bl hf H 43 ([] : List Item) [] el0 fun A2 a w hf H => ?_))))
  refine pz 2 hf fun a hf => ?_
  obtain ⟨l, hl, hF⟩ := bs_ hF
  refine wl0 rfl (op_sliceI hf H Tryz.underlying24 TF.sz43 0 rfl rfl rfl rfl hl (by decide) fun A3 c3 a hf H => ?_)
  obtain ⟨l2, hl2, hF⟩ := bs_ hF
  have H := H.rowWeak 0 rfl
  refine wl0 rfl (op_appI hf H Tryz.underlying24 TF.ai43 rfl (by decide) 0 0 rfl rfl rfl rfl (.inl rfl) hl2 (by decide) fun E A4 c4 a w hf H => ?_)
  have H := H.rowOwn 0 rfl rfl
  have H := H.rowSh 0 rfl
  refine pz 1 hf fun a hf => ?_
  refine wl_end (then_n (sq (sq ?_)))
  obtain ⟨c5, hGc5, hF⟩ := bs_ hF
  have fh2 := hf.prune [0, 3, 5, 6] rfl
  have Hm2 := H.lt_ [true] [true] [] [1]
  refine midF 42 (.bool c5) fh2 Hm2 ?_ fun a w hf H => ?_
  ·refine dw [] 13 fun w hb => ?_
   have H := H.keep hb
   refine zp 0 hf trivial fun a hf => ?_
   refine zp 1 hf trivial fun a hf => ?_
   refine zp 2 hf trivial fun a hf => ?_
   refine zp 3 hf trivial fun a hf => ?_
   refine zp 4 hf trivial fun a hf => ?_
   refine iteB hGc5 (fun hc4 hGc5 => ?_) fun hc4 hGc5 => ?_
   ·have hf := hf.lit 34 rfl hc4
    refine strT (H.lt_ [true] [false] [] []) (fun w H => trivial) fun hS => ?_
    refine tSg 5 [] rfl rfl rfl rfl rfl rfl hf (by kernel_rfl) (by kernel_rfl) hS (fun w H => rq_loadBN hf H TF.la43 0 rfl rfl rfl rfl) fun a hf => ?_
    refine zg 6 hf hS fun a hf => ?_
    refine zg 7 hf hS fun a hf => ?_
    obtain ⟨e2, he2, hGc5⟩ := bs_ hGc5
    obtain ⟨p2, o2, cs2, hx2, hr2, H⟩ := pre_iaddr H Tryz.underlying24 TF.sz43 1 rfl he2
    refine tPg 8 rfl rfl rfl rfl rfl rfl hf (by kernel_rfl) (fun _ => hS) (fun w => rq_iaddrE hf rfl rfl rfl hx2 w) fun a hf => ?_
    obtain rfl := Item_cells hr2
    refine strT (H.lt_ [true] [false] [] [0]) (fun w H => H.lt_ [true] [] [] []) fun hS => ?_
    refine tSg 9 [] rfl rfl rfl rfl rfl rfl hf (by kernel_rfl) (by kernel_rfl) hS (fun w H => rq_loadIN hf H TF.la43 0 0 rfl rfl rfl rfl) fun a hf => ?_
    obtain ⟨y2, hy2, hGc5⟩ := bs_ hGc5
    refine n1g 10 (by kernel_rfl) rfl rfl rfl rfl hf (oC hf TF.cl130 (spec_l19Before_ok (S := TT) Item_mkv Item_mkv hy2) fun v2 w a hp2 hf => ?_)
    obtain ⟨hb2, hp2⟩ := hp2
    obtain rfl := VR_bool hp2
    have H := H.keep hb2
    have hS := H.lt_ [true] [false] [] [0]
    refine ⟨fun _ => hS, ?_⟩
    refine zg 11 hf hS fun a hf => ?_
    refine zp 12 hf hS fun a hf => ?_
    refine dn (by kernel_rfl) ?_
    obtain rfl := oi hGc5
    have hf := hf.pn [42, 0, 3, 5, 6]
    have H := H.lt_ [true] [true] [] [2]
    exact ⟨hf, H⟩
   ·have hf := hf.lit 34 rfl hc4
    refine zU 5 hf trivial fun a hf => ?_
    refine zU 6 hf trivial fun a hf => ?_
    refine zU 7 hf trivial fun a hf => ?_
    refine zU 8 hf trivial fun a hf => ?_
    refine zU 9 hf trivial fun a hf => ?_
    refine zU 10 hf trivial fun a hf => ?_
    refine zU 11 hf trivial fun a hf => ?_
    refine zp 12 hf trivial fun a hf => ?_
    refine dn (by kernel_rfl) ?_
    obtain rfl := oi hGc5
    have hf := hf.pn [42, 0, 3, 5, 6]
    have H := H.lt_ [true] [true] [] [1]
    exact ⟨hf, H⟩
  refine then_n (ib hF hf (fun hc5 hF => ?_) fun hc5 hF => ?_)
  ·refine sq (dw [9] 10 fun w hb => ?_)
   have H := H.keep hb
   refine zp 0 hf trivial fun a hf => ?_
   refine strT (H.lt_ [true] [false] [] []) (fun w H => trivial) fun hS => ?_
   refine zS 1 [1, 7, 8, 9] rfl rfl rfl rfl hf hS (fun w H => rq_loadB hf H TF.ls3 0 rfl rfl rfl) fun a hf => ?_
   refine zp 2 hf hS fun a hf => ?_
   refine zp 3 hf hS fun a hf => ?_
   obtain ⟨e3, he3, hF⟩ := bs_ hF
   obtain ⟨p3, o3, cs3, hx3, hr3, H⟩ := pre_iaddr H Tryz.underlying24 TF.sz43 0 rfl he3
   refine zP 4 rfl rfl rfl rfl hf hS (fun w => rq_iaddrE hf rfl rfl rfl hx3 w) fun a hf => ?_
   obtain rfl := Item_cells hr3
   refine zp 5 hf hS fun a hf => ?_
   refine strT (H.lt_ [true] [false] [] [0]) (fun w H => H.lt_ [true] [] [] []) fun hS => ?_
   refine zS 6 [6, 7, 8, 9] rfl rfl rfl rfl hf hS (fun w H => rq_loadI hf H TF.ls3 0 2 rfl rfl rfl) fun a hf => ?_
   refine zp 7 hf hS fun a hf => ?_
   refine zp 8 hf hS fun a hf => ?_
   refine nn 9 rfl (op_storeB hf H 0 TF.sz3 rfl rfl rfl rfl rfl rfl (nle rfl) fun w H => ?_)
   refine ⟨fun h => absurd h (by decide), ?_⟩
   refine dn (by kernel_rfl) ?_
   refine then_n (reg (pz 3 hf fun a hf => ?_))
   refine wl_end (then_n (sq (dw [] 9 fun w hb => ?_)))
   have H := H.keep hb
   refine zp 0 hf trivial fun a hf => ?_
   refine strT (H.lt_ [true] [false] [] []) (fun w H => trivial) fun hS => ?_
   refine zS 1 [] rfl rfl rfl rfl hf hS (fun w H => rq_loadBN hf H TF.la43 0 rfl rfl rfl rfl) fun a hf => ?_
   refine zp 4 hf hS fun a hf => ?_
   refine zp 5 hf hS fun a hf => ?_
   obtain ⟨l3, hl3, hF⟩ := bs_ hF
   obtain ⟨A5, c6, hx4, H⟩ := pre_slice H Tryz.underlying24 TF.sz43 1 (lov := some (.int .i64 (w64 (out' + 1)))) (hiv := none) (.inr rfl) (.inl ⟨rfl, rfl⟩) rfl hl3
   refine zP 6 rfl rfl rfl rfl hf hS (fun w => rq_sliceE hf rfl rfl rfl hx4 w) fun a hf => ?_
   refine nn 2 rfl (bl hf H 43 ([({ Kind := x1.Kind, Node := x1.Node, Count := w64 (x1.Count + e3.Count) } : Item)] : List Item) [(.int .i64 x1.Kind), (.int .i64 x1.Node), (.int .i64 (w64 (x1.Count + e3.Count)))] (el1 (y := ({ Kind := x1.Kind, Node := x1.Node, Count := w64 (x1.Count + e3.Count) } : Item)) ((Item_mk (x := ({ Kind := x1.Kind, Node := x1.Node, Count := w64 (x1.Count + e3.Count) } : Item))))) fun A6 a w hf H => ?_)
   have hS := H.lt_ [true] [false, false] [] []
   refine ⟨fun _ => hS, ?_⟩
   obtain ⟨l4, hl4, hF⟩ := bs_ hF
   refine nn 3 rfl (op_appR hf H Tryz.underlying24 TF.ai43 rfl (by decide) 1 0 rfl rfl rfl rfl (.inr rfl) hl4 (by decide) fun E2 A7 c7 a w hf H => ?_)
   have hS := H.lt_ [true] [false, false] [] []
   refine ⟨fun _ => hS, ?_⟩
   obtain ⟨l5, hl5, hF⟩ := bs_ hF
   have H := H.rowWeak 1 rfl
   refine nn 7 rfl (op_appI hf H Tryz.underlying24 TF.ai43 rfl (by decide) 1 0 rfl rfl rfl rfl (.inl rfl) hl5 (by decide) fun E3 A8 c8 a w hf H => ?_)
   have H := H.rowOwn 1 rfl rfl
   have H := H.rowSh 1 rfl
   have hS := H.lt_ [true] [false, false] [] []
   refine ⟨fun _ => hS, ?_⟩
   refine zp 8 hf hS fun a hf => ?_
   refine dn (by kernel_rfl) ?_
   have hf := hf.pn [4]
   refine then_n (wp_ret (?_))
   have H := H.freeze 1 rfl
   obtain rfl := oi hF
   refine rT hf ?_
   exact ⟨_, rfl, H.bel, (mk_list (rep_endw (α := List Item) (H.get 0 rfl)))⟩
  ·refine wp_skip (then_n (sq (dw [] 9 fun w hb => ?_)))
   have H := H.keep hb
   refine zp 0 hf trivial fun a hf => ?_
   refine strT (H.lt_ [true] [false] [] []) (fun w H => trivial) fun hS => ?_
   refine zS 1 [] rfl rfl rfl rfl hf hS (fun w H => rq_loadBN hf H TF.la43 0 rfl rfl rfl rfl) fun a hf => ?_
   refine zp 4 hf hS fun a hf => ?_
   refine zp 5 hf hS fun a hf => ?_
   obtain ⟨l6, hl6, hF⟩ := bs_ hF
   obtain ⟨A9, c9, hx5, H⟩ := pre_slice H Tryz.underlying24 TF.sz43 0 (lov := some (.int .i64 out')) (hiv := none) (.inr rfl) (.inl ⟨rfl, rfl⟩) rfl hl6
   refine zP 6 rfl rfl rfl rfl hf hS (fun w => rq_sliceE hf rfl rfl rfl hx5 w) fun a hf => ?_
   refine nn 2 rfl (bl hf H 43 ([x1] : List Item) [(.int .i64 x1.Kind), (.int .i64 x1.Node), (.int .i64 x1.Count)] (el1 (y := x1) ((Item_mk (x := x1)))) fun A10 a w hf H => ?_)
   have hS := H.lt_ [true] [false, false] [] []
   refine ⟨fun _ => hS, ?_⟩
   obtain ⟨l7, hl7, hF⟩ := bs_ hF
   refine nn 3 rfl (op_appR hf H Tryz.underlying24 TF.ai43 rfl (by decide) 1 0 rfl rfl rfl rfl (.inr rfl) hl7 (by decide) fun E4 A11 c10 a w hf H => ?_)
   have hS := H.lt_ [true] [false, false] [] []
   refine ⟨fun _ => hS, ?_⟩
   obtain ⟨l8, hl8, hF⟩ := bs_ hF
   have H := H.rowWeak 1 rfl
   refine nn 7 rfl (op_appI hf H Tryz.underlying24 TF.ai43 rfl (by decide) 1 0 rfl rfl rfl rfl (.inl rfl) hl8 (by decide) fun E5 A12 c11 a w hf H => ?_)
   have H := H.rowOwn 1 rfl rfl
   have H := H.rowSh 1 rfl
   have hS := H.lt_ [true] [false, false] [] []
   refine ⟨fun _ => hS, ?_⟩
   refine zp 8 hf hS fun a hf => ?_
   refine dn (by kernel_rfl) ?_
   have hf := hf.pn [4]
   refine then_n (wp_ret (?_))
   have H := H.freeze 1 rfl
   obtain rfl := oi hF
   refine rT hf ?_
   exact ⟨_, rfl, H.bel, (mk_list (rep_endw (α := List Item) (H.get 0 rfl)))⟩
theorem spec_MergeBills_ok {S : Nat → Prop} {v0_ : Value} {v1_ : Value} {a' : List Item} {b' : List Item} {r : List Item × Bool} (h0 : VR w0 S v0_ a') (h1 : VR w0 S v1_ b') (hF : spec_MergeBills fu a' b' = some r) :
    Calls Tryz.prog 12 [v0_, v1_].toArray w0 fun e w' => ∃ v, e = .returned v ∧ (Below w0.heap.size w0 w' ∧ ∃ u0 u1, v = .tuple #[u0, u1] ∧ VR w' (St ⟨w0, []⟩ S [] [] [] true) u0 r.1 ∧ VR w' (St ⟨w0, []⟩ S [] [] [] true) u1 r.2) := by
 obtain ⟨A, c, rfl, hl⟩ := VR_list h0
 obtain ⟨A2, c2, rfl, hl2⟩ := VR_list h1
 have H := Mem.start ⟨w0, []⟩ S
 have H := H.pA hl
 have H := H.pA hl2
 refine en Tryz.func12 fun a hf => ?_
 rw [spec_MergeBills] at hF
 refine sqz (pz 2 hf fun a hf => ?_)
 refine wl_end (then_n (sq (sq ?_)))
 obtain ⟨c3, hGc3, hF⟩ := bs_ hF
 have fh := hf.prune [0, 1] rfl
 have Hm := H.lt_ [] [] [] [0, 1]
 refine midF 15 (.bool c3) fh Hm ?_ fun a w hf H => ?_
 ·refine reg (pz 1 hf fun a hf => ?_)
  obtain ⟨y, hy, hGc3⟩ := bs_ hGc3
  refine oc hf TF.cl54 (spec_l19Bill_ok (S := TT) (mk_list (H.rt 1 rfl)) hy) fun v w a hp hf => ?_
  obtain ⟨hb, hp⟩ := hp
  obtain rfl := VR_bool hp
  have H := H.keep hb
  refine pz 2 hf fun a hf => ?_
  refine iteB hGc3 (fun hc hGc3 => ?_) fun hc hGc3 => ?_
  ·have hf := hf.lit 11 rfl hc
   refine pz 4 hf fun a hf => ?_
   obtain rfl := oi hGc3
   have hf := hf.pn [15, 0, 1]
   have H := H.lt_ [] [] [] [0, 1]
   exact wl_end ⟨hf, H⟩
  ·have hf := hf.lit 11 rfl hc
   refine pz 1 hf fun a hf => ?_
   obtain ⟨y2, hy2, hGc3⟩ := bs_ hGc3
   refine wlg hf rfl rfl rfl (oC hf TF.cl54 (spec_l19Bill_ok (S := TT) (mk_list (H.rt 0 rfl)) hy2) fun v2 w a hp2 hf => ?_)
   obtain ⟨hb2, hp2⟩ := hp2
   obtain rfl := VR_bool hp2
   have H := H.keep hb2
   refine pz 2 hf fun a hf => ?_
   obtain rfl := oi hGc3
   have hf := hf.pn [15, 0, 1]
   have H := H.lt_ [] [] [] [0, 1]
   exact wl_end ⟨hf, H⟩
 refine then_n (ib hF hf (fun hc2 hF => ?_) fun hc2 hF => ?_)
 ·refine sq (reg (wl0 rfl (bl hf H 43 ([] : List Item) [] el0 fun A3 a w hf H => ?_)))
  refine pz 2 hf fun a hf => ?_
  refine wl_end (then_n (wp_ret (then_r (?_))))
  have H := H.freeze 0 rfl
  obtain rfl := oi hF
  refine ret_2 hf rfl (rv_tmp hf rfl) (rv_tmp hf rfl) ?_
  exact ⟨_, rfl, H.bel, _, _, rfl, (mk_list (rep_end (α := List Item) (H.get 0 rfl))), mk_bool⟩
 ·refine wp_skip (then_n (sq (reg (wl0 rfl (bl hf H 43 ([] : List Item) [] el0 fun A4 a w hf H => ?_)))))
  refine pz 1 hf fun a hf => ?_
  obtain ⟨l, hl, hF⟩ := bs_ hF
  have H := H.rowWeak 0 rfl
  refine wl0 rfl (op_appI hf H Tryz.underlying24 TF.ai43 rfl (by decide) 0 1 rfl rfl rfl rfl (.inl rfl) hl (by decide) fun E A5 c4 a w hf H => ?_)
  have H := H.rowOwn 0 rfl rfl
  have H := H.rowSh 0 rfl
  refine pz 1 hf fun a hf => ?_
  refine wl_end (then_n (sq (sqz (pz 1 hf fun a hf => ?_))))
  refine wl_end (then_n ?_)
  have H := H.freeze 0 rfl
  obtain ⟨out2, hB1, hF⟩ := bs_ hF
  have hf := hf.pn [1, 6, 7]
  have H := H.lt_ [] [] [] [0, 1]
  refine loopC (fun (s : List Item × Int) (a : Act) (w : World) => match s with | (out', i) => ∃ (A6 : Option Addr) (c5 : Nat), Fr a 37 [(1, (.slice A2 b'.length c2)), (6, (.slice A6 out'.length c5)), (7, (.int .i64 i))] ∧ Mem ⟨w0, []⟩ S [] [] [] [(true, MP.val [(.slice A6 out'.length c5)] (out' : List Item)), (false, MP.val [(.slice A2 b'.length c2)] (b' : List Item))] w) (fun k (s : List Item × Int) => spec_MergeBills_L1 fu b' k s.1 s.2 = some out2) (fun s => out2 = s) (l, 0) fu hB1 ⟨A5, c4, hf, H⟩ (fun s h => by cases h) ?_ ?_
  ·rintro fk ⟨out', i⟩ a w hR1 hI
   replace hR1 : spec_MergeBills_L1 fu b' (fk + 1) out' i = some out2 := hR1
   rw [spec_MergeBills_L1] at hR1
   obtain ⟨A6, c5, hf, H⟩ := hI
   refine sq (sqz (pz 4 hf fun a hf => ?_))
   refine wl_end (then_n (ib hR1 hf (fun hc3 hR1 => ?_) fun hc3 hR1 => ?_))
   ·refine wp_skip (then_n (sq (wp_block (reg (pz 3 hf fun a hf => ?_)))))
    obtain ⟨e, he, hR1⟩ := bs_ hR1
    refine wl0 rfl (op_iaddr hf H Tryz.underlying24 TF.sz43 1 rfl rfl rfl he (by decide) fun p o cs a hf hr H => ?_)
    obtain rfl := Item_cells hr
    refine oq hf (rq_loadIN hf H TF.la43 0 0 rfl rfl rfl rfl) fun a hf => ?_
    obtain ⟨y3, hy3, hR1⟩ := bs_ hR1
    refine oc hf TF.cl55 (spec_l19Add_ok (mk_list (H.get 1 rfl)) Item_mkv hy3) fun v3 w a hp3 hf => ?_
    obtain ⟨hb3, hp3⟩ := hp3
    obtain ⟨A7, c6, rfl, hl3⟩ := VR_list hp3
    replace hl3 := H.res (f := MP.val [(.slice A7 y3.length c6)] y3) hl3
    have H := H.keep hb3
    have H := H.pT hl3
    refine pz 1 hf fun a hf => ?_
    refine wl_end (blk_n (then_n (reg (pz 3 hf fun a hf => ?_))))
    refine wl_end ?_
    have hf := hf.pn [1, 6, 7]
    have H := H.lt_ [] [] [] [0, 3]
    exact then_n ⟨(y3, w64 (i + 1)), hR1, A7, c6, hf, H⟩
   ·refine wp_exit (then_x (then_x (blk_e (?_))))
    have hf := hf.pn [1, 6, 7]
    have H := H.lt_ [] [] [] [0, 1]
    exact ⟨(out', i), (Option.some.inj hR1).symm, A6, c5, hf, H⟩
  rintro a w ⟨⟨out3, i2⟩, rfl, A8, c7, hf, H⟩
  try dsimp only at hF
  refine then_n (sq (sqz (pz 1 hf fun a hf => ?_)))
  obtain ⟨y4, hy4, hF⟩ := bs_ hF
  refine oc hf TF.cl54 (spec_l19Bill_ok (S := TT) (mk_list (H.rt 0 rfl)) hy4) fun v4 w a hp4 hf => ?_
  obtain ⟨hb4, hp4⟩ := hp4
  obtain rfl := VR_bool hp4
  have H := H.keep hb4
  refine pz 1 hf fun a hf => ?_
  refine wl_end (then_n (ib hF hf (fun hc4 hF => ?_) fun hc4 hF => ?_))
  ·refine sq (reg (wl0 rfl (bl hf H 43 ([] : List Item) [] el0 fun A9 a w hf H => ?_)))
   refine pz 2 hf fun a hf => ?_
   refine wl_end (then_n (wp_ret (then_r (?_))))
   have H := H.freeze 0 rfl
   obtain rfl := oi hF
   refine ret_2 hf rfl (rv_tmp hf rfl) (rv_tmp hf rfl) ?_
   exact ⟨_, rfl, H.bel, _, _, rfl, (mk_list (rep_end (α := List Item) (H.get 0 rfl))), mk_bool⟩
  ·refine wp_skip (then_n (sqz (pz 3 hf fun a hf => ?_)))
   refine wer ?_
   obtain rfl := oi hF
   refine ret_2 hf rfl (rv_tmp hf rfl) (rv_tmp hf rfl) ?_
   exact ⟨_, rfl, H.bel, _, _, rfl, (mk_list (rep_end (α := List Item) (H.get 0 rfl))), mk_bool⟩
theorem impl_MissingItems_ok {S : Nat → Prop} {v0_ : Value} {v1_ : Value} {need : List Item} {stock : List Item} {r : List Item × Bool} (h0 : VR w0 S v0_ need) (h1 : VR w0 S v1_ stock) (hF : impl_MissingItems fu need stock = some r) :
    Calls Tryz.prog 13 [v0_, v1_].toArray w0 fun e w' => ∃ v, e = .returned v ∧ (Below w0.heap.size w0 w' ∧ ∃ F0, ∃ u0 u1, v = .tuple #[u0, u1] ∧ VO w' F0 u0 r.1 ∧ VR w' (St ⟨w0, []⟩ S [] [] [] true) u1 r.2 ∧ New w0 w' F0) := by
 obtain ⟨A, c, rfl, hl⟩ := VR_list h0
 obtain ⟨A2, c2, rfl, hl2⟩ := VR_list h1
 have H := Mem.start ⟨w0, []⟩ S
 have H := H.pA hl
 have H := H.pA hl2
 refine en Tryz.func13 fun a hf => ?_
 rw [impl_MissingItems] at hF
 refine sqz (pz 2 hf fun a hf => ?_)
 refine wl_end (then_n (sq (sq ?_)))
 obtain ⟨c3, hGc3, hF⟩ := bs_ hF
 have fh := hf.prune [0, 1] rfl
 have Hm := H.lt_ [] [] [] [0, 1]
 refine midF 14 (.bool c3) fh Hm ?_ fun a w hf H => ?_
 ·refine reg (pz 1 hf fun a hf => ?_)
  obtain ⟨y, hy, hGc3⟩ := bs_ hGc3
  refine oc hf TF.cl51 (impl_isBill_ok (S := TT) (mk_list (H.rt 1 rfl)) hy) fun v w a hp hf => ?_
  obtain ⟨hb, hp⟩ := hp
  obtain rfl := VR_bool hp
  have H := H.keep hb
  refine pz 2 hf fun a hf => ?_
  refine iteB hGc3 (fun hc hGc3 => ?_) fun hc hGc3 => ?_
  ·have hf := hf.lit 10 rfl hc
   refine pz 4 hf fun a hf => ?_
   obtain rfl := oi hGc3
   have hf := hf.pn [14, 0, 1]
   have H := H.lt_ [] [] [] [0, 1]
   exact wl_end ⟨hf, H⟩
  ·have hf := hf.lit 10 rfl hc
   refine pz 1 hf fun a hf => ?_
   obtain ⟨y2, hy2, hGc3⟩ := bs_ hGc3
   refine wlg hf rfl rfl rfl (oC hf TF.cl51 (impl_isBill_ok (S := TT) (mk_list (H.rt 0 rfl)) hy2) fun v2 w a hp2 hf => ?_)
   obtain ⟨hb2, hp2⟩ := hp2
   obtain rfl := VR_bool hp2
   have H := H.keep hb2
   refine pz 2 hf fun a hf => ?_
   obtain rfl := oi hGc3
   have hf := hf.pn [14, 0, 1]
   have H := H.lt_ [] [] [] [0, 1]
   exact wl_end ⟨hf, H⟩
 refine then_n (ib hF hf (fun hc2 hF => ?_) fun hc2 hF => ?_)
 ·refine sqz (pz 2 hf fun a hf => ?_)
  refine wl_end (then_n (wp_ret (then_r (?_))))
  have H := H.ownNil (Item)
  have H := H.lend 0 rfl
  obtain rfl := oi hF
  refine ret_2 hf rfl (rv_tmp hf rfl) (rv_tmp hf rfl) ?_
  have hN := H.ends1
  exact ⟨_, rfl, H.bel, [], _, _, rfl, (mko_list (H.ownAt 0 rfl)), mk_bool, hN⟩
 ·refine wp_skip (then_n (sq (reg (oq hf (rq_build hf (cs := [(.int .i64 0), (.int .i64 0), (.int .i64 0), (.int .i64 0), (.int .i64 0), (.int .i64 0), (.int .i64 0), (.int .i64 0), (.int .i64 0), (.int .i64 0), (.int .i64 0), (.int .i64 0), (.int .i64 0), (.int .i64 0), (.int .i64 0), (.int .i64 0), (.int .i64 0), (.int .i64 0), (.int .i64 0), (.int .i64 0), (.int .i64 0), (.int .i64 0), (.int .i64 0), (.int .i64 0), (.int .i64 0), (.int .i64 0), (.int .i64 0), (.int .i64 0), (.int .i64 0), (.int .i64 0), (.int .i64 0), (.int .i64 0), (.int .i64 0), (.int .i64 0), (.int .i64 0), (.int .i64 0), (.int .i64 0), (.int .i64 0), (.int .i64 0), (.int .i64 0)]) rfl (fun w => by kernel_rfl)) fun a hf => ?_))))
  refine wl0 rfl (op_box hf H rfl rfl (by decide) fun b' a w hf H => ?_)
  have H : Mem ⟨w0, []⟩ S [⟨b', 104, (⟨[0, 0, 0, 0, 0, 0, 0, 0, 0, 0, 0, 0, 0, 0, 0, 0, 0, 0, 0, 0, 0, 0, 0, 0, 0, 0, 0, 0, 0, 0, 0, 0, 0, 0, 0, 0, 0, 0, 0, 0], rfl⟩ : IA 40).cells⟩] [] [] [(false, MP.val [(.slice A2 stock.length c2)] (stock : List Item)), (false, MP.val [(.slice A need.length c)] (need : List Item))] w := H
  refine pz 1 hf fun a hf => ?_
  refine wr (pz 2 hf fun a hf => ?_)
  obtain ⟨y3, hy3, hF⟩ := bs_ hF
  refine oc hf TF.cl52 (impl_tally_add_ok (S := St ⟨w0, []⟩ S [⟨b', 104, (⟨[0, 0, 0, 0, 0, 0, 0, 0, 0, 0, 0, 0, 0, 0, 0, 0, 0, 0, 0, 0, 0, 0, 0, 0, 0, 0, 0, 0, 0, 0, 0, 0, 0, 0, 0, 0, 0, 0, 0, 0], rfl⟩ : IA 40).cells⟩] [] [] false) (H.boxAt 0 rfl) (rfl) (H.notSt 0 rfl _) (mk_list (H.get 1 rfl)) mk_int hy3) fun v3 w a hp3 hf => ?_
  obtain ⟨hch, cs, hbx, hr, hs⟩ := hp3
  obtain rfl := hs
  replace hr := GoTy.mono hr (H.movesB 0 rfl false)
  obtain rfl := hr
  have H := H.wroteBox 0 rfl hch hbx
  refine wr (pz 2 hf fun a hf => ?_)
  obtain ⟨y4, hy4, hF⟩ := bs_ hF
  refine oc hf TF.cl52 (impl_tally_add_ok (S := St ⟨w0, []⟩ S [⟨b', 104, y3.cells⟩] [] [] false) (H.boxAt 0 rfl) (rfl) (H.notSt 0 rfl _) (mk_list (H.get 0 rfl)) mk_int hy4) fun v4 w a hp4 hf => ?_
  obtain ⟨hch2, cs2, hbx2, hr2, hs2⟩ := hp4
  obtain rfl := hs2
  replace hr2 := GoTy.mono hr2 (H.movesB 0 rfl false)
  obtain rfl := hr2
  have H := H.wroteBox 0 rfl hch2 hbx2
  refine wr (pz 1 hf fun a hf => ?_)
  obtain ⟨y5, hy5, hF⟩ := bs_ hF
  refine oc hf TF.cl53 (impl_tally_bill_ok (S := TT) (H.boxTrue 0 rfl) (rfl) hy5) fun v5 w a hp5 hf => ?_
  obtain ⟨hb3, F, v6, v7, rfl, hp6, hp7, hN⟩ := hp5
  obtain ⟨A3, c4, rfl, hl3⟩ := VO_list hp6
  obtain rfl := VR_bool hp7
  have H := H.aO1 hb3 hN hl3
  have H := H.lend 0 rfl
  refine pz 4 hf fun a hf => ?_
  have hf := hf.pn [4, 5]
  refine wer ?_
  obtain rfl := oi hF
  refine ret_2 hf rfl (rv_tmp hf rfl) (rv_tmp hf rfl) ?_
  have hN := H.ends1
  exact ⟨_, rfl, H.bel, F, _, _, rfl, (mko_list (H.ownAt 0 rfl)), mk_bool, hN⟩
theorem spec_MissingItems_ok {S : Nat → Prop} {v0_ : Value} {v1_ : Value} {need : List Item} {stock : List Item} {r : List Item × Bool} (h0 : VR w0 S v0_ need) (h1 : VR w0 S v1_ stock) (hF : spec_MissingItems fu need stock = some r) :
    Calls Tryz.prog 14 [v0_, v1_].toArray w0 fun e w' => ∃ v, e = .returned v ∧ (Below w0.heap.size w0 w' ∧ ∃ F0, ∃ u0 u1, v = .tuple #[u0, u1] ∧ VO w' F0 u0 r.1 ∧ VR w' (St ⟨w0, []⟩ S [] [] [] true) u1 r.2 ∧ New w0 w' F0) := by
 obtain ⟨A, c, rfl, hl⟩ := VR_list h0
 obtain ⟨A2, c2, rfl, hl2⟩ := VR_list h1
 have H := Mem.start ⟨w0, []⟩ S
 have H := H.pA hl
 have H := H.pA hl2
 refine en Tryz.func14 fun a hf => ?_
 rw [spec_MissingItems] at hF
 refine sqz (pz 2 hf fun a hf => ?_)
 refine wr (wl0 rfl (bl hf H 43 ([] : List Item) [] el0 fun A3 a w hf H => ?_))
 refine pz 1 hf fun a hf => ?_
 refine wl_end (then_n (sq (sq ?_)))
 obtain ⟨c3, hGc3, hF⟩ := bs_ hF
 have fh := hf.prune [0, 1, 6] rfl
 have Hm := H.lt_ [] [true] [] [0, 1]
 refine midF 18 (.bool c3) fh Hm ?_ fun a w hf H => ?_
 ·refine reg (pz 1 hf fun a hf => ?_)
  obtain ⟨y, hy, hGc3⟩ := bs_ hGc3
  refine oc hf TF.cl54 (spec_l19Bill_ok (S := TT) (mk_list (H.rt 1 rfl)) hy) fun v w a hp hf => ?_
  obtain ⟨hb, hp⟩ := hp
  obtain rfl := VR_bool hp
  have H := H.keep hb
  refine pz 2 hf fun a hf => ?_
  refine iteB hGc3 (fun hc hGc3 => ?_) fun hc hGc3 => ?_
  ·have hf := hf.lit 14 rfl hc
   refine pz 4 hf fun a hf => ?_
   obtain rfl := oi hGc3
   have hf := hf.pn [18, 0, 1, 6]
   have H := H.lt_ [] [true] [] [0, 1]
   exact wl_end ⟨hf, H⟩
  ·have hf := hf.lit 14 rfl hc
   refine pz 1 hf fun a hf => ?_
   obtain ⟨y2, hy2, hGc3⟩ := bs_ hGc3
   refine wlg hf rfl rfl rfl (oC hf TF.cl54 (spec_l19Bill_ok (S := TT) (mk_list (H.rt 0 rfl)) hy2) fun v2 w a hp2 hf => ?_)
   obtain ⟨hb2, hp2⟩ := hp2
   obtain rfl := VR_bool hp2
   have H := H.keep hb2
   refine pz 2 hf fun a hf => ?_
   obtain rfl := oi hGc3
   have hf := hf.pn [18, 0, 1, 6]
   have H := H.lt_ [] [true] [] [0, 1]
   exact wl_end ⟨hf, H⟩
 refine then_n (ib hF hf (fun hc2 hF => ?_) fun hc2 hF => ?_)
 ·refine sqz (pz 3 hf fun a hf => ?_)
  refine wl_end (then_n (wp_ret (then_r (?_))))
  have H := H.rowOwn 0 rfl rfl
  obtain ⟨F, H⟩ := H.freezeOwn 0 rfl
  have H := H.lend 0 rfl
  obtain rfl := oi hF
  refine ret_2 hf rfl (rv_tmp hf rfl) (rv_tmp hf rfl) ?_
  have hN := H.ends1
  exact ⟨_, rfl, H.bel, F, _, _, rfl, (mko_list (H.ownAt 0 rfl)), mk_bool, hN⟩
 ·refine wp_skip (then_n (sq (sqz (pz 1 hf fun a hf => ?_))))
  refine wl_end (then_n ?_)
  obtain ⟨out2, hB1, hF⟩ := bs_ hF
  have hf := hf.pn [0, 1, 6, 7]
  have H := H.lt_ [] [true] [] [0, 1]
  refine loopC (fun (s : List Item × Int) (a : Act) (w : World) => match s with | (out', i) => ∃ (A4 : Option Addr) (c4 : Nat) (E : Go.TypeId), Fr a 71 [(0, (.slice A need.length c)), (1, (.slice A2 stock.length c2)), (6, (.slice A4 out'.length c4)), (7, (.int .i64 i))] ∧ Mem ⟨w0, []⟩ S [] [⟨.sh true, E, A4, c4, (out' : List Item)⟩] [] [(false, MP.val [(.slice A2 stock.length c2)] (stock : List Item)), (false, MP.val [(.slice A need.length c)] (need : List Item))] w) (fun k (s : List Item × Int) => spec_MissingItems_L1 fu need stock k s.1 s.2 = some out2) (fun s => out2 = s) (([] : List Item), 0) fu hB1 ⟨A3, 0, 43, hf, H⟩ (fun s h => by cases h) ?_ ?_
  ·rintro fk ⟨out', i⟩ a w hR1 hI
   replace hR1 : spec_MissingItems_L1 fu need stock (fk + 1) out' i = some out2 := hR1
   rw [spec_MissingItems_L1] at hR1
   obtain ⟨A4, c4, E, hf, H⟩ := hI
   refine sq (sqz (pz 4 hf fun a hf => ?_))
   refine wl_end (then_n (ib hR1 hf (fun hc3 hR1 => ?_) fun hc3 hR1 => ?_))
   ·refine ws (pz 2 hf fun a hf => ?_)
    obtain ⟨e, he, hR1⟩ := bs_ hR1
    refine wl0 rfl (op_iaddr hf H Tryz.underlying24 TF.sz43 1 rfl rfl rfl he (by decide) fun p o cs a hf hr H => ?_)
    obtain rfl := Item_cells hr
    refine oq hf (rq_loadIN hf H TF.la43 0 0 rfl rfl rfl rfl) fun a hf => ?_
    refine aL hf H TF.zv43 fun b' a w hf H => ?_
    refine sB 0 hf H TF.sz43 fun w H => ?_
    refine wl_end (then_n (sq (sqz (pz 1 hf fun a hf => ?_))))
    refine wl_end (then_n ?_)
    obtain ⟨out3, hB2, hR1⟩ := bs_ hR1
    have hf := hf.pn [0, 1, 6, 7, 8, 9]
    have H := H.lt_ [true] [true] [] [1, 2]
    refine loopC (fun (s : Int × Int) (a : Act) (w : World) => match s with | (k', m) => Fr a 71 [(0, (.slice A need.length c)), (1, (.slice A2 stock.length c2)), (6, (.slice A4 out'.length c4)), (7, (.int .i64 i)), (8, (.pointer (some ⟨b', 0, none⟩))), (9, (.int .i64 k'))] ∧ Mem ⟨w0, []⟩ S [⟨b', 43, [(.int .i64 e.Kind), (.int .i64 e.Node), (.int .i64 m)]⟩] [⟨.sh true, E, A4, c4, (out' : List Item)⟩] [] [(false, MP.val [(.slice A2 stock.length c2)] (stock : List Item)), (false, MP.val [(.slice A need.length c)] (need : List Item))] w) (fun k (s : Int × Int) => spec_MissingItems_L2 fu stock e k s.1 s.2 = some out3) (fun s => out3 = s) (0, e.Count) fu hB2 ⟨hf, H⟩ (fun s h => by cases h) ?_ ?_
    ·rintro fk ⟨k', m⟩ a w hR2 hI
     replace hR2 : spec_MissingItems_L2 fu stock e (fk + 1) k' m = some out3 := hR2
     rw [spec_MissingItems_L2] at hR2
     obtain ⟨hf, H⟩ := hI
     refine sq (sqz (pz 4 hf fun a hf => ?_))
     refine wl_end (then_n (ib hR2 hf (fun hc4 hR2 => ?_) fun hc4 hR2 => ?_))
     ·refine wp_skip (then_n (sq (wp_block (sq ?_))))
      obtain ⟨c5, hGc5, hR2⟩ := bs_ hR2
      have fh2 := hf.prune [0, 1, 6, 7, 8, 9] rfl
      have Hm2 := H.lt_ [true] [true] [] [0, 1]
      refine midF 53 (.bool c5) fh2 Hm2 ?_ fun a w hf H => ?_
      ·refine dw [] 18 fun w hb => ?_
       have H := H.keep hb
       refine zp 0 hf trivial fun a hf => ?_
       refine zp 1 hf trivial fun a hf => ?_
       obtain ⟨e2, he2, hGc5⟩ := bs_ hGc5
       obtain ⟨p2, o2, cs2, hx, hr2, H⟩ := pre_iaddr H Tryz.underlying24 TF.sz43 0 rfl he2
       refine tP 2 rfl rfl rfl rfl hf (by kernel_rfl) (fun _ => trivial) (fun w => rq_iaddrE hf rfl rfl rfl hx w) fun a hf => ?_
       obtain rfl := Item_cells hr2
       refine zp 3 hf trivial fun a hf => ?_
       refine strT (H.lt_ [false] [false] [] [0]) (fun w H => trivial) fun hS => ?_
       refine zS 4 [] rfl rfl rfl rfl hf hS (fun w H => rq_loadI hf H TF.ls3 0 0 rfl rfl rfl) fun a hf => ?_
       refine zp 5 hf hS fun a hf => ?_
       refine strT (H.lt_ [true] [false] [] [0]) (fun w H => H.lt_ [false] [] [] [0]) fun hS => ?_
       refine zS 6 [] rfl rfl rfl rfl hf hS (fun w H => rq_loadB hf H TF.ls3 0 rfl rfl rfl) fun a hf => ?_
       refine zp 7 hf hS fun a hf => ?_
       refine zp 8 hf hS fun a hf => ?_
       refine iteB hGc5 (fun hc5 hGc5 => ?_) fun hc5 hGc5 => ?_
       ·have hf := hf.lit 44 rfl hc5
        refine zg 9 hf hS fun a hf => ?_
        refine zg 10 hf hS fun a hf => ?_
        obtain ⟨e3, he3, hGc5⟩ := bs_ hGc5
        obtain ⟨p3, o3, cs3, hx2, hr3, H⟩ := pre_iaddr H Tryz.underlying24 TF.sz43 1 rfl he3
        refine tPg 11 rfl rfl rfl rfl rfl rfl hf (by kernel_rfl) (fun _ => hS) (fun w => rq_iaddrE hf rfl rfl rfl hx2 w) fun a hf => ?_
        obtain rfl := Item_cells hr3
        refine zg 12 hf hS fun a hf => ?_
        refine strT (H.lt_ [true] [false] [] [0, 1]) (fun w H => H.lt_ [true] [] [] [1]) fun hS => ?_
        refine tSg 13 [] rfl rfl rfl rfl rfl rfl hf (by kernel_rfl) (by kernel_rfl) hS (fun w H => rq_loadI hf H TF.ls3 0 1 rfl rfl rfl) fun a hf => ?_
        refine zg 14 hf hS fun a hf => ?_
        refine tSg 15 [] rfl rfl rfl rfl rfl rfl hf (by kernel_rfl) (by kernel_rfl) hS (fun w H => rq_loadB hf H TF.ls3 0 rfl rfl rfl) fun a hf => ?_
        refine zg 16 hf hS fun a hf => ?_
        refine zp 17 hf hS fun a hf => ?_
        refine dn (by kernel_rfl) ?_
        obtain rfl := oi hGc5
        have hf := hf.pn [53, 0, 1, 6, 7, 8, 9]
        have H := H.lt_ [true] [true] [] [2, 3]
        exact ⟨hf, H⟩
       ·have hf := hf.lit 44 rfl hc5
        refine zU 9 hf hS fun a hf => ?_
        refine zU 10 hf hS fun a hf => ?_
        refine zU 11 hf hS fun a hf => ?_
        refine zU 12 hf hS fun a hf => ?_
        refine zU 13 hf hS fun a hf => ?_
        refine zU 14 hf hS fun a hf => ?_
        refine zU 15 hf hS fun a hf => ?_
        refine zU 16 hf hS fun a hf => ?_
        refine zp 17 hf hS fun a hf => ?_
        refine dn (by kernel_rfl) ?_
        obtain rfl := oi hGc5
        have hf := hf.pn [53, 0, 1, 6, 7, 8, 9]
        have H := H.lt_ [true] [true] [] [1, 2]
        exact ⟨hf, H⟩
      refine then_n (ib hR2 hf (fun hc6 hR2 => ?_) fun hc6 hR2 => ?_)
      ·refine dw [9] 10 fun w hb => ?_
       have H := H.keep hb
       refine zp 0 hf trivial fun a hf => ?_
       refine strT (H.lt_ [true] [false] [] []) (fun w H => trivial) fun hS => ?_
       refine zS 1 [1, 7, 8, 9] rfl rfl rfl rfl hf hS (fun w H => rq_loadB hf H TF.ls3 0 rfl rfl rfl) fun a hf => ?_
       refine zp 2 hf hS fun a hf => ?_
       refine zp 3 hf hS fun a hf => ?_
       obtain ⟨e4, he4, hR2⟩ := bs_ hR2
       obtain ⟨p4, o4, cs4, hx3, hr4, H⟩ := pre_iaddr H Tryz.underlying24 TF.sz43 0 rfl he4
       refine zP 4 rfl rfl rfl rfl hf hS (fun w => rq_iaddrE hf rfl rfl rfl hx3 w) fun a hf => ?_
       obtain rfl := Item_cells hr4
       refine zp 5 hf hS fun a hf => ?_
       refine strT (H.lt_ [true] [false] [] [0]) (fun w H => H.lt_ [true] [] [] []) fun hS => ?_
       refine zS 6 [6, 7, 8, 9] rfl rfl rfl rfl hf hS (fun w H => rq_loadI hf H TF.ls3 0 2 rfl rfl rfl) fun a hf => ?_
       refine zp 7 hf hS fun a hf => ?_
       refine zp 8 hf hS fun a hf => ?_
       refine nn 9 rfl (op_storeB hf H 0 TF.sz3 rfl rfl rfl rfl rfl rfl (nle rfl) fun w H => ?_)
       refine ⟨fun h => absurd h (by decide), ?_⟩
       refine dn (by kernel_rfl) ?_
       refine blk_n (then_n (reg (pz 3 hf fun a hf => ?_)))
       refine wl_end ?_
       have hf := hf.pn [0, 1, 6, 7, 8, 9]
       have H := H.lt_ [true] [true] [] [1, 2]
       exact then_n ⟨(w64 (k' + 1), w64 (m - e4.Count)), hR2, hf, H⟩
      ·refine wp_skip (blk_n (then_n (reg (pz 3 hf fun a hf => ?_))))
       refine wl_end ?_
       have hf := hf.pn [0, 1, 6, 7, 8, 9]
       have H := H.lt_ [true] [true] [] [0, 1]
       exact then_n ⟨(w64 (k' + 1), m), hR2, hf, H⟩
     ·refine wp_exit (then_x (then_x (blk_e (?_))))
      have hf := hf.pn [0, 1, 6, 7, 8, 9]
      have H := H.lt_ [true] [true] [] [0, 1]
      exact ⟨(k', m), (Option.some.inj hR2).symm, hf, H⟩
    rintro a w ⟨⟨k2, m2⟩, rfl, hf, H⟩
    try dsimp only at hR1
    refine then_n (sqz (pz 1 hf fun a hf => ?_))
    refine lB 0 hf H TF.ls3 fun a hf => ?_
    refine pz 1 hf fun a hf => ?_
    refine wl_end (then_n (ib hR1 hf (fun hc7 hR1 => ?_) fun hc7 hR1 => ?_))
    ·refine reg (pz 1 hf fun a hf => ?_)
     refine lN 0 hf H TF.la43 fun a hf => ?_
     refine wl0 rfl (bl hf H 43 ([({ Kind := e.Kind, Node := e.Node, Count := m2 } : Item)] : List Item) [(.int .i64 e.Kind), (.int .i64 e.Node), (.int .i64 m2)] (el1 (y := ({ Kind := e.Kind, Node := e.Node, Count := m2 } : Item)) ((Item_mk (x := ({ Kind := e.Kind, Node := e.Node, Count := m2 } : Item))))) fun A5 a w hf H => ?_)
     obtain ⟨l, hl, hR1⟩ := bs_ hR1
     refine wl0 rfl (op_appR hf H Tryz.underlying24 TF.ai43 rfl (by decide) 1 0 rfl rfl rfl rfl (.inr rfl) hl (by decide) fun E2 A6 c6 a w hf H => ?_)
     refine pz 1 hf fun a hf => ?_
     refine wl_end (blk_n (then_n (reg (pz 3 hf fun a hf => ?_))))
     refine wl_end ?_
     have hf := hf.pn [0, 1, 6, 7]
     have H := H.lt_ [false] [false, true] [] [0, 1]
     exact then_n ⟨(l, w64 (i + 1)), hR1, A6, c6, E2, hf, H⟩
    ·refine wp_skip (blk_n (then_n (reg (pz 3 hf fun a hf => ?_))))
     refine wl_end ?_
     have hf := hf.pn [0, 1, 6, 7]
     have H := H.lt_ [false] [true] [] [0, 1]
     exact then_n ⟨(out', w64 (i + 1)), hR1, A4, c4, E, hf, H⟩
   ·refine wp_exit (then_x (then_x (blk_e (?_))))
    have hf := hf.pn [0, 1, 6, 7]
    have H := H.lt_ [] [true] [] [0, 1]
    exact ⟨(out', i), (Option.some.inj hR1).symm, A4, c4, E, hf, H⟩
  rintro a w ⟨⟨out4, i2⟩, rfl, A7, c7, E3, hf, H⟩
  try dsimp only at hF
  refine then_n (sqz (pz 3 hf fun a hf => ?_))
  refine wer ?_
  have H := H.rowOwn 0 rfl rfl
  obtain ⟨F2, H⟩ := H.freezeOwn 0 rfl
  have H := H.lend 0 rfl
  obtain rfl := oi hF
  refine ret_2 hf rfl (rv_tmp hf rfl) (rv_tmp hf rfl) ?_
  have hN := H.ends1
  exact ⟨_, rfl, H.bel, F2, _, _, rfl, (mko_list (H.ownAt 0 rfl)), mk_bool, hN⟩
theorem impl_CostOf_c1_ok {S : Nat → Prop} {v0_ : Value} {price : Int} {r : Bool} (h0 : VR w0 S v0_ price) (hF : impl_CostOf_c1 fu price = some r) :
    Calls Tryz.prog 57 [v0_].toArray w0 fun e w' => ∃ v, e = .returned v ∧ (Below w0.heap.size w0 w' ∧ VR w' (St ⟨w0, []⟩ S [] [] [] true) v r) := by
 obtain rfl := VR_int h0
 have H := Mem.start ⟨w0, []⟩ S
 refine en Tryz.func57 fun a hf => ?_
 rw [impl_CostOf_c1] at hF
 refine sqz (pz 1 hf fun a hf => ?_)
 refine wr (pz 1 hf fun a hf => ?_)
 obtain ⟨y, hy, hF⟩ := bs_ hF
 refine oc hf TF.cl58 (impl_within_ok (S := TT) mk_int mk_int mk_int hy) fun v w a hp hf => ?_
 obtain ⟨hb, hp⟩ := hp
 obtain rfl := VR_bool hp
 have H := H.keep hb
 refine pz 2 hf fun a hf => ?_
 refine wer ?_
 obtain rfl := oi hF
 refine rT hf ?_
 exact ⟨_, rfl, H.bel, mk_bool⟩
theorem slices_IndexFunc_int_int_of_CostOf_c1_ok {S : Nat → Prop} {v0_ : Value} {s' : List Int} {r : Int} (h0 : VR w0 S v0_ s') (hF : slices_IndexFunc_int_int_of_CostOf_c1 fu s' = some r) :
    Calls Tryz.prog 131 [v0_, (.func (.func 57) #[] #[])].toArray w0 fun e w' => ∃ v, e = .returned v ∧ (Below w0.heap.size w0 w' ∧ VR w' (St ⟨w0, []⟩ S [] [] [] true) v r) := by
 obtain ⟨A, c, rfl, hl⟩ := VR_list h0
 have H := Mem.start ⟨w0, []⟩ S
 have H := H.pA hl
 refine en Tryz.func131 fun a hf => ?_
 rw [slices_IndexFunc_int_int_of_CostOf_c1] at hF
 refine sqz (pz 1 hf fun a hf => ?_)
 refine wl_end (then_n (sq (sqz (pz 3 hf fun a hf => ?_))))
 refine wl_end (then_n ?_)
 obtain ⟨out', hB1, hF⟩ := bs_ hF
 have hf := hf.pn [0, 1, 7, 8]
 have H := H.lt_ [] [] [] [0]
 refine loopC (fun (s : Int) (a : Act) (w : World) => match s with | i => Fr a 19 [(0, (.slice A s'.length c)), (1, (.func (.func 57) #[] #[])), (7, (.int .i64 (s'.length : Int))), (8, (.int .i64 i))] ∧ Mem ⟨w0, []⟩ S [] [] [] [(false, MP.val [(.slice A s'.length c)] (s' : List Int))] w) (fun k (s : Int) => slices_IndexFunc_int_int_of_CostOf_c1_L1 fu s' k s = some out') (fun s => out' = Out.next s) 0 fu hB1 ⟨hf, H⟩ (fun s h => by cases h) ?_ ?_
 ·rintro fk i a w hR1 hI
  replace hR1 : slices_IndexFunc_int_int_of_CostOf_c1_L1 fu s' (fk + 1) i = some out' := hR1
  rw [slices_IndexFunc_int_int_of_CostOf_c1_L1] at hR1
  obtain ⟨hf, H⟩ := hI
  refine sqz (pz 1 hf fun a hf => ?_)
  refine wl_end (then_n (sq (ib hR1 hf (fun hc hR1 => ?_) fun hc hR1 => ?_)))
  ·refine ws (pz 2 hf fun a hf => ?_)
   refine wr (pz 3 hf fun a hf => ?_)
   obtain ⟨e, he, hR1⟩ := bs_ hR1
   refine wl0 rfl (op_iaddr hf H Tryz.underlying29 TF.sz3 0 rfl rfl rfl he (by decide) fun p o cs a hf hr H => ?_)
   obtain rfl := hr
   refine oq hf (rq_loadI hf H TF.ls3 0 0 rfl rfl rfl) fun a hf => ?_
   obtain ⟨y, hy, hR1⟩ := bs_ hR1
   refine wl0 rfl (op_callV hf TF.cl57 rfl rfl (by decide) (impl_CostOf_c1_ok (S := TT) mk_int hy) fun v w a hp hf => ?_)
   obtain ⟨hb, hp⟩ := hp
   obtain rfl := VR_bool hp
   have H := H.keep hb
   refine wl_end (then_n (ib hR1 hf (fun hc2 hR1 => ?_) fun hc2 hR1 => ?_))
   ·refine sqz (pz 2 hf fun a hf => ?_)
    have hf := hf.pn [4]
    refine wl_end (then_n (wp_ret (blk_r (then_r (then_r (blk_r (then_r (then_r (?_)))))))))
    obtain rfl := oi hR1
    replace hF := on_ret hF
    obtain rfl := oi hF
    refine rT hf ?_
    exact ⟨_, rfl, H.bel, mk_int⟩
   ·refine wp_skip (blk_n (then_n (reg (pz 2 hf fun a hf => ?_))))
    refine wl_end ?_
    have hf := hf.pn [0, 1, 7, 8]
    have H := H.lt_ [] [] [] [1]
    exact then_n ⟨w64 (i + 1), hR1, hf, H⟩
  ·refine wp_exit (then_x (then_x (blk_e (?_))))
   have hf := hf.pn [0, 1, 7, 8]
   have H := H.lt_ [] [] [] [0]
   exact ⟨i, (Option.some.inj hR1).symm, hf, H⟩
 rintro a w ⟨i2, rfl, hf, H⟩
 replace hF := on_next hF
 refine then_n (sqz (pz 1 hf fun a hf => ?_))
 refine wer ?_
 obtain rfl := oi hF
 refine rT hf ?_
 exact ⟨_, rfl, H.bel, mk_int⟩
theorem slices_ContainsFunc_int_int_of_CostOf_c1_ok {S : Nat → Prop} {v0_ : Value} {s' : List Int} {r : Bool} (h0 : VR w0 S v0_ s') (hF : slices_ContainsFunc_int_int_of_CostOf_c1 fu s' = some r) :
    Calls Tryz.prog 56 [v0_, (.func (.func 57) #[] #[])].toArray w0 fun e w' => ∃ v, e = .returned v ∧ (Below w0.heap.size w0 w' ∧ VR w' (St ⟨w0, []⟩ S [] [] [] true) v r) := by
 obtain ⟨A, c, rfl, hl⟩ := VR_list h0
 have H := Mem.start ⟨w0, []⟩ S
 have H := H.pA hl
 refine en Tryz.func56 fun a hf => ?_
 rw [slices_ContainsFunc_int_int_of_CostOf_c1] at hF
 refine sqz (pz 1 hf fun a hf => ?_)
 refine wr (pz 2 hf fun a hf => ?_)
 obtain ⟨y, hy, hF⟩ := bs_ hF
 refine oc hf TF.cl131 (slices_IndexFunc_int_int_of_CostOf_c1_ok (S := TT) (mk_list (H.rt 0 rfl)) hy) fun v w a hp hf => ?_
 obtain ⟨hb, hp⟩ := hp
 obtain rfl := VR_int hp
 have H := H.keep hb
 refine pz 2 hf fun a hf => ?_
 refine wer ?_
 obtain rfl := oi hF
 refine rT hf ?_
 exact ⟨_, rfl, H.bel, mk_bool⟩
theorem impl_CostOf_ok {S : Nat → Prop} {v0_ : Value} {v1_ : Value} {bill : List Item} {prices : List Int} {r : Int × Bool} (h0 : VR w0 S v0_ bill) (h1 : VR w0 S v1_ prices) (hF : impl_CostOf fu bill prices = some r) :
    Calls Tryz.prog 15 [v0_, v1_].toArray w0 fun e w' => ∃ v, e = .returned v ∧ (Below w0.heap.size w0 w' ∧ ∃ u0 u1, v = .tuple #[u0, u1] ∧ VR w' (St ⟨w0, []⟩ S [] [] [] true) u0 r.1 ∧ VR w' (St ⟨w0, []⟩ S [] [] [] true) u1 r.2) := by
 obtain ⟨A, c, rfl, hl⟩ := VR_list h0
 obtain ⟨A2, c2, rfl, hl2⟩ := VR_list h1
 have H := Mem.start ⟨w0, []⟩ S
 have H := H.pA hl
 have H := H.pA hl2
 refine en Tryz.func15 fun a hf => ?_
 rw [impl_CostOf] at hF
 refine sqz (pz 2 hf fun a hf => ?_)
 refine wl_end (then_n (sq (sq ?_)))
 obtain ⟨c3, hGc3, hF⟩ := bs_ hF
 have fh := hf.prune [0, 1] rfl
 have Hm := H.lt_ [] [] [] [0, 1]
 refine midF 20 (.bool c3) fh Hm ?_ fun a w hf H => ?_
 ·refine reg (pz 1 hf fun a hf => ?_)
  obtain ⟨y, hy, hGc3⟩ := bs_ hGc3
  refine oc hf TF.cl51 (impl_isBill_ok (S := TT) (mk_list (H.rt 1 rfl)) hy) fun v w a hp hf => ?_
  obtain ⟨hb, hp⟩ := hp
  obtain rfl := VR_bool hp
  have H := H.keep hb
  refine pz 2 hf fun a hf => ?_
  refine iteB hGc3 (fun hc hGc3 => ?_) fun hc hGc3 => ?_
  ·have hf := hf.lit 12 rfl hc
   refine pz 8 hf fun a hf => ?_
   obtain rfl := oi hGc3
   have hf := hf.pn [20, 0, 1]
   have H := H.lt_ [] [] [] [0, 1]
   exact wl_end ⟨hf, H⟩
  ·have hf := hf.lit 12 rfl hc
   refine pz 5 hf fun a hf => ?_
   refine iteB hGc3 (fun hc2 hGc3 => ?_) fun hc2 hGc3 => ?_
   ·have hf := hf.lit 17 rfl hc2
    refine pz 3 hf fun a hf => ?_
    obtain rfl := oi hGc3
    have hf := hf.pn [20, 0, 1]
    have H := H.lt_ [] [] [] [0, 1]
    exact wl_end ⟨hf, H⟩
   ·have hf := hf.lit 17 rfl hc2
    refine pz 1 hf fun a hf => ?_
    obtain ⟨y2, hy2, hGc3⟩ := bs_ hGc3
    refine wlg hf rfl rfl rfl (oC hf TF.cl56 (slices_ContainsFunc_int_int_of_CostOf_c1_ok (S := TT) (mk_list (H.rt 0 rfl)) hy2) fun v2 w a hp2 hf => ?_)
    obtain ⟨hb2, hp2⟩ := hp2
    obtain rfl := VR_bool hp2
    have H := H.keep hb2
    refine pz 1 hf fun a hf => ?_
    obtain rfl := oi hGc3
    have hf := hf.pn [20, 0, 1]
    have H := H.lt_ [] [] [] [0, 1]
    exact wl_end ⟨hf, H⟩
 refine then_n (ib hF hf (fun hc3 hF => ?_) fun hc3 hF => ?_)
 ·refine sqz (pz 2 hf fun a hf => ?_)
  refine wl_end (then_n (wp_ret (then_r (?_))))
  obtain rfl := oi hF
  refine ret_2 hf rfl (rv_tmp hf rfl) (rv_tmp hf rfl) ?_
  exact ⟨_, rfl, H.bel, _, _, rfl, mk_int, mk_bool⟩
 ·refine wp_skip (then_n (sqz (pz 1 hf fun a hf => ?_)))
  refine wl_end (then_n (sq (sqz (pz 3 hf fun a hf => ?_))))
  refine wl_end (then_n ?_)
  obtain ⟨out', hB1, hF⟩ := bs_ hF
  have hf := hf.pn [1, 6, 21, 22, 23]
  have H := H.lt_ [] [] [] [0, 1]
  refine loopC (fun (s : Int × Int) (a : Act) (w : World) => match s with | (sum, i) => Fr a 40 [(1, (.slice A2 prices.length c2)), (6, (.int .i64 sum)), (21, (.slice A bill.length c)), (22, (.int .i64 (bill.length : Int))), (23, (.int .i64 i))] ∧ Mem ⟨w0, []⟩ S [] [] [] [(false, MP.val [(.slice A2 prices.length c2)] (prices : List Int)), (false, MP.val [(.slice A bill.length c)] (bill : List Item))] w) (fun k (s : Int × Int) => impl_CostOf_L1 fu bill prices k s.1 s.2 = some out') (fun s => out' = s) (0, 0) fu hB1 ⟨hf, H⟩ (fun s h => by cases h) ?_ ?_
  ·rintro fk ⟨sum, i⟩ a w hR1 hI
   replace hR1 : impl_CostOf_L1 fu bill prices (fk + 1) sum i = some out' := hR1
   rw [impl_CostOf_L1] at hR1
   obtain ⟨hf, H⟩ := hI
   refine sqz (pz 1 hf fun a hf => ?_)
   refine wl_end (then_n (sq (ib hR1 hf (fun hc4 hR1 => ?_) fun hc4 hR1 => ?_)))
   ·refine wp_skip (then_n (sq (wp_block (sq (reg ?_)))))
    obtain ⟨e, he, hR1⟩ := bs_ hR1
    refine wl0 rfl (op_iaddr hf H Tryz.underlying24 TF.sz43 1 rfl rfl rfl he (by decide) fun p o cs a hf hr H => ?_)
    obtain rfl := Item_cells hr
    refine oq hf (rq_loadIN hf H TF.la43 0 0 rfl rfl rfl rfl) fun a hf => ?_
    refine aL hf H TF.zv43 fun b' a w hf H => ?_
    refine sB 0 hf H TF.sz43 fun w H => ?_
    refine wl_end (then_n (dw [] 12 fun w hb => ?_))
    have H := H.keep hb
    refine zp 0 hf trivial fun a hf => ?_
    refine zp 1 hf trivial fun a hf => ?_
    refine strT (H.lt_ [true] [] [] []) (fun w H => trivial) fun hS => ?_
    refine zS 2 [] rfl rfl rfl rfl hf hS (fun w H => rq_loadB hf H TF.ls3 0 rfl rfl rfl) fun a hf => ?_
    refine zp 3 hf hS fun a hf => ?_
    refine zp 4 hf hS fun a hf => ?_
    refine zS 5 [] rfl rfl rfl rfl hf hS (fun w H => rq_loadB hf H TF.ls3 0 rfl rfl rfl) fun a hf => ?_
    refine zp 6 hf hS fun a hf => ?_
    obtain ⟨e2, he2, hR1⟩ := bs_ hR1
    obtain ⟨p2, o2, cs2, hx, hr2, H⟩ := pre_iaddr H Tryz.underlying29 TF.sz3 1 rfl he2
    refine zP 7 rfl rfl rfl rfl hf hS (fun w => rq_iaddrE hf rfl rfl rfl hx w) fun a hf => ?_
    obtain rfl := hr2
    refine strT (H.lt_ [true] [] [] [0]) (fun w H => H.lt_ [true] [] [] []) fun hS => ?_
    refine zS 8 [] rfl rfl rfl rfl hf hS (fun w H => rq_loadI hf H TF.ls3 0 0 rfl rfl rfl) fun a hf => ?_
    refine zp 9 hf hS fun a hf => ?_
    refine zp 10 hf hS fun a hf => ?_
    refine zp 11 hf hS fun a hf => ?_
    refine dn (by kernel_rfl) ?_
    have hf := hf.pn [1, 6, 21, 22, 23]
    refine blk_n (then_n (reg (pz 2 hf fun a hf => ?_)))
    refine wl_end ?_
    have hf := hf.pn [1, 6, 21, 22, 23]
    have H := H.lt_ [false] [] [] [2, 3]
    exact then_n ⟨(w64 (sum + (w64 (e.Count * e2))), w64 (i + 1)), hR1, hf, H⟩
   ·refine wp_exit (then_x (then_x (blk_e (?_))))
    have hf := hf.pn [1, 6, 21, 22, 23]
    have H := H.lt_ [] [] [] [0, 1]
    exact ⟨(sum, i), (Option.some.inj hR1).symm, hf, H⟩
  rintro a w ⟨⟨sum2, i2⟩, rfl, hf, H⟩
  try dsimp only at hF
  refine then_n (sqz (pz 3 hf fun a hf => ?_))
  refine wer ?_
  obtain rfl := oi hF
  refine ret_2 hf rfl (rv_tmp hf rfl) (rv_tmp hf rfl) ?_
  exact ⟨_, rfl, H.bel, _, _, rfl, mk_int, mk_bool⟩
theorem spec_l1Least_ok {S : Nat → Prop} {v0_ : Value} {v1_ : Value} {a' : Int} {b' : Int} {r : Int} (h0 : VR w0 S v0_ a') (h1 : VR w0 S v1_ b') (hF : spec_l1Least fu a' b' = some r) :
    Calls Tryz.prog 253 [v0_, v1_].toArray w0 fun e w' => ∃ v, e = .returned v ∧ (Below w0.heap.size w0 w' ∧ VR w' (St ⟨w0, []⟩ S [] [] [] true) v r) := by
 obtain rfl := VR_int h0
 obtain rfl := VR_int h1
 have H := Mem.start ⟨w0, []⟩ S
 refine en Tryz.func253 fun a hf => ?_
 rw [spec_l1Least] at hF
 refine sqz (pz 1 hf fun a hf => ?_)
 refine wl_end (then_n (sq (sqz (pz 3 hf fun a hf => ?_))))
 refine wl_end (then_n (ib hF hf (fun hc hF => ?_) fun hc hF => ?_))
 ·refine sqz (pz 2 hf fun a hf => ?_)
  refine wl_end (then_n (wp_ret (then_r (?_))))
  obtain rfl := oi hF
  refine rT hf ?_
  exact ⟨_, rfl, H.bel, mk_int⟩
 ·refine wp_skip (then_n (sqz (pz 2 hf fun a hf => ?_)))
  refine wer ?_
  obtain rfl := oi hF
  refine rT hf ?_
  exact ⟨_, rfl, H.bel, mk_int⟩
theorem spec_l1Most_ok {S : Nat → Prop} {v0_ : Value} {v1_ : Value} {a' : Int} {b' : Int} {r : Int} (h0 : VR w0 S v0_ a') (h1 : VR w0 S v1_ b') (hF : spec_l1Most fu a' b' = some r) :
    Calls Tryz.prog 254 [v0_, v1_].toArray w0 fun e w' => ∃ v, e = .returned v ∧ (Below w0.heap.size w0 w' ∧ VR w' (St ⟨w0, []⟩ S [] [] [] true) v r) := by
 obtain rfl := VR_int h0
 obtain rfl := VR_int h1
 have H := Mem.start ⟨w0, []⟩ S
 refine en Tryz.func254 fun a hf => ?_
 rw [spec_l1Most] at hF
 refine sqz (pz 1 hf fun a hf => ?_)
 refine wl_end (then_n (sq (sqz (pz 3 hf fun a hf => ?_))))
 refine wl_end (then_n (ib hF hf (fun hc hF => ?_) fun hc hF => ?_))
 ·refine sqz (pz 2 hf fun a hf => ?_)
  refine wl_end (then_n (wp_ret (then_r (?_))))
  obtain rfl := oi hF
  refine rT hf ?_
  exact ⟨_, rfl, H.bel, mk_int⟩
 ·refine wp_skip (then_n (sqz (pz 2 hf fun a hf => ?_)))
  refine wer ?_
  obtain rfl := oi hF
  refine rT hf ?_
  exact ⟨_, rfl, H.bel, mk_int⟩
theorem spec_l2Before_ok {S : Nat → Prop} {v0_ : Value} {v1_ : Value} {f : Fiber} {g' : Fiber} {r : Int} (h0 : VR w0 S v0_ f) (h1 : VR w0 S v1_ g') (hF : spec_l2Before fu f g' = some r) :
    Calls Tryz.prog 213 [v0_, v1_].toArray w0 fun e w' => ∃ v, e = .returned v ∧ (Below w0.heap.size w0 w' ∧ VR w' (St ⟨w0, []⟩ S [] [] [] true) v r) := by
 obtain rfl := Fiber_open h0
 obtain rfl := Fiber_open h1
 have H := Mem.start ⟨w0, []⟩ S
 refine en Tryz.func213 fun a hf => ?_
 rw [spec_l2Before] at hF
 refine bx hf H fun b' a w hf H => ?_
 refine wl0 rfl (op_box hf H rfl rfl (by decide) fun b2 a w hf H => ?_)
 refine pz 1 hf fun a hf => ?_
 refine wl_end (then_n (sq (wp_block (sqz (pz 1 hf fun a hf => ?_)))))
 refine lB 1 hf H TF.ls3 fun a hf => ?_
 refine pz 1 hf fun a hf => ?_
 refine lB 0 hf H TF.ls3 fun a hf => ?_
 refine pz 2 hf fun a hf => ?_
 refine wl_end (then_n (ib hF hf (fun hc hF => ?_) fun hc hF => ?_))
 ·refine sqz (pz 1 hf fun a hf => ?_)
  refine lB 1 hf H TF.ls3 fun a hf => ?_
  refine pz 1 hf fun a hf => ?_
  refine lB 0 hf H TF.ls3 fun a hf => ?_
  refine pz 2 hf fun a hf => ?_
  have hf := hf.pn [4]
  refine wl_end (then_n (wp_ret (blk_r (then_r (?_)))))
  obtain rfl := oi hF
  refine rT hf ?_
  exact ⟨_, rfl, H.bel, mk_int⟩
 ·refine sqz (pz 1 hf fun a hf => ?_)
  refine lB 1 hf H TF.ls3 fun a hf => ?_
  refine pz 1 hf fun a hf => ?_
  refine lB 0 hf H TF.ls3 fun a hf => ?_
  refine pz 2 hf fun a hf => ?_
  have hf := hf.pn [2, 3, 16]
  refine wl_end (then_n (ib hF hf (fun hc2 hF => ?_) fun hc2 hF => ?_))
  ·refine sqz (pz 1 hf fun a hf => ?_)
   refine lB 1 hf H TF.ls3 fun a hf => ?_
   refine pz 1 hf fun a hf => ?_
   refine lB 0 hf H TF.ls3 fun a hf => ?_
   refine pz 2 hf fun a hf => ?_
   refine wl_end (then_n (wp_ret (blk_r (then_r (?_)))))
   obtain rfl := oi hF
   refine rT hf ?_
   exact ⟨_, rfl, H.bel, mk_int⟩
  ·refine sqz (pz 1 hf fun a hf => ?_)
   refine lB 1 hf H TF.ls3 fun a hf => ?_
   refine pz 1 hf fun a hf => ?_
   refine lB 0 hf H TF.ls3 fun a hf => ?_
   refine pz 2 hf fun a hf => ?_
   refine wl_end (then_n (ib hF hf (fun hc3 hF => ?_) fun hc3 hF => ?_))
   ·refine sqz (pz 1 hf fun a hf => ?_)
    refine lB 1 hf H TF.ls3 fun a hf => ?_
    refine pz 1 hf fun a hf => ?_
    refine lB 0 hf H TF.ls3 fun a hf => ?_
    refine pz 2 hf fun a hf => ?_
    have hf := hf.pn [4]
    refine wl_end (then_n (wp_ret (blk_r (then_r (?_)))))
    obtain rfl := oi hF
    refine rT hf ?_
    exact ⟨_, rfl, H.bel, mk_int⟩
   ·refine wp_skip (blk_n (then_n (sqz (pz 1 hf fun a hf => ?_))))
    refine lB 1 hf H TF.ls3 fun a hf => ?_
    refine pz 1 hf fun a hf => ?_
    refine lB 0 hf H TF.ls3 fun a hf => ?_
    refine pz 2 hf fun a hf => ?_
    have hf := hf.pn [4]
    refine wer ?_
    obtain rfl := oi hF
    refine rT hf ?_
    exact ⟨_, rfl, H.bel, mk_int⟩
theorem spec_l2Put_ok {S : Nat → Prop} {v0_ : Value} {v1_ : Value} {list : List Fiber} {f : Fiber} {r : List Fiber} (h0 : VR w0 S v0_ list) (h1 : VR w0 S v1_ f) (hF : spec_l2Put fu list f = some r) :
    Calls Tryz.prog 252 [v0_, v1_].toArray w0 fun e w' => ∃ v, e = .returned v ∧ (Below w0.heap.size w0 w' ∧ ∃ F0, VO w' F0 v r ∧ New w0 w' F0) := by
 obtain ⟨A, c, rfl, hl⟩ := VR_list h0
 obtain rfl := Fiber_open h1
 have H := Mem.start ⟨w0, []⟩ S
 have H := H.pA hl
 refine en Tryz.func252 fun a hf => ?_
 rw [spec_l2Put] at hF
 refine bx hf H fun b' a w hf H => ?_
 refine pz 1 hf fun a hf => ?_
 refine wr (pz 1 hf fun a hf => ?_)
 refine wl_end (then_n (sq ?_))
 obtain ⟨out', hB1, hF⟩ := bs_ hF
 have hf := hf.pn [0, 3, 5]
 have H := H.lt_ [true] [] [] [0]
 refine loopC (fun (s : Int) (a : Act) (w : World) => match s with | i => Fr a 33 [(0, (.slice A list.length c)), (3, (.pointer (some ⟨b', 0, none⟩))), (5, (.int .i64 i))] ∧ Mem ⟨w0, []⟩ S [⟨b', 120, [(.int .i64 f.A), (.int .i64 f.B), (.int .i64 f.Length), (.int .i64 f.Risk)]⟩] [] [] [(false, MP.val [(.slice A list.length c)] (list : List Fiber))] w) (fun k (s : Int) => spec_l2Put_L1 fu list f k s = some out') (fun s => out' = s) 0 fu hB1 ⟨hf, H⟩ (fun s h => by cases h) ?_ ?_
 ·rintro fk i a w hR1 hI
  replace hR1 : spec_l2Put_L1 fu list f (fk + 1) i = some out' := hR1
  rw [spec_l2Put_L1] at hR1
  obtain ⟨hf, H⟩ := hI
  refine sq (sq ?_)
  obtain ⟨c2, hGc2, hR1⟩ := bs_ hR1
  have fh := hf.prune [0, 3, 5] rfl
  have Hm := H.lt_ [true] [] [] [0]
  refine midF 18 (.bool c2) fh Hm ?_ fun a w hf H => ?_
  ·refine dw [] 13 fun w hb => ?_
   have H := H.keep hb
   refine zp 0 hf trivial fun a hf => ?_
   refine zp 1 hf trivial fun a hf => ?_
   refine zp 2 hf trivial fun a hf => ?_
   refine zp 3 hf trivial fun a hf => ?_
   refine zp 4 hf trivial fun a hf => ?_
   refine iteB hGc2 (fun hc hGc2 => ?_) fun hc hGc2 => ?_
   ·have hf := hf.lit 10 rfl hc
    refine zg 5 hf trivial fun a hf => ?_
    refine zg 6 hf trivial fun a hf => ?_
    obtain ⟨e, he, hGc2⟩ := bs_ hGc2
    obtain ⟨p, o, cs, hx, hr, H⟩ := pre_iaddr H Tryz.underlying33 TF.sz120 0 rfl he
    refine tPg 7 rfl rfl rfl rfl rfl rfl hf (by kernel_rfl) (fun _ => trivial) (fun w => rq_iaddrE hf rfl rfl rfl hx w) fun a hf => ?_
    obtain rfl := Fiber_cells hr
    refine strT (H.lt_ [false] [] [] [0]) (fun w H => trivial) fun hS => ?_
    refine tSg 8 [] rfl rfl rfl rfl rfl rfl hf (by kernel_rfl) (by kernel_rfl) hS (fun w H => rq_loadIN hf H TF.la120 0 0 rfl rfl rfl rfl) fun a hf => ?_
    refine strT (H.lt_ [true] [] [] [0]) (fun w H => H.lt_ [false] [] [] [0]) fun hS => ?_
    refine tSg 9 [] rfl rfl rfl rfl rfl rfl hf (by kernel_rfl) (by kernel_rfl) hS (fun w H => rq_loadBN hf H TF.la120 0 rfl rfl rfl rfl) fun a hf => ?_
    obtain ⟨y, hy, hGc2⟩ := bs_ hGc2
    refine n1g 10 (by kernel_rfl) rfl rfl rfl rfl hf (oC hf TF.cl213 (spec_l2Before_ok (S := TT) Fiber_mkv Fiber_mkv hy) fun v w a hp hf => ?_)
    obtain ⟨hb, hp⟩ := hp
    obtain rfl := VR_int hp
    have H := H.keep hb
    have hS := H.lt_ [true] [] [] [0]
    refine ⟨fun _ => hS, ?_⟩
    refine zg 11 hf hS fun a hf => ?_
    refine zp 12 hf hS fun a hf => ?_
    refine dn (by kernel_rfl) ?_
    obtain rfl := oi hGc2
    have hf := hf.pn [18, 0, 3, 5]
    have H := H.lt_ [true] [] [] [1]
    exact ⟨hf, H⟩
   ·have hf := hf.lit 10 rfl hc
    refine zU 5 hf trivial fun a hf => ?_
    refine zU 6 hf trivial fun a hf => ?_
    refine zU 7 hf trivial fun a hf => ?_
    refine zU 8 hf trivial fun a hf => ?_
    refine zU 9 hf trivial fun a hf => ?_
    refine zU 10 hf trivial fun a hf => ?_
    refine zU 11 hf trivial fun a hf => ?_
    refine zp 12 hf trivial fun a hf => ?_
    refine dn (by kernel_rfl) ?_
    obtain rfl := oi hGc2
    have hf := hf.pn [18, 0, 3, 5]
    have H := H.lt_ [true] [] [] [0]
    exact ⟨hf, H⟩
  refine then_n (ib hR1 hf (fun hc2 hR1 => ?_) fun hc2 hR1 => ?_)
  ·refine wp_skip (then_n (wp_block (reg (pz 3 hf fun a hf => ?_))))
   refine wl_end (blk_n ?_)
   have hf := hf.pn [0, 3, 5]
   have H := H.lt_ [true] [] [] [0]
   exact then_n ⟨w64 (i + 1), hR1, hf, H⟩
  ·refine wp_exit (then_x (then_x (blk_e (?_))))
   have hf := hf.pn [0, 3, 5]
   have H := H.lt_ [true] [] [] [0]
   exact ⟨i, (Option.some.inj hR1).symm, hf, H⟩
 rintro a w ⟨out', rfl, hf, H⟩
 refine then_n (sq ?_)
 obtain ⟨l, hl, hF⟩ := bs_ hF
 obtain ⟨l2, hl2, hF⟩ := bs_ hF
 obtain ⟨l3, hl3, hF⟩ := bs_ hF
 obtain ⟨l4, hl4, hF⟩ := bs_ hF
 obtain ⟨l5, hl5, hF⟩ := bs_ hF
 refine mid (fun a w => ∃ (A8 : Option Addr) (c7 : Nat) (E3 : Go.TypeId), Fr a 33 [(4, (.slice A8 l5.length c7))] ∧ Mem ⟨w0, []⟩ S [] [⟨.sh true, E3, A8, c7, (l5 : List Fiber)⟩] [] [] w) ?_ ?_
 ·refine dw [] 13 fun w hb => ?_
  have H := H.keep hb
  refine zp 1 hf trivial fun a hf => ?_
  refine zp 2 hf trivial fun a hf => ?_
  obtain ⟨A2, c3, hx2, H⟩ := pre_slice H Tryz.underlying33 TF.sz120 0 (lov := none) (hiv := some (.int .i64 out')) (.inl ⟨rfl, rfl⟩) (.inr rfl) rfl hl
  refine tP 3 rfl rfl rfl rfl hf (by kernel_rfl) (fun _ => trivial) (fun w => rq_sliceE hf rfl rfl rfl hx2 w) fun a hf => ?_
  refine strT (H.lt_ [true] [] [] []) (fun w H => trivial) fun hS => ?_
  refine zS 5 [] rfl rfl rfl rfl hf hS (fun w H => rq_loadBN hf H TF.la120 0 rfl rfl rfl rfl) fun a hf => ?_
  refine zp 8 hf hS fun a hf => ?_
  refine zp 9 hf hS fun a hf => ?_
  obtain ⟨A3, c4, hx3, H⟩ := pre_slice H Tryz.underlying33 TF.sz120 1 (lov := some (.int .i64 out')) (hiv := none) (.inr rfl) (.inl ⟨rfl, rfl⟩) rfl hl2
  refine zP 10 rfl rfl rfl rfl hf hS (fun w => rq_sliceE hf rfl rfl rfl hx3 w) fun a hf => ?_
  refine on2 (i := 0) (j := 6) (bi := [true, true, true, true, false, true, false, false, true, true, true, false, false]) (bj := [false, true, true, true, false, true, true, false, true, true, true, false, false]) (by kernel_rfl) rfl rfl rfl rfl rfl rfl ?_ ?_
  ·refine (bl hf H 120 ([] : List Fiber) [] el0 fun A4 a w hf H => ?_)
   have hS := H.lt_ [true] [false] [] []
   refine ⟨fun _ => hS, ?_⟩
   refine on2 (i := 4) (j := 6) (bi := [true, true, true, true, true, true, false, false, true, true, true, false, false]) (bj := [true, true, true, true, false, true, true, false, true, true, true, false, false]) (by kernel_rfl) rfl rfl rfl rfl rfl rfl ?_ ?_
   ·have H := H.rowWeak 0 rfl
    refine (op_appI hf H Tryz.underlying33 TF.ai120 rfl (by decide) 0 1 rfl rfl rfl rfl (.inl rfl) hl3 (by decide) fun E A5 c5 a w hf H => ?_)
    have H := H.rowOwn 0 rfl rfl
    have H := H.rowSh 0 rfl
    have hS := H.lt_ [true] [false] [] []
    refine ⟨fun _ => hS, ?_⟩
    refine nn 6 rfl (bl hf H 120 ([f] : List Fiber) [(.int .i64 f.A), (.int .i64 f.B), (.int .i64 f.Length), (.int .i64 f.Risk)] (el1 (y := f) ((Fiber_mk (x := f)))) fun A6 a w hf H => ?_)
    have hS := H.lt_ [true] [false, false] [] []
    refine ⟨fun _ => hS, ?_⟩
    refine nn 7 rfl (op_appR hf H Tryz.underlying33 TF.ai120 rfl (by decide) 1 0 rfl rfl rfl rfl (.inr rfl) hl4 (by decide) fun E2 A7 c6 a w hf H => ?_)
    have hS := H.lt_ [true] [false, false] [] []
    refine ⟨fun _ => hS, ?_⟩
    have H := H.rowWeak 1 rfl
    refine nn 11 rfl (op_appI hf H Tryz.underlying33 TF.ai120 rfl (by decide) 1 0 rfl rfl rfl rfl (.inl rfl) hl5 (by decide) fun E3 A8 c7 a w hf H => ?_)
    have H := H.rowOwn 1 rfl rfl
    have H := H.rowSh 1 rfl
    have hS := H.lt_ [true] [false, false] [] []
    refine ⟨fun _ => hS, ?_⟩
    refine zp 12 hf hS fun a hf => ?_
    refine dn (by kernel_rfl) ?_
    have hf := hf.pn [4]
    have H := H.lt_ [false] [false, true] [] []
    exact ⟨A8, c7, E3, hf, H⟩
   ·refine (bl hf H 120 ([f] : List Fiber) [(.int .i64 f.A), (.int .i64 f.B), (.int .i64 f.Length), (.int .i64 f.Risk)] (el1 (y := f) ((Fiber_mk (x := f)))) fun A5 a w hf H => ?_)
    have hS := H.lt_ [true] [false, false] [] []
    refine ⟨fun _ => hS, ?_⟩
    have H := H.rowWeak 1 rfl
    refine nn 4 rfl (op_appI hf H Tryz.underlying33 TF.ai120 rfl (by decide) 1 1 rfl rfl rfl rfl (.inl rfl) hl3 (by decide) fun E A6 c5 a w hf H => ?_)
    have H := H.rowOwn 1 rfl rfl
    have H := H.rowSh 1 rfl
    have hS := H.lt_ [true] [false, false] [] []
    refine ⟨fun _ => hS, ?_⟩
    refine nn 7 rfl (op_appR hf H Tryz.underlying33 TF.ai120 rfl (by decide) 1 0 rfl rfl rfl rfl (.inr rfl) hl4 (by decide) fun E2 A7 c6 a w hf H => ?_)
    have hS := H.lt_ [true] [false, false] [] []
    refine ⟨fun _ => hS, ?_⟩
    have H := H.rowWeak 1 rfl
    refine nn 11 rfl (op_appI hf H Tryz.underlying33 TF.ai120 rfl (by decide) 1 0 rfl rfl rfl rfl (.inl rfl) hl5 (by decide) fun E3 A8 c7 a w hf H => ?_)
    have H := H.rowOwn 1 rfl rfl
    have H := H.rowSh 1 rfl
    have hS := H.lt_ [true] [false, false] [] []
    refine ⟨fun _ => hS, ?_⟩
    refine zp 12 hf hS fun a hf => ?_
    refine dn (by kernel_rfl) ?_
    have hf := hf.pn [4]
    have H := H.lt_ [false] [false, true] [] []
    exact ⟨A8, c7, E3, hf, H⟩
  ·refine (bl hf H 120 ([f] : List Fiber) [(.int .i64 f.A), (.int .i64 f.B), (.int .i64 f.Length), (.int .i64 f.Risk)] (el1 (y := f) ((Fiber_mk (x := f)))) fun A4 a w hf H => ?_)
   have hS := H.lt_ [true] [false] [] []
   refine ⟨fun _ => hS, ?_⟩
   refine nn 0 rfl (bl hf H 120 ([] : List Fiber) [] el0 fun A5 a w hf H => ?_)
   have hS := H.lt_ [true] [false, false] [] []
   refine ⟨fun _ => hS, ?_⟩
   have H := H.rowWeak 0 rfl
   refine nn 4 rfl (op_appI hf H Tryz.underlying33 TF.ai120 rfl (by decide) 0 1 rfl rfl rfl rfl (.inl rfl) hl3 (by decide) fun E A6 c5 a w hf H => ?_)
   have H := H.rowOwn 0 rfl rfl
   have H := H.rowSh 0 rfl
   have hS := H.lt_ [true] [false, false] [] []
   refine ⟨fun _ => hS, ?_⟩
   refine nn 7 rfl (op_appR hf H Tryz.underlying33 TF.ai120 rfl (by decide) 0 1 rfl rfl rfl rfl (.inr rfl) hl4 (by decide) fun E2 A7 c6 a w hf H => ?_)
   have hS := H.lt_ [true] [false, false] [] []
   refine ⟨fun _ => hS, ?_⟩
   have H := H.rowWeak 0 rfl
   refine nn 11 rfl (op_appI hf H Tryz.underlying33 TF.ai120 rfl (by decide) 0 0 rfl rfl rfl rfl (.inl rfl) hl5 (by decide) fun E3 A8 c7 a w hf H => ?_)
   have H := H.rowOwn 0 rfl rfl
   have H := H.rowSh 0 rfl
   have hS := H.lt_ [true] [false, false] [] []
   refine ⟨fun _ => hS, ?_⟩
   refine zp 12 hf hS fun a hf => ?_
   refine dn (by kernel_rfl) ?_
   have hf := hf.pn [4]
   have H := H.lt_ [false] [true, false] [] []
   exact ⟨A8, c7, E3, hf, H⟩
 rintro a w ⟨A8, c7, E3, hf, H⟩
 refine then_n (wp_ret (?_))
 have H := H.rowOwn 0 rfl rfl
 obtain ⟨F, H⟩ := H.freezeOwn 0 rfl
 have H := H.lend 0 rfl
 obtain rfl := oi hF
 refine rT hf ?_
 have hN := H.ends1
 exact ⟨_, rfl, H.bel, F, (mko_list (H.ownAt 0 rfl)), hN⟩
end AT
