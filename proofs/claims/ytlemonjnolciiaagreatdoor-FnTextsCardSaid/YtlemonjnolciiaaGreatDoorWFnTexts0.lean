/- The Go functions do what is told of them, by program (gen.py). -/
import Derived.Test.YtlemonjnolciiaaGreatDoorWJ
import Derived.Test.YtlemonjnolciiaaGreatDoorK
set_option linter.unusedVariables false
set_option linter.unusedSimpArgs false
set_option maxRecDepth 100000
set_option maxHeartbeats 1000000
namespace AT
open Go Go.RowKit Go.Proofs
variable {fu : Nat} {w0 : World}
theorem laws_vBig_ok {S : Nat → Prop} {v0_ : Value} {code : List By} {r : Bool} (h0 : VR w0 S v0_ code) (hF : laws_vBig fu code = some r) :
    Calls Tryz.prog 4 [v0_].toArray w0 fun e w' => ∃ v, e = .returned v ∧ (Below w0.heap.size w0 w' ∧ VR w' (St ⟨w0, []⟩ S [] [] [] true) v r) := by
 obtain ⟨A, c, rfl, hl⟩ := VR_list h0
 have H := Mem.start ⟨w0, []⟩ S
 have H := H.pA hl
 refine en Tryz.func4 fun a hf => ?_
 rw [laws_vBig] at hF
 refine sqz (pz 1 hf fun a hf => ?_)
 refine wr (pz 4 hf fun a hf => ?_)
 refine wer ?_
 obtain rfl := oi hF
 refine rT hf ?_
 exact ⟨_, rfl, H.bel, mk_bool⟩
theorem spec_l1Cur_next_ok {S : Nat → Prop} {b0 : Nat} {cs0 : List Value} {c : L1CurP} {r : Int × L1CurP} (hp0 : w0.heap[b0]? = some (.cells cs0.toArray 87 (0, 0))) (hr0 : GoTy.rep w0 S cs0 c) (hS0 : ¬ S b0) (hF : spec_l1Cur_next fu c = some r) :
    Calls Tryz.prog 113 [(.pointer (some ⟨b0, 0, none⟩))].toArray w0 fun e w' => ∃ v, e = .returned v ∧ (Chg w0 w' [b0] ∧ ∃ cs', w'.heap[b0]? = some (.cells cs'.toArray 87 (0, 0)) ∧ GoTy.rep w' (St ⟨w0, [b0]⟩ S [⟨b0, 87, cs'⟩] [] [] false) cs' r.2 ∧ (cs'[0]? = cs0[0]? ∧ r.2.code = c.code) ∧ VR w' (St ⟨w0, [b0]⟩ S [⟨b0, 87, cs'⟩] [] [] true) v r.1) := by
 obtain ⟨A, c2, rfl, hl⟩ := L1CurP_cells hr0
 have H := Mem.startB S hp0
 have H := H.pB hS0 hl
 refine en Tryz.func113 fun a hf => ?_
 rw [spec_l1Cur_next] at hF
 refine sqz (pz 1 hf fun a hf => ?_)
 refine wr (pz 1 hf fun a hf => ?_)
 refine wl_end (then_n (sq (sq (dw [] 10 fun w hb => ?_))))
 have H := H.keep hb
 refine zp 0 hf trivial fun a hf => ?_
 refine zp 1 hf trivial fun a hf => ?_
 refine zp 2 hf trivial fun a hf => ?_
 refine strT (H.lk 1 0 0 []) (fun w H => trivial) fun hS => ?_
 refine zS 3 [] rfl rfl rfl rfl hf hS (fun w H => rq_loadB hf H TF.ls3 0 rfl rfl rfl) fun a hf => ?_
 refine zp 4 hf hS fun a hf => ?_
 refine zp 5 hf hS fun a hf => ?_
 refine zp 6 hf hS fun a hf => ?_
 refine zS 7 [] rfl rfl rfl rfl hf hS (fun w H => rq_loadB hf H TF.ls22 0 rfl rfl rfl) fun a hf => ?_
 refine zp 8 hf hS fun a hf => ?_
 refine zp 9 hf hS fun a hf => ?_
 refine dk ?_
 refine then_n (ib hF hf (fun hc hF => ?_) fun hc hF => ?_)
 ·refine dw [] 12 fun w hb => ?_
  have H := H.keep hb
  refine zp 0 hf trivial fun a hf => ?_
  refine zp 1 hf trivial fun a hf => ?_
  refine zp 2 hf trivial fun a hf => ?_
  refine strT (H.lk 1 0 0 []) (fun w H => trivial) fun hS => ?_
  refine zS 3 [] rfl rfl rfl rfl hf hS (fun w H => rq_loadB hf H TF.ls22 0 rfl rfl rfl) fun a hf => ?_
  refine zp 4 hf hS fun a hf => ?_
  refine zp 5 hf hS fun a hf => ?_
  refine zp 6 hf hS fun a hf => ?_
  refine zS 7 [] rfl rfl rfl rfl hf hS (fun w H => rq_loadB hf H TF.ls3 0 rfl rfl rfl) fun a hf => ?_
  obtain ⟨e, he, hF⟩ := bs_ hF
  obtain ⟨p, o2, cs2, hx, hr2, H⟩ := pre_iaddr H Tryz.underlying22 TF.sz5 0 rfl he
  refine zP 8 rfl rfl rfl rfl hf hS (fun w => rq_iaddrE hf rfl rfl rfl hx w) fun a hf => ?_
  obtain rfl := hr2
  refine strT (H.lk 1 0 0 [0]) (fun w H => H.lk 1 0 0 []) fun hS => ?_
  refine zS 9 [] rfl rfl rfl rfl hf hS (fun w H => rq_loadI hf H TF.ls5 0 0 rfl rfl rfl) fun a hf => ?_
  refine nn 10 rfl (op_q hf (rq_conv i64w Tryz.underlying5 Tryz.underlying3 hf rfl) rfl (by decide) fun a hf => ?_)
  have hS := H.lk 1 0 0 [0]
  refine aS hS ?_
  refine zp 11 hf hS fun a hf => ?_
  refine dk ?_
  have hf := hf.pn [0, 3]
  refine then_n (sqz (pz 3 hf fun a hf => ?_))
  refine lB 0 hf H TF.ls3 fun a hf => ?_
  refine pz 3 hf fun a hf => ?_
  refine sB 0 hf H TF.sz3 fun w H => ?_
  refine wr (pz 4 hf fun a hf => ?_)
  refine lB 0 hf H TF.ls85 fun a hf => ?_
  refine oq hf (rq_mulK u64w hf rfl rfl) fun a hf => ?_
  refine pz 1 hf fun a hf => ?_
  refine oq hf (rq_conv u64w Tryz.underlying3 Tryz.underlying85 hf rfl) fun a hf => ?_
  refine oq hf (rq_addK u64w hf rfl rfl) fun a hf => ?_
  refine oq hf (rq_addK u64w hf rfl rfl) fun a hf => ?_
  refine pz 2 hf fun a hf => ?_
  refine sB 0 hf H TF.sz85 fun w H => ?_
  have hf := hf.pn [0, 3]
  refine wl_end (then_n (sq (sq (dw [] 10 fun w hb => ?_))))
  have H := H.keep hb
  refine zp 0 hf trivial fun a hf => ?_
  refine zp 1 hf trivial fun a hf => ?_
  refine zp 2 hf trivial fun a hf => ?_
  refine strT (H.lk 1 0 0 []) (fun w H => trivial) fun hS => ?_
  refine zS 3 [] rfl rfl rfl rfl hf hS (fun w H => rq_loadB hf H TF.ls3 0 rfl rfl rfl) fun a hf => ?_
  refine zp 4 hf hS fun a hf => ?_
  refine zp 5 hf hS fun a hf => ?_
  refine zp 6 hf hS fun a hf => ?_
  refine zS 7 [] rfl rfl rfl rfl hf hS (fun w H => rq_loadB hf H TF.ls22 0 rfl rfl rfl) fun a hf => ?_
  refine zp 8 hf hS fun a hf => ?_
  refine zp 9 hf hS fun a hf => ?_
  refine dk ?_
  refine then_n (ib hF hf (fun hc2 hF => ?_) fun hc2 hF => ?_)
  ·refine sqz (pz 2 hf fun a hf => ?_)
   have hf := hf.pn [2]
   refine wl_end (then_n (wp_ret (then_r (?_))))
   obtain rfl := oi hF
   refine rT hf ?_
   exact ⟨_, rfl, H.chg, _, H.boxAt 0 rfl, (L1CurP_mk (x := ({ code := c.code, at_ := w64 (c.at_ + 1), seed := (⟨wu64 ((wu64 ((wu64 (c.seed.n * 6364136223846793005)) + (wu64 (w64 e.n)))) + 897897)⟩ : U64) } : L1CurP)) (eB 0 (H.get 1 rfl))), ⟨rfl, rfl⟩, mk_int⟩
  ·refine wp_skip (then_n (sqz (pz 3 hf fun a hf => ?_)))
   refine lB 0 hf H TF.ls85 fun a hf => ?_
   obtain ⟨q, hq, hF⟩ := bs_ hF
   refine oq hf (rq_shrK rfl hf rfl rfl hq) fun a hf => ?_
   refine oq hf (rq_andu64 hf rfl rfl) fun a hf => ?_
   refine oq hf (rq_conv i64w Tryz.underlying85 Tryz.underlying3 hf rfl) fun a hf => ?_
   refine pz 1 hf fun a hf => ?_
   have hf := hf.pn [2]
   refine wer ?_
   obtain rfl := oi hF
   refine rT hf ?_
   exact ⟨_, rfl, H.chg, _, H.boxAt 0 rfl, (L1CurP_mk (x := ({ code := c.code, at_ := w64 (c.at_ + 1), seed := (⟨wu64 ((wu64 ((wu64 (c.seed.n * 6364136223846793005)) + (wu64 (w64 e.n)))) + 897897)⟩ : U64) } : L1CurP)) (eB 0 (H.get 1 rfl))), ⟨rfl, rfl⟩, mk_int⟩
 ·refine wp_skip (then_n (sqz (pz 3 hf fun a hf => ?_)))
  refine lB 0 hf H TF.ls3 fun a hf => ?_
  refine pz 3 hf fun a hf => ?_
  refine sB 0 hf H TF.sz3 fun w H => ?_
  have hf := hf.pn [0, 3]
  refine wr (pz 4 hf fun a hf => ?_)
  refine lB 0 hf H TF.ls85 fun a hf => ?_
  refine oq hf (rq_mulK u64w hf rfl rfl) fun a hf => ?_
  refine pz 1 hf fun a hf => ?_
  refine oq hf (rq_conv u64w Tryz.underlying3 Tryz.underlying85 hf rfl) fun a hf => ?_
  refine oq hf (rq_addK u64w hf rfl rfl) fun a hf => ?_
  refine oq hf (rq_addK u64w hf rfl rfl) fun a hf => ?_
  refine pz 2 hf fun a hf => ?_
  refine sB 0 hf H TF.sz85 fun w H => ?_
  refine wl_end (then_n (sq (sq (dw [] 10 fun w hb => ?_))))
  have H := H.keep hb
  refine zp 0 hf trivial fun a hf => ?_
  refine zp 1 hf trivial fun a hf => ?_
  refine zp 2 hf trivial fun a hf => ?_
  refine strT (H.lk 1 0 0 []) (fun w H => trivial) fun hS => ?_
  refine zS 3 [] rfl rfl rfl rfl hf hS (fun w H => rq_loadB hf H TF.ls3 0 rfl rfl rfl) fun a hf => ?_
  refine zp 4 hf hS fun a hf => ?_
  refine zp 5 hf hS fun a hf => ?_
  refine zp 6 hf hS fun a hf => ?_
  refine zS 7 [] rfl rfl rfl rfl hf hS (fun w H => rq_loadB hf H TF.ls22 0 rfl rfl rfl) fun a hf => ?_
  refine zp 8 hf hS fun a hf => ?_
  refine zp 9 hf hS fun a hf => ?_
  refine dk ?_
  have hf := hf.pn [0, 3, 53]
  refine then_n (ib hF hf (fun hc3 hF => ?_) fun hc3 hF => ?_)
  ·refine sqz (pz 2 hf fun a hf => ?_)
   refine wl_end (then_n (wp_ret (then_r (?_))))
   obtain rfl := oi hF
   refine rT hf ?_
   exact ⟨_, rfl, H.chg, _, H.boxAt 0 rfl, (L1CurP_mk (x := ({ code := c.code, at_ := w64 (c.at_ + 1), seed := (⟨wu64 ((wu64 ((wu64 (c.seed.n * 6364136223846793005)) + (wu64 0))) + 897897)⟩ : U64) } : L1CurP)) (eB 0 (H.get 0 rfl))), ⟨rfl, rfl⟩, mk_int⟩
  ·refine wp_skip (then_n (sqz (pz 3 hf fun a hf => ?_)))
   refine lB 0 hf H TF.ls85 fun a hf => ?_
   obtain ⟨q2, hq2, hF⟩ := bs_ hF
   refine oq hf (rq_shrK rfl hf rfl rfl hq2) fun a hf => ?_
   refine oq hf (rq_andu64 hf rfl rfl) fun a hf => ?_
   refine oq hf (rq_conv i64w Tryz.underlying85 Tryz.underlying3 hf rfl) fun a hf => ?_
   refine pz 1 hf fun a hf => ?_
   refine wer ?_
   obtain rfl := oi hF
   refine rT hf ?_
   exact ⟨_, rfl, H.chg, _, H.boxAt 0 rfl, (L1CurP_mk (x := ({ code := c.code, at_ := w64 (c.at_ + 1), seed := (⟨wu64 ((wu64 ((wu64 (c.seed.n * 6364136223846793005)) + (wu64 0))) + 897897)⟩ : U64) } : L1CurP)) (eB 0 (H.get 0 rfl))), ⟨rfl, rfl⟩, mk_int⟩
theorem spec_l1Cur_pick_ok {S : Nat → Prop} {b0 : Nat} {cs0 : List Value} {v1_ : Value} {c : L1CurP} {n' : Int} {r : Int × L1CurP} (hp0 : w0.heap[b0]? = some (.cells cs0.toArray 87 (0, 0))) (hr0 : GoTy.rep w0 S cs0 c) (hS0 : ¬ S b0) (h1 : VR w0 S v1_ n') (hF : spec_l1Cur_pick fu c n' = some r) :
    Calls Tryz.prog 75 [(.pointer (some ⟨b0, 0, none⟩)), v1_].toArray w0 fun e w' => ∃ v, e = .returned v ∧ (Chg w0 w' [b0] ∧ ∃ cs', w'.heap[b0]? = some (.cells cs'.toArray 87 (0, 0)) ∧ GoTy.rep w' (St ⟨w0, [b0]⟩ S [⟨b0, 87, cs'⟩] [] [] false) cs' r.2 ∧ (cs'[0]? = cs0[0]? ∧ r.2.code = c.code) ∧ VR w' (St ⟨w0, [b0]⟩ S [⟨b0, 87, cs'⟩] [] [] true) v r.1) := by
 obtain ⟨A, c2, rfl, hl⟩ := L1CurP_cells hr0
 obtain rfl := VR_int h1
 have H := Mem.startB S hp0
 have H := H.pB hS0 hl
 refine en Tryz.func75 fun a hf => ?_
 rw [spec_l1Cur_pick] at hF
 refine sqz (pz 1 hf fun a hf => ?_)
 refine we (sqz (pz 2 hf fun a hf => ?_))
 refine wl_end (then_n (ib hF hf (fun hc hF => ?_) fun hc hF => ?_))
 ·refine sqz (pz 1 hf fun a hf => ?_)
  refine wl_end (then_n (wp_ret (then_r (?_))))
  obtain rfl := oi hF
  refine rT hf ?_
  exact ⟨_, rfl, H.chg, _, H.boxAt 0 rfl, (L1CurP_mk (x := c) (eB 0 (H.get 0 rfl))), ⟨rfl, rfl⟩, mk_int⟩
 ·refine wp_skip (then_n (sqz (pz 1 hf fun a hf => ?_)))
  obtain ⟨y, hy, hF⟩ := bs_ hF
  refine oc hf TF.cl113 (spec_l1Cur_next_ok (S := NB b0) (H.boxAt 0 rfl) ((L1CurP_mk (x := c) (H.nb 0 rfl (H.get 0 rfl)))) (fun h => h rfl) hy) fun v w a hp3 hf => ?_
  obtain ⟨hch, cs3, hbx, hr3, ⟨hx, hx2⟩, hs⟩ := hp3
  obtain rfl := VR_int hs
  obtain ⟨A2, c3, rfl, hl2⟩ := L1CurP_cells hr3
  obtain ⟨rfl, rfl⟩ := fx_slice hx rfl rfl
  have H := H.wroteBox 0 rfl hch hbx
  have H := H.pX 0 rfl hx2
  refine pz 1 hf fun a hf => ?_
  refine we (sqz (pz 2 hf fun a hf => ?_))
  refine wl_end (then_n (ib hF hf (fun hc2 hF => ?_) fun hc2 hF => ?_))
  ·refine reg (pz 3 hf fun a hf => ?_)
   obtain ⟨y2, hy2, hF⟩ := bs_ hF
   refine oc hf TF.cl113 (spec_l1Cur_next_ok (S := NB b0) (H.boxAt 0 rfl) ((L1CurP_mk (x := y.2) (H.nb 0 rfl (H.get 0 rfl)))) (fun h => h rfl) hy2) fun v2 w a hp4 hf => ?_
   obtain ⟨hch2, cs4, hbx2, hr4, ⟨hx3, hx4⟩, hs2⟩ := hp4
   obtain rfl := VR_int hs2
   obtain ⟨A3, c4, rfl, hl3⟩ := L1CurP_cells hr4
   obtain ⟨rfl, rfl⟩ := fx_slice hx3 rfl rfl
   have hx5 := hx4.trans hx2
   have H := H.wroteBox 0 rfl hch2 hbx2
   have H := H.pX 0 rfl hx4
   refine pz 2 hf fun a hf => ?_
   have hf := hf.pn [1, 5]
   refine wr (pz 2 hf fun a hf => ?_)
   obtain ⟨q, hq, hF⟩ := bs_ hF
   refine oq hf (rq_rem hf rfl rfl hq) fun a hf => ?_
   refine pz 1 hf fun a hf => ?_
   refine wer ?_
   obtain rfl := oi hF
   refine rT hf ?_
   exact ⟨_, rfl, H.chg, _, H.boxAt 0 rfl, (L1CurP_mk (x := y2.2) (eB 0 (H.get 0 rfl))), ⟨fxc hx5, hx5⟩, mk_int⟩
  ·refine wp_skip (then_n (sqz (pz 2 hf fun a hf => ?_)))
   obtain ⟨q2, hq2, hF⟩ := bs_ hF
   refine oq hf (rq_rem hf rfl rfl hq2) fun a hf => ?_
   refine pz 1 hf fun a hf => ?_
   refine wer ?_
   obtain rfl := oi hF
   refine rT hf ?_
   exact ⟨_, rfl, H.chg, _, H.boxAt 0 rfl, (L1CurP_mk (x := y.2) (eB 0 (H.get 0 rfl))), ⟨fxc hx2, hx2⟩, mk_int⟩
theorem spec_l1Cur_one_ok {S : Nat → Prop} {b0 : Nat} {cs0 : List Value} {v1_ : Value} {c : L1CurP} {n' : Int} {r : Bool × L1CurP} (hp0 : w0.heap[b0]? = some (.cells cs0.toArray 87 (0, 0))) (hr0 : GoTy.rep w0 S cs0 c) (hS0 : ¬ S b0) (h1 : VR w0 S v1_ n') (hF : spec_l1Cur_one fu c n' = some r) :
    Calls Tryz.prog 51 [(.pointer (some ⟨b0, 0, none⟩)), v1_].toArray w0 fun e w' => ∃ v, e = .returned v ∧ (Chg w0 w' [b0] ∧ ∃ cs', w'.heap[b0]? = some (.cells cs'.toArray 87 (0, 0)) ∧ GoTy.rep w' (St ⟨w0, [b0]⟩ S [⟨b0, 87, cs'⟩] [] [] false) cs' r.2 ∧ (cs'[0]? = cs0[0]? ∧ r.2.code = c.code) ∧ VR w' (St ⟨w0, [b0]⟩ S [⟨b0, 87, cs'⟩] [] [] true) v r.1) := by
 obtain ⟨A, c2, rfl, hl⟩ := L1CurP_cells hr0
 obtain rfl := VR_int h1
 have H := Mem.startB S hp0
 have H := H.pB hS0 hl
 refine en Tryz.func51 fun a hf => ?_
 rw [spec_l1Cur_one] at hF
 refine sqz (pz 1 hf fun a hf => ?_)
 refine wr (pz 2 hf fun a hf => ?_)
 obtain ⟨y, hy, hF⟩ := bs_ hF
 refine oc hf TF.cl75 (spec_l1Cur_pick_ok (S := NB b0) (H.boxAt 0 rfl) ((L1CurP_mk (x := c) (H.nb 0 rfl (H.get 0 rfl)))) (fun h => h rfl) mk_int hy) fun v w a hp3 hf => ?_
 obtain ⟨hch, cs3, hbx, hr3, ⟨hx, hx2⟩, hs⟩ := hp3
 obtain rfl := VR_int hs
 obtain ⟨A2, c3, rfl, hl2⟩ := L1CurP_cells hr3
 obtain ⟨rfl, rfl⟩ := fx_slice hx rfl rfl
 have H := H.wroteBox 0 rfl hch hbx
 have H := H.pX 0 rfl hx2
 refine pz 2 hf fun a hf => ?_
 refine wer ?_
 obtain rfl := oi hF
 refine rT hf ?_
 exact ⟨_, rfl, H.chg, _, H.boxAt 0 rfl, (L1CurP_mk (x := y.2) (eB 0 (H.get 0 rfl))), ⟨fxc hx2, hx2⟩, mk_bool⟩
theorem spec_l1Least_ok {S : Nat → Prop} {v0_ : Value} {v1_ : Value} {a' : Int} {b' : Int} {r : Int} (h0 : VR w0 S v0_ a') (h1 : VR w0 S v1_ b') (hF : spec_l1Least fu a' b' = some r) :
    Calls Tryz.prog 127 [v0_, v1_].toArray w0 fun e w' => ∃ v, e = .returned v ∧ (Below w0.heap.size w0 w' ∧ VR w' (St ⟨w0, []⟩ S [] [] [] true) v r) := by
 obtain rfl := VR_int h0
 obtain rfl := VR_int h1
 have H := Mem.start ⟨w0, []⟩ S
 refine en Tryz.func127 fun a hf => ?_
 rw [spec_l1Least] at hF
 refine sqz (pz 1 hf fun a hf => ?_)
 refine we (sqz (pz 3 hf fun a hf => ?_))
 refine wl_end (then_n (ib hF hf (fun hc hF => ?_) fun hc hF => ?_))
 ·refine sqz (pz 2 hf fun a hf => ?_)
  refine wl_end (then_n (wp_ret (then_r (?_))))
  obtain rfl := oi hF
  refine rT hf ?_
  exact ⟨_, rfl, H.bel, mk_int⟩
 ·refine wp_skip (then_n (sqz (pz 2 hf fun a hf => ?_)))
  refine wer ?_
  obtain rfl := oi hF
  refine rT hf ?_
  exact ⟨_, rfl, H.bel, mk_int⟩
theorem spec_l1Most_ok {S : Nat → Prop} {v0_ : Value} {v1_ : Value} {a' : Int} {b' : Int} {r : Int} (h0 : VR w0 S v0_ a') (h1 : VR w0 S v1_ b') (hF : spec_l1Most fu a' b' = some r) :
    Calls Tryz.prog 128 [v0_, v1_].toArray w0 fun e w' => ∃ v, e = .returned v ∧ (Below w0.heap.size w0 w' ∧ VR w' (St ⟨w0, []⟩ S [] [] [] true) v r) := by
 obtain rfl := VR_int h0
 obtain rfl := VR_int h1
 have H := Mem.start ⟨w0, []⟩ S
 refine en Tryz.func128 fun a hf => ?_
 rw [spec_l1Most] at hF
 refine sqz (pz 1 hf fun a hf => ?_)
 refine we (sqz (pz 3 hf fun a hf => ?_))
 refine wl_end (then_n (ib hF hf (fun hc hF => ?_) fun hc hF => ?_))
 ·refine sqz (pz 2 hf fun a hf => ?_)
  refine wl_end (then_n (wp_ret (then_r (?_))))
  obtain rfl := oi hF
  refine rT hf ?_
  exact ⟨_, rfl, H.bel, mk_int⟩
 ·refine wp_skip (then_n (sqz (pz 2 hf fun a hf => ?_)))
  refine wer ?_
  obtain rfl := oi hF
  refine rT hf ?_
  exact ⟨_, rfl, H.bel, mk_int⟩
theorem spec_l1Cur_among_ok {S : Nat → Prop} {b0 : Nat} {cs0 : List Value} {v1_ : Value} {c : L1CurP} {list : List Int} {r : Int × L1CurP} (hp0 : w0.heap[b0]? = some (.cells cs0.toArray 87 (0, 0))) (hr0 : GoTy.rep w0 S cs0 c) (hS0 : ¬ S b0) (h1 : VR w0 S v1_ list) (hF : spec_l1Cur_among fu c list = some r) :
    Calls Tryz.prog 94 [(.pointer (some ⟨b0, 0, none⟩)), v1_].toArray w0 fun e w' => ∃ v, e = .returned v ∧ (Chg w0 w' [b0] ∧ ∃ cs', w'.heap[b0]? = some (.cells cs'.toArray 87 (0, 0)) ∧ GoTy.rep w' (St ⟨w0, [b0]⟩ S [⟨b0, 87, cs'⟩] [] [] false) cs' r.2 ∧ (cs'[0]? = cs0[0]? ∧ r.2.code = c.code) ∧ VR w' (St ⟨w0, [b0]⟩ S [⟨b0, 87, cs'⟩] [] [] true) v r.1) := by
 obtain ⟨A, c2, rfl, hl⟩ := L1CurP_cells hr0
 obtain ⟨A2, c3, rfl, hl2⟩ := VR_list h1
 have H := Mem.startB S hp0
 have H := H.pB hS0 hl
 have H := H.pB hS0 hl2
 refine en Tryz.func94 fun a hf => ?_
 rw [spec_l1Cur_among] at hF
 refine sqz (pz 1 hf fun a hf => ?_)
 refine wr (pz 4 hf fun a hf => ?_)
 obtain ⟨y, hy, hF⟩ := bs_ hF
 refine oc hf TF.cl75 (spec_l1Cur_pick_ok (S := NB b0) (H.boxAt 0 rfl) ((L1CurP_mk (x := c) (H.nb 0 rfl (H.get 1 rfl)))) (fun h => h rfl) mk_int hy) fun v w a hp3 hf => ?_
 obtain ⟨hch, cs3, hbx, hr3, ⟨hx, hx2⟩, hs⟩ := hp3
 obtain rfl := VR_int hs
 obtain ⟨A3, c4, rfl, hl3⟩ := L1CurP_cells hr3
 obtain ⟨rfl, rfl⟩ := fx_slice hx rfl rfl
 have H := H.wroteBox 0 rfl hch hbx
 have H := H.pX 1 rfl hx2
 obtain ⟨e, he, hF⟩ := bs_ hF
 refine wl0 rfl (op_iaddr hf H Tryz.underlying28 TF.sz3 1 rfl rfl rfl he (by decide) fun p o3 cs4 a hf hr4 H => ?_)
 obtain rfl := hr4
 refine oq hf (rq_loadI hf H TF.ls3 0 0 rfl rfl rfl) fun a hf => ?_
 refine pz 1 hf fun a hf => ?_
 refine wer ?_
 obtain rfl := oi hF
 refine rT hf ?_
 exact ⟨_, rfl, H.chg, _, H.boxAt 0 rfl, (L1CurP_mk (x := y.2) (eB 0 (H.get 1 rfl))), ⟨fxc hx2, hx2⟩, mk_int⟩
theorem spec_l2Before_ok {S : Nat → Prop} {v0_ : Value} {v1_ : Value} {f : Fiber} {g' : Fiber} {r : Int} (h0 : VR w0 S v0_ f) (h1 : VR w0 S v1_ g') (hF : spec_l2Before fu f g' = some r) :
    Calls Tryz.prog 69 [v0_, v1_].toArray w0 fun e w' => ∃ v, e = .returned v ∧ (Below w0.heap.size w0 w' ∧ VR w' (St ⟨w0, []⟩ S [] [] [] true) v r) := by
 obtain rfl := Fiber_open h0
 obtain rfl := Fiber_open h1
 have H := Mem.start ⟨w0, []⟩ S
 refine en Tryz.func69 fun a hf => ?_
 rw [spec_l2Before] at hF
 refine bx hf H fun b' a w hf H => ?_
 refine wl0 rfl (op_box hf H rfl rfl (by decide) fun b2 a w hf H => ?_)
 refine pz 1 hf fun a hf => ?_
 refine wl_end (then_n (sq (wp_block (sqz (pz 1 hf fun a hf => ?_)))))
 refine lB 1 hf H TF.ls3 fun a hf => ?_
 refine pz 1 hf fun a hf => ?_
 refine lB 0 hf H TF.ls3 fun a hf => ?_
 refine pz 2 hf fun a hf => ?_
 refine wl_end (then_n (ib hF hf (fun hc hF => ?_) fun hc hF => ?_))
 ·refine sqz (pz 1 hf fun a hf => ?_)
  refine lB 1 hf H TF.ls3 fun a hf => ?_
  refine pz 1 hf fun a hf => ?_
  refine lB 0 hf H TF.ls3 fun a hf => ?_
  refine pz 2 hf fun a hf => ?_
  have hf := hf.pn [4]
  refine wl_end (then_n (wp_ret (blk_r (then_r (?_)))))
  obtain rfl := oi hF
  refine rT hf ?_
  exact ⟨_, rfl, H.bel, mk_int⟩
 ·refine sqz (pz 1 hf fun a hf => ?_)
  refine lB 1 hf H TF.ls3 fun a hf => ?_
  refine pz 1 hf fun a hf => ?_
  refine lB 0 hf H TF.ls3 fun a hf => ?_
  refine pz 2 hf fun a hf => ?_
  have hf := hf.pn [2, 3, 16]
  refine wl_end (then_n (ib hF hf (fun hc2 hF => ?_) fun hc2 hF => ?_))
  ·refine sqz (pz 1 hf fun a hf => ?_)
   refine lB 1 hf H TF.ls3 fun a hf => ?_
   refine pz 1 hf fun a hf => ?_
   refine lB 0 hf H TF.ls3 fun a hf => ?_
   refine pz 2 hf fun a hf => ?_
   refine wl_end (then_n (wp_ret (blk_r (then_r (?_)))))
   obtain rfl := oi hF
   refine rT hf ?_
   exact ⟨_, rfl, H.bel, mk_int⟩
  ·refine sqz (pz 1 hf fun a hf => ?_)
   refine lB 1 hf H TF.ls3 fun a hf => ?_
   refine pz 1 hf fun a hf => ?_
   refine lB 0 hf H TF.ls3 fun a hf => ?_
   refine pz 2 hf fun a hf => ?_
   refine wl_end (then_n (ib hF hf (fun hc3 hF => ?_) fun hc3 hF => ?_))
   ·refine sqz (pz 1 hf fun a hf => ?_)
    refine lB 1 hf H TF.ls3 fun a hf => ?_
    refine pz 1 hf fun a hf => ?_
    refine lB 0 hf H TF.ls3 fun a hf => ?_
    refine pz 2 hf fun a hf => ?_
    have hf := hf.pn [4]
    refine wl_end (then_n (wp_ret (blk_r (then_r (?_)))))
    obtain rfl := oi hF
    refine rT hf ?_
    exact ⟨_, rfl, H.bel, mk_int⟩
   ·refine wp_skip (blk_n (then_n (sqz (pz 1 hf fun a hf => ?_))))
    refine lB 1 hf H TF.ls3 fun a hf => ?_
    refine pz 1 hf fun a hf => ?_
    refine lB 0 hf H TF.ls3 fun a hf => ?_
    refine pz 2 hf fun a hf => ?_
    have hf := hf.pn [4]
    refine wer ?_
    obtain rfl := oi hF
    refine rT hf ?_
    exact ⟨_, rfl, H.bel, mk_int⟩
theorem spec_l2Put_ok {S : Nat → Prop} {v0_ : Value} {v1_ : Value} {list : List Fiber} {f : Fiber} {r : List Fiber} (h0 : VR w0 S v0_ list) (h1 : VR w0 S v1_ f) (hF : spec_l2Put fu list f = some r) :
    Calls Tryz.prog 126 [v0_, v1_].toArray w0 fun e w' => ∃ v, e = .returned v ∧ (Below w0.heap.size w0 w' ∧ ∃ F0, VO w' F0 v r ∧ New w0 w' F0) := by
 obtain ⟨A, c, rfl, hl⟩ := VR_list h0
 obtain rfl := Fiber_open h1
 have H := Mem.start ⟨w0, []⟩ S
 have H := H.pA hl
 refine en Tryz.func126 fun a hf => ?_
 rw [spec_l2Put] at hF
 refine bx hf H fun b' a w hf H => ?_
 refine pz 1 hf fun a hf => ?_
 refine wr (pz 1 hf fun a hf => ?_)
 refine wl_end (then_n (sq ?_))
 obtain ⟨out', hB1, hF⟩ := bs_ hF
 have hf := hf.pn [0, 3, 5]
 have H := H.lk 1 0 0 [0]
 refine loopC (fun (s : Int) (a : Act) (w : World) => match s with | i => Fr a 33 [(0, (.slice A list.length c)), (3, (.pointer (some ⟨b', 0, none⟩))), (5, (.int .i64 i))] ∧ Mem ⟨w0, []⟩ S [⟨b', 63, [(.int .i64 f.A), (.int .i64 f.B), (.int .i64 f.Length), (.int .i64 f.Risk)]⟩] [] [] [(false, MP.val [(.slice A list.length c)] (list : List Fiber))] w) (fun k (s : Int) => spec_l2Put_L1 fu list f k s = some out') (fun s => out' = s) 0 fu hB1 ⟨hf, H⟩ (fun s h => by cases h) ?_ ?_
 ·rintro fk i a w hR1 hI
  replace hR1 : spec_l2Put_L1 fu list f (fk + 1) i = some out' := hR1
  rw [spec_l2Put_L1] at hR1
  obtain ⟨hf, H⟩ := hI
  refine sq (sq ?_)
  obtain ⟨c2, hGc2, hR1⟩ := bs_ hR1
  have fh := hf.prune [0, 3, 5] rfl
  have Hm := H.lk 1 0 0 [0]
  refine midF 18 (.bool c2) fh Hm ?_ fun a w hf H => ?_
  ·refine dw [] 13 fun w hb => ?_
   have H := H.keep hb
   refine zp 0 hf trivial fun a hf => ?_
   refine zp 1 hf trivial fun a hf => ?_
   refine zp 2 hf trivial fun a hf => ?_
   refine zp 3 hf trivial fun a hf => ?_
   refine zp 4 hf trivial fun a hf => ?_
   refine iteB hGc2 (fun hc hGc2 => ?_) fun hc hGc2 => ?_
   ·have hf := hf.lit 10 rfl hc
    refine zg 5 hf trivial fun a hf => ?_
    refine zg 6 hf trivial fun a hf => ?_
    obtain ⟨e, he, hGc2⟩ := bs_ hGc2
    obtain ⟨p, o, cs, hx, hr, H⟩ := pre_iaddr H Tryz.underlying25 TF.sz63 0 rfl he
    refine tPg 7 rfl rfl rfl rfl rfl rfl hf (by kernel_rfl) (fun _ => trivial) (fun w => rq_iaddrE hf rfl rfl rfl hx w) fun a hf => ?_
    obtain rfl := Fiber_cells hr
    refine strT (H.lk 0 0 0 [0]) (fun w H => trivial) fun hS => ?_
    refine tSg 8 [] rfl rfl rfl rfl rfl rfl hf (by kernel_rfl) (by kernel_rfl) hS (fun w H => rq_loadIN hf H TF.la63 0 0 rfl rfl rfl rfl) fun a hf => ?_
    refine strT (H.lk 1 0 0 [0]) (fun w H => H.lk 0 0 0 [0]) fun hS => ?_
    refine tSg 9 [] rfl rfl rfl rfl rfl rfl hf (by kernel_rfl) (by kernel_rfl) hS (fun w H => rq_loadBN hf H TF.la63 0 rfl rfl rfl rfl) fun a hf => ?_
    obtain ⟨y, hy, hGc2⟩ := bs_ hGc2
    refine n1g 10 (by kernel_rfl) rfl rfl rfl rfl hf (oC hf TF.cl69 (spec_l2Before_ok (S := TT) Fiber_mkv Fiber_mkv hy) fun v w a hp hf => ?_)
    obtain ⟨hb, hp⟩ := hp
    obtain rfl := VR_int hp
    have H := H.keep hb
    have hS := H.lk 1 0 0 [0]
    refine aS hS ?_
    refine zg 11 hf hS fun a hf => ?_
    refine zp 12 hf hS fun a hf => ?_
    refine dk ?_
    obtain rfl := oi hGc2
    have hf := hf.pn [18, 0, 3, 5]
    have H := H.lk 1 0 0 [1]
    exact ⟨hf, H⟩
   ·have hf := hf.lit 10 rfl hc
    refine zU 5 hf trivial fun a hf => ?_
    refine zU 6 hf trivial fun a hf => ?_
    refine zU 7 hf trivial fun a hf => ?_
    refine zU 8 hf trivial fun a hf => ?_
    refine zU 9 hf trivial fun a hf => ?_
    refine zU 10 hf trivial fun a hf => ?_
    refine zU 11 hf trivial fun a hf => ?_
    refine zp 12 hf trivial fun a hf => ?_
    refine dk ?_
    obtain rfl := oi hGc2
    have hf := hf.pn [18, 0, 3, 5]
    have H := H.lk 1 0 0 [0]
    exact ⟨hf, H⟩
  refine then_n (ib hR1 hf (fun hc2 hR1 => ?_) fun hc2 hR1 => ?_)
  ·refine wp_skip (then_n (wp_block (reg (pz 3 hf fun a hf => ?_))))
   refine wl_end (blk_n ?_)
   have hf := hf.pn [0, 3, 5]
   have H := H.lk 1 0 0 [0]
   exact then_n ⟨w64 (i + 1), hR1, hf, H⟩
  ·refine wp_exit (then_x (then_x (blk_e (?_))))
   have hf := hf.pn [0, 3, 5]
   have H := H.lk 1 0 0 [0]
   exact ⟨i, (Option.some.inj hR1).symm, hf, H⟩
 rintro a w ⟨out', rfl, hf, H⟩
 refine then_n (sq ?_)
 obtain ⟨l, hl_, hF⟩ := bs_ hF
 obtain ⟨l2, hl2_, hF⟩ := bs_ hF
 obtain ⟨l3, hl3_, hF⟩ := bs_ hF
 obtain ⟨l4, hl4_, hF⟩ := bs_ hF
 obtain ⟨l5, hl5_, hF⟩ := bs_ hF
 refine mid (fun a w => ∃ (A8 : Option Addr) (c7 : Nat) (E3 : Go.TypeId), Fr a 33 [(4, (.slice A8 l5.length c7))] ∧ Mem ⟨w0, []⟩ S [] [⟨.sh true, E3, A8, c7, (l5 : List Fiber)⟩] [] [] w) ?_ ?_
 ·refine dw [] 13 fun w hb => ?_
  have H := H.keep hb
  refine zp 1 hf trivial fun a hf => ?_
  refine zp 2 hf trivial fun a hf => ?_
  obtain ⟨A2, c3, hx2, H⟩ := pre_slice H Tryz.underlying25 TF.sz63 0 (lov := none) (hiv := some (.int .i64 out')) (.inl ⟨rfl, rfl⟩) (.inr rfl) rfl hl_
  refine tP 3 rfl rfl rfl rfl hf (by kernel_rfl) (fun _ => trivial) (fun w => rq_sliceE hf rfl rfl rfl hx2 w) fun a hf => ?_
  refine strT (H.lk 1 0 0 []) (fun w H => trivial) fun hS => ?_
  refine zS 5 [] rfl rfl rfl rfl hf hS (fun w H => rq_loadBN hf H TF.la63 0 rfl rfl rfl rfl) fun a hf => ?_
  refine zp 8 hf hS fun a hf => ?_
  refine zp 9 hf hS fun a hf => ?_
  obtain ⟨A3, c4, hx3, H⟩ := pre_slice H Tryz.underlying25 TF.sz63 1 (lov := some (.int .i64 out')) (hiv := none) (.inr rfl) (.inl ⟨rfl, rfl⟩) rfl hl2_
  refine zP 10 rfl rfl rfl rfl hf hS (fun w => rq_sliceE hf rfl rfl rfl hx3 w) fun a hf => ?_
  refine on2 (i := 0) (j := 6) (bi := [true, true, true, true, false, true, false, false, true, true, true, false, false]) (bj := [false, true, true, true, false, true, true, false, true, true, true, false, false]) (by kernel_rfl) rfl rfl rfl rfl rfl rfl ?_ ?_
  ·refine (bl hf H 63 ([] : List Fiber) [] el0 fun A4 a w hf H => ?_)
   have hS := H.lk 1 0 0 []
   refine aS hS ?_
   refine on2 (i := 4) (j := 6) (bi := [true, true, true, true, true, true, false, false, true, true, true, false, false]) (bj := [true, true, true, true, false, true, true, false, true, true, true, false, false]) (by kernel_rfl) rfl rfl rfl rfl rfl rfl ?_ ?_
   ·have H := H.rowWeak 0 rfl
    refine (op_appI hf H Tryz.underlying25 TF.ai63 rfl (by decide) 0 1 rfl rfl rfl rfl (.inl rfl) hl3_ (by decide) fun E A5 c5 a w hf H => ?_)
    have H := H.rowOwn 0 rfl rfl
    have H := H.rowSh 0 rfl
    have hS := H.lk 1 0 0 []
    refine aS hS ?_
    refine nn 6 rfl (bl hf H 63 ([f] : List Fiber) [(.int .i64 f.A), (.int .i64 f.B), (.int .i64 f.Length), (.int .i64 f.Risk)] (el1 (y := f) ((Fiber_mk (x := f)))) fun A6 a w hf H => ?_)
    have hS := H.lk 1 0 0 []
    refine aS hS ?_
    refine nn 7 rfl (op_appR hf H Tryz.underlying25 TF.ai63 rfl (by decide) 1 0 rfl rfl rfl rfl (.inr rfl) hl4_ (by decide) fun E2 A7 c6 a w hf H => ?_)
    have hS := H.lk 1 0 0 []
    refine aS hS ?_
    have H := H.rowWeak 1 rfl
    refine nn 11 rfl (op_appI hf H Tryz.underlying25 TF.ai63 rfl (by decide) 1 0 rfl rfl rfl rfl (.inl rfl) hl5_ (by decide) fun E3 A8 c7 a w hf H => ?_)
    have H := H.rowOwn 1 rfl rfl
    have H := H.rowSh 1 rfl
    have hS := H.lk 1 0 0 []
    refine aS hS ?_
    refine zp 12 hf hS fun a hf => ?_
    refine dk ?_
    have hf := hf.pn [4]
    have H := H.lk 0 2 0 []
    exact ⟨A8, c7, E3, hf, H⟩
   ·refine (bl hf H 63 ([f] : List Fiber) [(.int .i64 f.A), (.int .i64 f.B), (.int .i64 f.Length), (.int .i64 f.Risk)] (el1 (y := f) ((Fiber_mk (x := f)))) fun A5 a w hf H => ?_)
    have hS := H.lk 1 0 0 []
    refine aS hS ?_
    have H := H.rowWeak 1 rfl
    refine nn 4 rfl (op_appI hf H Tryz.underlying25 TF.ai63 rfl (by decide) 1 1 rfl rfl rfl rfl (.inl rfl) hl3_ (by decide) fun E A6 c5 a w hf H => ?_)
    have H := H.rowOwn 1 rfl rfl
    have H := H.rowSh 1 rfl
    have hS := H.lk 1 0 0 []
    refine aS hS ?_
    refine nn 7 rfl (op_appR hf H Tryz.underlying25 TF.ai63 rfl (by decide) 1 0 rfl rfl rfl rfl (.inr rfl) hl4_ (by decide) fun E2 A7 c6 a w hf H => ?_)
    have hS := H.lk 1 0 0 []
    refine aS hS ?_
    have H := H.rowWeak 1 rfl
    refine nn 11 rfl (op_appI hf H Tryz.underlying25 TF.ai63 rfl (by decide) 1 0 rfl rfl rfl rfl (.inl rfl) hl5_ (by decide) fun E3 A8 c7 a w hf H => ?_)
    have H := H.rowOwn 1 rfl rfl
    have H := H.rowSh 1 rfl
    have hS := H.lk 1 0 0 []
    refine aS hS ?_
    refine zp 12 hf hS fun a hf => ?_
    refine dk ?_
    have hf := hf.pn [4]
    have H := H.lk 0 2 0 []
    exact ⟨A8, c7, E3, hf, H⟩
  ·refine (bl hf H 63 ([f] : List Fiber) [(.int .i64 f.A), (.int .i64 f.B), (.int .i64 f.Length), (.int .i64 f.Risk)] (el1 (y := f) ((Fiber_mk (x := f)))) fun A4 a w hf H => ?_)
   have hS := H.lk 1 0 0 []
   refine aS hS ?_
   refine nn 0 rfl (bl hf H 63 ([] : List Fiber) [] el0 fun A5 a w hf H => ?_)
   have hS := H.lk 1 0 0 []
   refine aS hS ?_
   have H := H.rowWeak 0 rfl
   refine nn 4 rfl (op_appI hf H Tryz.underlying25 TF.ai63 rfl (by decide) 0 1 rfl rfl rfl rfl (.inl rfl) hl3_ (by decide) fun E A6 c5 a w hf H => ?_)
   have H := H.rowOwn 0 rfl rfl
   have H := H.rowSh 0 rfl
   have hS := H.lk 1 0 0 []
   refine aS hS ?_
   refine nn 7 rfl (op_appR hf H Tryz.underlying25 TF.ai63 rfl (by decide) 0 1 rfl rfl rfl rfl (.inr rfl) hl4_ (by decide) fun E2 A7 c6 a w hf H => ?_)
   have hS := H.lk 1 0 0 []
   refine aS hS ?_
   have H := H.rowWeak 0 rfl
   refine nn 11 rfl (op_appI hf H Tryz.underlying25 TF.ai63 rfl (by decide) 0 0 rfl rfl rfl rfl (.inl rfl) hl5_ (by decide) fun E3 A8 c7 a w hf H => ?_)
   have H := H.rowOwn 0 rfl rfl
   have H := H.rowSh 0 rfl
   have hS := H.lk 1 0 0 []
   refine aS hS ?_
   refine zp 12 hf hS fun a hf => ?_
   refine dk ?_
   have hf := hf.pn [4]
   have H := H.lk 0 1 0 []
   exact ⟨A8, c7, E3, hf, H⟩
 rintro a w ⟨A8, c7, E3, hf, H⟩
 refine then_n (wp_ret (?_))
 have H := H.rowOwn 0 rfl rfl
 obtain ⟨F, H⟩ := H.freezeOwn 0 rfl
 have H := H.lend 0 rfl
 obtain rfl := oi hF
 refine rT hf ?_
 have hN := H.ends1
 exact ⟨_, rfl, H.bel, F, (mko_list (H.ownAt 0 rfl)), by first | exact hN | simpa using hN⟩
theorem spec_l1Cur_network_ok {S : Nat → Prop} {b0 : Nat} {cs0 : List Value} {c : L1CurP} {r : Network × L1CurP} (hp0 : w0.heap[b0]? = some (.cells cs0.toArray 87 (0, 0))) (hr0 : GoTy.rep w0 S cs0 c) (hS0 : ¬ S b0) (hF : spec_l1Cur_network fu c = some r) :
    Calls Tryz.prog 92 [(.pointer (some ⟨b0, 0, none⟩))].toArray w0 fun e w' => ∃ v, e = .returned v ∧ (Chg w0 w' [b0] ∧ ∃ cs', w'.heap[b0]? = some (.cells cs'.toArray 87 (0, 0)) ∧ GoTy.rep w' (St ⟨w0, [b0]⟩ S [⟨b0, 87, cs'⟩] [] [] false) cs' r.2 ∧ (cs'[0]? = cs0[0]? ∧ r.2.code = c.code) ∧ ∃ F0, VO w' F0 v r.1 ∧ New w0 w' F0) := by
 obtain ⟨A, c2, rfl, hl⟩ := L1CurP_cells hr0
 have H := Mem.startB S hp0
 have H := H.pB hS0 hl
 refine en Tryz.func92 fun a hf => ?_
 rw [spec_l1Cur_network] at hF
 refine sq (reg (aL hf H TF.zv27 fun b2 a w hf H => ?_))
 refine wr (pz 1 hf fun a hf => ?_)
 obtain ⟨y, hy, hF⟩ := bs_ hF
 refine oc hf TF.cl75 (spec_l1Cur_pick_ok (S := NB b0) (H.boxAt 1 rfl) ((L1CurP_mk (x := c) (H.nb 1 rfl (H.get 0 rfl)))) (fun h => h rfl) mk_int hy) fun v w a hp2 hf => ?_
 obtain ⟨hch, cs2, hbx, hr2, ⟨hx, hx2⟩, hs⟩ := hp2
 obtain rfl := VR_int hs
 obtain ⟨A2, c3, rfl, hl2⟩ := L1CurP_cells hr2
 obtain ⟨rfl, rfl⟩ := fx_slice hx rfl rfl
 have H := H.wroteBox 1 rfl hch hbx
 have H := H.pX 0 rfl hx2
 refine pz 2 hf fun a hf => ?_
 refine wr (wl0 rfl (bl hf H 9 ([(⟨#[97]⟩ : ByteArray), (⟨#[98]⟩ : ByteArray), (⟨#[99]⟩ : ByteArray), (⟨#[100]⟩ : ByteArray), (⟨#[101]⟩ : ByteArray), (⟨#[102]⟩ : ByteArray)] : List ByteArray) [(.string (⟨#[97]⟩ : ByteArray)), (.string (⟨#[98]⟩ : ByteArray)), (.string (⟨#[99]⟩ : ByteArray)), (.string (⟨#[100]⟩ : ByteArray)), (.string (⟨#[101]⟩ : ByteArray)), (.string (⟨#[102]⟩ : ByteArray))] (elL [([(.string (⟨#[97]⟩ : ByteArray))], ((⟨#[97]⟩ : ByteArray) : ByteArray)), ([(.string (⟨#[98]⟩ : ByteArray))], ((⟨#[98]⟩ : ByteArray) : ByteArray)), ([(.string (⟨#[99]⟩ : ByteArray))], ((⟨#[99]⟩ : ByteArray) : ByteArray)), ([(.string (⟨#[100]⟩ : ByteArray))], ((⟨#[100]⟩ : ByteArray) : ByteArray)), ([(.string (⟨#[101]⟩ : ByteArray))], ((⟨#[101]⟩ : ByteArray) : ByteArray)), ([(.string (⟨#[102]⟩ : ByteArray))], ((⟨#[102]⟩ : ByteArray) : ByteArray))] (al1 (x := ((⟨#[97]⟩ : ByteArray) : ByteArray)) (rfl) (al1 (x := ((⟨#[98]⟩ : ByteArray) : ByteArray)) (rfl) (al1 (x := ((⟨#[99]⟩ : ByteArray) : ByteArray)) (rfl) (al1 (x := ((⟨#[100]⟩ : ByteArray) : ByteArray)) (rfl) (al1 (x := ((⟨#[101]⟩ : ByteArray) : ByteArray)) (rfl) (al1 (x := ((⟨#[102]⟩ : ByteArray) : ByteArray)) (rfl) al0))))))) fun A3 a w hf H => ?_))
 refine pz 1 hf fun a hf => ?_
 obtain ⟨l, hl_, hF⟩ := bs_ hF
 refine wl0 rfl (op_sliceR hf H Tryz.underlying24 TF.sz9 0 rfl rfl rfl (.inl rfl) (.inr rfl) rfl hl_ (by decide) fun a hf H => ?_)
 refine oq hf (rq_build hf (cs := [(.slice A3 l.length 6), (.slice none 0 0)]) rfl (fun w => by kernel_rfl)) fun a hf => ?_
 refine aL hf H TF.zv27 fun b3 a w hf H => ?_
 refine sB 0 hf H TF.sz27 fun w H => ?_
 refine we (sqz (pz 1 hf fun a hf => ?_))
 refine wl_end (then_n ?_)
 have H := H.ownNil (Fiber)
 have H := H.lend 0 rfl
 obtain ⟨out', hB1, hF⟩ := bs_ hF
 have hf := hf.pn [0, 2, 3, 4, 5]
 have H := H.lk 7 1 1 [0,1]
 refine loopC (fun (s : Int × List By × Int × U64 × List Fiber) (a : Act) (w : World) => match s with | (i, m, m2, m3, m4) => ∃ (A4 : Option Addr) (c4 : Nat) (F : List Nat), m = c.code ∧ Fr a 85 [(0, (.pointer (some ⟨b0, 0, none⟩))), (2, (.pointer (some ⟨b2, 0, none⟩))), (3, (.int .i64 (w64 (2 + y.1)))), (4, (.pointer (some ⟨b3, 0, none⟩))), (5, (.int .i64 i))] ∧ Mem ⟨w0, [b0]⟩ S [⟨b3, 27, [(.slice A3 l.length 6), (.slice A4 m4.length c4)]⟩, ⟨b2, 27, [(.slice none 0 0), (.slice none 0 0)]⟩, ⟨b0, 87, [(.slice A m.length c2), (.int .i64 m2), (.int .u64 m3.n)]⟩] [⟨.sh true, 9, A3, 6, (l : List ByteArray)⟩] [⟨F, MP.own F [(.slice A4 m4.length c4)] (m4 : List Fiber)⟩] [(true, MP.val [(.slice A4 m4.length c4)] (m4 : List Fiber)), (false, MP.val [(.slice A m.length c2)] (m : List By))] w) (fun k (s : Int × List By × Int × U64 × List Fiber) => spec_l1Cur_network_L1 fu y k s.1 s.2.1 s.2.2.1 s.2.2.2.1 s.2.2.2.2 = some out') (fun s => out' = s) (0, y.2.code, y.2.at_, y.2.seed, []) fu hB1 ⟨none, 0, [], hx2, hf, H⟩ (fun s h => by cases h) ?_ ?_
 ·rintro fk ⟨i, m, m2, m3, m4⟩ a w hR1 hI
  replace hR1 : spec_l1Cur_network_L1 fu y (fk + 1) i m m2 m3 m4 = some out' := hR1
  rw [spec_l1Cur_network_L1] at hR1
  obtain ⟨A4, c4, F, hsm, hf, H⟩ := hI
  refine sq (sqz (pz 3 hf fun a hf => ?_))
  refine wl_end (then_n (ib hR1 hf (fun hc hR1 => ?_) fun hc hR1 => ?_))
  ·refine ws (pz 3 hf fun a hf => ?_)
   obtain ⟨q, hq, hR1⟩ := bs_ hR1
   refine oq hf (rq_rem hf rfl rfl hq) fun a hf => ?_
   refine pz 1 hf fun a hf => ?_
   refine we (sqz (pz 4 hf fun a hf => ?_))
   refine iteB hR1 (fun hc2 hR1 => ?_) fun hc2 hR1 => ?_
   ·have hf := hf.lit 29 rfl hc2
    refine pz 3 hf fun a hf => ?_
    have hf := hf.pn [0, 2, 3, 4, 5, 6, 32]
    refine wl_end (then_n (cd_t hf rfl rfl (wp_exit (then_x (blk_e (?_))))))
    refine then_n (reg (pz 3 hf fun a hf => ?_))
    refine wl_end ?_
    have hf := hf.pn [0, 2, 3, 4, 5]
    have H := H.lk 7 1 1 [0,1]
    exact then_n ⟨(w64 (i + 1), m, m2, m3, m4), hR1, A4, c4, F, hsm, hf, H⟩
   ·have hf := hf.lit 29 rfl hc2
    refine pz 1 hf fun a hf => ?_
    obtain ⟨y2, hy2, hR1⟩ := bs_ hR1
    refine wlg hf rfl rfl rfl (oC hf TF.cl51 (spec_l1Cur_one_ok (S := NB b0) (H.boxAt 2 rfl) ((L1CurP_mk (x := ({ code := m, at_ := m2, seed := m3 } : L1CurP)) (H.nb 2 rfl (H.get 1 rfl)))) (fun h => h rfl) mk_int hy2) fun v2 w a hp3 hf => ?_)
    obtain ⟨hch2, cs3, hbx2, hr3, ⟨hx3, hx4⟩, hs2⟩ := hp3
    obtain rfl := VR_bool hs2
    obtain ⟨A5, c5, rfl, hl3⟩ := L1CurP_cells hr3
    obtain ⟨rfl, rfl⟩ := fx_slice hx3 rfl rfl
    have hx5 := hx4.trans hsm
    have H := H.wroteBox 2 rfl hch2 hbx2
    have H := H.pX 1 rfl hx4
    refine pz 1 hf fun a hf => ?_
    refine wl_end (then_n (ib hR1 hf (fun hc3 hR1 => ?_) fun hc3 hR1 => ?_))
    ·refine wp_exit (then_x (blk_e (?_)))
     refine then_n (reg (pz 3 hf fun a hf => ?_))
     have hf := hf.pn [0, 2, 3, 4, 5, 30, 31]
     refine wl_end ?_
     have hf := hf.pn [0, 2, 3, 4, 5]
     have H := H.lk 7 1 1 [1,0]
     exact then_n ⟨(w64 (i + 1), y2.2.code, y2.2.at_, y2.2.seed, m4), hR1, A4, c4, F, hx5, hf, H⟩
    ·refine wp_skip (then_n ?_)
     obtain ⟨y3, hy3, hR1⟩ := bs_ hR1
     obtain ⟨y4, hy4, hR1⟩ := bs_ hR1
     obtain ⟨y5, hy5, hR1⟩ := bs_ hR1
     obtain ⟨y6, hy6, hR1⟩ := bs_ hR1
     obtain ⟨y7, hy7, hR1⟩ := bs_ hR1
     refine mid (fun a w => ∃ (A9 : Option Addr) (c8 : Nat) (F2 : List Nat), y6.2.code = c.code ∧ Fr a 85 [(0, (.pointer (some ⟨b0, 0, none⟩))), (2, (.pointer (some ⟨b2, 0, none⟩))), (3, (.int .i64 (w64 (2 + y.1)))), (4, (.pointer (some ⟨b3, 0, none⟩))), (5, (.int .i64 i)), (30, (.pointer (some ⟨b0, 0, none⟩))), (31, (.bool y2.1))] ∧ Mem ⟨w0, [b0]⟩ S [⟨b3, 27, [(.slice A3 l.length 6), (.slice A9 y7.length c8)]⟩, ⟨b2, 27, [(.slice none 0 0), (.slice none 0 0)]⟩, ⟨b0, 87, [(.slice A y6.2.code.length c2), (.int .i64 y6.2.at_), (.int .u64 y6.2.seed.n)]⟩] [⟨.sh true, 9, A3, 6, (l : List ByteArray)⟩] [⟨F2, MP.own F2 [(.slice A9 y7.length c8)] (y7 : List Fiber)⟩] [(true, MP.val [(.slice A9 y7.length c8)] (y7 : List Fiber)), (false, MP.val [(.slice A y6.2.code.length c2)] (y6.2.code : List By))] w) ?_ ?_
     ·refine dw [18] 19 fun w hb => ?_
      have H := H.keep hb
      refine zp 0 hf trivial fun a hf => ?_
      refine strT (H.lk 1 0 0 []) (fun w H => trivial) fun hS => ?_
      refine zS 1 [1, 16, 17, 18] rfl rfl rfl rfl hf hS (fun w H => rq_loadB hf H TF.ls25 0 rfl rfl rfl) fun a hf => ?_
      refine zp 2 hf hS fun a hf => ?_
      refine zp 3 hf hS fun a hf => ?_
      refine zp 5 hf hS fun a hf => ?_
      refine zp 6 hf hS fun a hf => ?_
      refine zp 8 hf hS fun a hf => ?_
      refine zp 12 hf hS fun a hf => ?_
      refine on2 (i := 4) (j := 13) (bi := [true, true, true, true, true, true, true, false, true, false, false, false, true, false, false, false, false, false, false]) (bj := [true, true, true, true, false, true, true, false, true, false, false, false, true, true, false, false, false, false, false]) (by kernel_rfl) rfl rfl rfl rfl rfl rfl ?_ ?_
      ·refine (oC hf TF.cl127 (spec_l1Least_ok (S := TT) mk_int mk_int hy3) fun v3 w a hp4 hf => ?_)
       obtain ⟨hb, hp4⟩ := hp4
       obtain rfl := VR_int hp4
       have H := H.keep hb
       have hS := H.lk 1 0 0 []
       refine aS hS ?_
       refine on2 (i := 7) (j := 13) (bi := [true, true, true, true, true, true, true, true, true, false, false, false, true, false, false, false, false, false, false]) (bj := [true, true, true, true, true, true, true, false, true, false, false, false, true, true, false, false, false, false, false]) (by kernel_rfl) rfl rfl rfl rfl rfl rfl ?_ ?_
       ·refine (oC hf TF.cl128 (spec_l1Most_ok (S := TT) mk_int mk_int hy4) fun v4 w a hp5 hf => ?_)
        obtain ⟨hb2, hp5⟩ := hp5
        obtain rfl := VR_int hp5
        have H := H.keep hb2
        have hS := H.lk 1 0 0 []
        refine aS hS ?_
        refine on2 (i := 9) (j := 13) (bi := [true, true, true, true, true, true, true, true, true, true, false, false, true, false, false, false, false, false, false]) (bj := [true, true, true, true, true, true, true, true, true, false, false, false, true, true, false, false, false, false, false]) (by kernel_rfl) rfl rfl rfl rfl rfl rfl ?_ ?_
        ·refine (oC hf TF.cl75 (spec_l1Cur_pick_ok (S := NB b0) (H.boxAt 2 rfl) ((L1CurP_mk (x := y2.2) (H.nb 2 rfl (H.get 0 rfl)))) (fun h => h rfl) mk_int hy5) fun v5 w a hp6 hf => ?_)
         obtain ⟨hch3, cs4, hbx3, hr4, ⟨hx6, hx7⟩, hs3⟩ := hp6
         obtain rfl := VR_int hs3
         obtain ⟨A6, c6, rfl, hl4⟩ := L1CurP_cells hr4
         obtain ⟨rfl, rfl⟩ := fx_slice hx6 rfl rfl
         have hx8 := hx7.trans hx5
         have H := H.wroteBox 2 rfl hch3 hbx3
         have H := H.pX 0 rfl hx7
         have hS := H.lk 1 0 0 []
         refine aS hS ?_
         refine zp 10 hf hS fun a hf => ?_
         refine zp 11 hf hS fun a hf => ?_
         refine nn 13 rfl (bl hf H 3 ([0, 0, 0, 1, 2] : List Int) [(.int .i64 0), (.int .i64 0), (.int .i64 0), (.int .i64 1), (.int .i64 2)] (elI [0, 0, 0, 1, 2]) fun A7 a w hf H => ?_)
         have hS := H.lk 1 0 0 []
         refine aS hS ?_
         have H := H.freeze 0 rfl
         refine nn 14 rfl (oC hf TF.cl94 (spec_l1Cur_among_ok (S := NB b0) (H.boxAt 2 rfl) ((L1CurP_mk (x := y5.2) (H.nb 2 rfl (H.get 1 rfl)))) (fun h => h rfl) (mk_list (H.nb 2 rfl (H.get 0 rfl))) hy6) fun v6 w a hp7 hf => ?_)
         obtain ⟨hch4, cs5, hbx4, hr5, ⟨hx9, hx10⟩, hs4⟩ := hp7
         obtain rfl := VR_int hs4
         obtain ⟨A8, c7, rfl, hl5⟩ := L1CurP_cells hr5
         obtain ⟨rfl, rfl⟩ := fx_slice hx9 rfl rfl
         have hx11 := hx10.trans hx8
         have H := H.wroteBox 2 rfl hch4 hbx4
         have H := H.pX 1 rfl hx10
         have hS := H.lk 1 0 0 []
         refine aS hS ?_
         refine zP 15 rfl rfl rfl rfl hf hS (fun w => rq_build hf (cs := [(.int .i64 y3), (.int .i64 y4), (.int .i64 (w64 (100 * (w64 (1 + y5.1))))), (.int .i64 y6.1)]) rfl (fun w => by kernel_rfl)) fun a hf => ?_
         refine nn 16 rfl (oC hf TF.cl126 (spec_l2Put_ok (S := TT) (mk_list (H.rt 4 rfl)) Fiber_mkv hy7) fun v7 w a hp8 hf => ?_)
         obtain ⟨hb3, F2, hp9, hN⟩ := hp8
         obtain ⟨A9, c8, rfl, hl6⟩ := VO_list hp9
         have H := H.aO1 hb3 hN hl6
         have H := H.lend 0 rfl
         have hS := H.lk 1 0 0 []
         refine aS hS ?_
         refine zp 17 hf hS fun a hf => ?_
         refine nn 18 rfl (op_storeB hf H 0 TF.sz25 rfl rfl rfl rfl rfl rfl (nle rfl) fun w H => ?_)
         refine ⟨fun h => absurd h (by decide), ?_⟩
         refine dk ?_
         have hf := hf.pn [0, 2, 3, 4, 5, 30, 31]
         have H := H.lk 7 1 1 [0,1]
         exact ⟨A9, c8, F2, hx11, hf, H⟩
        ·refine (bl hf H 3 ([0, 0, 0, 1, 2] : List Int) [(.int .i64 0), (.int .i64 0), (.int .i64 0), (.int .i64 1), (.int .i64 2)] (elI [0, 0, 0, 1, 2]) fun A6 a w hf H => ?_)
         have hS := H.lk 1 0 0 []
         refine aS hS ?_
         refine nn 9 rfl (oC hf TF.cl75 (spec_l1Cur_pick_ok (S := NB b0) (H.boxAt 2 rfl) ((L1CurP_mk (x := y2.2) (H.nb 2 rfl (H.get 0 rfl)))) (fun h => h rfl) mk_int hy5) fun v5 w a hp6 hf => ?_)
         obtain ⟨hch3, cs4, hbx3, hr4, ⟨hx6, hx7⟩, hs3⟩ := hp6
         obtain rfl := VR_int hs3
         obtain ⟨A7, c6, rfl, hl4⟩ := L1CurP_cells hr4
         obtain ⟨rfl, rfl⟩ := fx_slice hx6 rfl rfl
         have hx8 := hx7.trans hx5
         have H := H.wroteBox 2 rfl hch3 hbx3
         have H := H.pX 0 rfl hx7
         have hS := H.lk 1 0 0 []
         refine aS hS ?_
         refine zp 10 hf hS fun a hf => ?_
         refine zp 11 hf hS fun a hf => ?_
         have H := H.freeze 0 rfl
         refine nn 14 rfl (oC hf TF.cl94 (spec_l1Cur_among_ok (S := NB b0) (H.boxAt 2 rfl) ((L1CurP_mk (x := y5.2) (H.nb 2 rfl (H.get 1 rfl)))) (fun h => h rfl) (mk_list (H.nb 2 rfl (H.get 0 rfl))) hy6) fun v6 w a hp7 hf => ?_)
         obtain ⟨hch4, cs5, hbx4, hr5, ⟨hx9, hx10⟩, hs4⟩ := hp7
         obtain rfl := VR_int hs4
         obtain ⟨A8, c7, rfl, hl5⟩ := L1CurP_cells hr5
         obtain ⟨rfl, rfl⟩ := fx_slice hx9 rfl rfl
         have hx11 := hx10.trans hx8
         have H := H.wroteBox 2 rfl hch4 hbx4
         have H := H.pX 1 rfl hx10
         have hS := H.lk 1 0 0 []
         refine aS hS ?_
         refine zP 15 rfl rfl rfl rfl hf hS (fun w => rq_build hf (cs := [(.int .i64 y3), (.int .i64 y4), (.int .i64 (w64 (100 * (w64 (1 + y5.1))))), (.int .i64 y6.1)]) rfl (fun w => by kernel_rfl)) fun a hf => ?_
         refine nn 16 rfl (oC hf TF.cl126 (spec_l2Put_ok (S := TT) (mk_list (H.rt 4 rfl)) Fiber_mkv hy7) fun v7 w a hp8 hf => ?_)
         obtain ⟨hb3, F2, hp9, hN⟩ := hp8
         obtain ⟨A9, c8, rfl, hl6⟩ := VO_list hp9
         have H := H.aO1 hb3 hN hl6
         have H := H.lend 0 rfl
         have hS := H.lk 1 0 0 []
         refine aS hS ?_
         refine zp 17 hf hS fun a hf => ?_
         refine nn 18 rfl (op_storeB hf H 0 TF.sz25 rfl rfl rfl rfl rfl rfl (nle rfl) fun w H => ?_)
         refine ⟨fun h => absurd h (by decide), ?_⟩
         refine dk ?_
         have hf := hf.pn [0, 2, 3, 4, 5, 30, 31]
         have H := H.lk 7 1 1 [0,1]
         exact ⟨A9, c8, F2, hx11, hf, H⟩
       ·refine (bl hf H 3 ([0, 0, 0, 1, 2] : List Int) [(.int .i64 0), (.int .i64 0), (.int .i64 0), (.int .i64 1), (.int .i64 2)] (elI [0, 0, 0, 1, 2]) fun A6 a w hf H => ?_)
        have hS := H.lk 1 0 0 []
        refine aS hS ?_
        refine nn 7 rfl (oC hf TF.cl128 (spec_l1Most_ok (S := TT) mk_int mk_int hy4) fun v4 w a hp5 hf => ?_)
        obtain ⟨hb2, hp5⟩ := hp5
        obtain rfl := VR_int hp5
        have H := H.keep hb2
        have hS := H.lk 1 0 0 []
        refine aS hS ?_
        refine nn 9 rfl (oC hf TF.cl75 (spec_l1Cur_pick_ok (S := NB b0) (H.boxAt 2 rfl) ((L1CurP_mk (x := y2.2) (H.nb 2 rfl (H.get 0 rfl)))) (fun h => h rfl) mk_int hy5) fun v5 w a hp6 hf => ?_)
        obtain ⟨hch3, cs4, hbx3, hr4, ⟨hx6, hx7⟩, hs3⟩ := hp6
        obtain rfl := VR_int hs3
        obtain ⟨A7, c6, rfl, hl4⟩ := L1CurP_cells hr4
        obtain ⟨rfl, rfl⟩ := fx_slice hx6 rfl rfl
        have hx8 := hx7.trans hx5
        have H := H.wroteBox 2 rfl hch3 hbx3
        have H := H.pX 0 rfl hx7
        have hS := H.lk 1 0 0 []
        refine aS hS ?_
        refine zp 10 hf hS fun a hf => ?_
        refine zp 11 hf hS fun a hf => ?_
        have H := H.freeze 0 rfl
        refine nn 14 rfl (oC hf TF.cl94 (spec_l1Cur_among_ok (S := NB b0) (H.boxAt 2 rfl) ((L1CurP_mk (x := y5.2) (H.nb 2 rfl (H.get 1 rfl)))) (fun h => h rfl) (mk_list (H.nb 2 rfl (H.get 0 rfl))) hy6) fun v6 w a hp7 hf => ?_)
        obtain ⟨hch4, cs5, hbx4, hr5, ⟨hx9, hx10⟩, hs4⟩ := hp7
        obtain rfl := VR_int hs4
        obtain ⟨A8, c7, rfl, hl5⟩ := L1CurP_cells hr5
        obtain ⟨rfl, rfl⟩ := fx_slice hx9 rfl rfl
        have hx11 := hx10.trans hx8
        have H := H.wroteBox 2 rfl hch4 hbx4
        have H := H.pX 1 rfl hx10
        have hS := H.lk 1 0 0 []
        refine aS hS ?_
        refine zP 15 rfl rfl rfl rfl hf hS (fun w => rq_build hf (cs := [(.int .i64 y3), (.int .i64 y4), (.int .i64 (w64 (100 * (w64 (1 + y5.1))))), (.int .i64 y6.1)]) rfl (fun w => by kernel_rfl)) fun a hf => ?_
        refine nn 16 rfl (oC hf TF.cl126 (spec_l2Put_ok (S := TT) (mk_list (H.rt 4 rfl)) Fiber_mkv hy7) fun v7 w a hp8 hf => ?_)
        obtain ⟨hb3, F2, hp9, hN⟩ := hp8
        obtain ⟨A9, c8, rfl, hl6⟩ := VO_list hp9
        have H := H.aO1 hb3 hN hl6
        have H := H.lend 0 rfl
        have hS := H.lk 1 0 0 []
        refine aS hS ?_
        refine zp 17 hf hS fun a hf => ?_
        refine nn 18 rfl (op_storeB hf H 0 TF.sz25 rfl rfl rfl rfl rfl rfl (nle rfl) fun w H => ?_)
        refine ⟨fun h => absurd h (by decide), ?_⟩
        refine dk ?_
        have hf := hf.pn [0, 2, 3, 4, 5, 30, 31]
        have H := H.lk 7 1 1 [0,1]
        exact ⟨A9, c8, F2, hx11, hf, H⟩
      ·refine (bl hf H 3 ([0, 0, 0, 1, 2] : List Int) [(.int .i64 0), (.int .i64 0), (.int .i64 0), (.int .i64 1), (.int .i64 2)] (elI [0, 0, 0, 1, 2]) fun A6 a w hf H => ?_)
       have hS := H.lk 1 0 0 []
       refine aS hS ?_
       refine nn 4 rfl (oC hf TF.cl127 (spec_l1Least_ok (S := TT) mk_int mk_int hy3) fun v3 w a hp4 hf => ?_)
       obtain ⟨hb, hp4⟩ := hp4
       obtain rfl := VR_int hp4
       have H := H.keep hb
       have hS := H.lk 1 0 0 []
       refine aS hS ?_
       refine nn 7 rfl (oC hf TF.cl128 (spec_l1Most_ok (S := TT) mk_int mk_int hy4) fun v4 w a hp5 hf => ?_)
       obtain ⟨hb2, hp5⟩ := hp5
       obtain rfl := VR_int hp5
       have H := H.keep hb2
       have hS := H.lk 1 0 0 []
       refine aS hS ?_
       refine nn 9 rfl (oC hf TF.cl75 (spec_l1Cur_pick_ok (S := NB b0) (H.boxAt 2 rfl) ((L1CurP_mk (x := y2.2) (H.nb 2 rfl (H.get 0 rfl)))) (fun h => h rfl) mk_int hy5) fun v5 w a hp6 hf => ?_)
       obtain ⟨hch3, cs4, hbx3, hr4, ⟨hx6, hx7⟩, hs3⟩ := hp6
       obtain rfl := VR_int hs3
       obtain ⟨A7, c6, rfl, hl4⟩ := L1CurP_cells hr4
       obtain ⟨rfl, rfl⟩ := fx_slice hx6 rfl rfl
       have hx8 := hx7.trans hx5
       have H := H.wroteBox 2 rfl hch3 hbx3
       have H := H.pX 0 rfl hx7
       have hS := H.lk 1 0 0 []
       refine aS hS ?_
       refine zp 10 hf hS fun a hf => ?_
       refine zp 11 hf hS fun a hf => ?_
       have H := H.freeze 0 rfl
       refine nn 14 rfl (oC hf TF.cl94 (spec_l1Cur_among_ok (S := NB b0) (H.boxAt 2 rfl) ((L1CurP_mk (x := y5.2) (H.nb 2 rfl (H.get 1 rfl)))) (fun h => h rfl) (mk_list (H.nb 2 rfl (H.get 0 rfl))) hy6) fun v6 w a hp7 hf => ?_)
       obtain ⟨hch4, cs5, hbx4, hr5, ⟨hx9, hx10⟩, hs4⟩ := hp7
       obtain rfl := VR_int hs4
       obtain ⟨A8, c7, rfl, hl5⟩ := L1CurP_cells hr5
       obtain ⟨rfl, rfl⟩ := fx_slice hx9 rfl rfl
       have hx11 := hx10.trans hx8
       have H := H.wroteBox 2 rfl hch4 hbx4
       have H := H.pX 1 rfl hx10
       have hS := H.lk 1 0 0 []
       refine aS hS ?_
       refine zP 15 rfl rfl rfl rfl hf hS (fun w => rq_build hf (cs := [(.int .i64 y3), (.int .i64 y4), (.int .i64 (w64 (100 * (w64 (1 + y5.1))))), (.int .i64 y6.1)]) rfl (fun w => by kernel_rfl)) fun a hf => ?_
       refine nn 16 rfl (oC hf TF.cl126 (spec_l2Put_ok (S := TT) (mk_list (H.rt 4 rfl)) Fiber_mkv hy7) fun v7 w a hp8 hf => ?_)
       obtain ⟨hb3, F2, hp9, hN⟩ := hp8
       obtain ⟨A9, c8, rfl, hl6⟩ := VO_list hp9
       have H := H.aO1 hb3 hN hl6
       have H := H.lend 0 rfl
       have hS := H.lk 1 0 0 []
       refine aS hS ?_
       refine zp 17 hf hS fun a hf => ?_
       refine nn 18 rfl (op_storeB hf H 0 TF.sz25 rfl rfl rfl rfl rfl rfl (nle rfl) fun w H => ?_)
       refine ⟨fun h => absurd h (by decide), ?_⟩
       refine dk ?_
       have hf := hf.pn [0, 2, 3, 4, 5, 30, 31]
       have H := H.lk 7 1 1 [0,1]
       exact ⟨A9, c8, F2, hx11, hf, H⟩
     rintro a w ⟨A9, c8, F2, hx11, hf, H⟩
     refine blk_n (then_n (reg (pz 3 hf fun a hf => ?_)))
     refine wl_end ?_
     have hf := hf.pn [0, 2, 3, 4, 5]
     have H := H.lk 7 1 1 [0,1]
     exact then_n ⟨(w64 (i + 1), y6.2.code, y6.2.at_, y6.2.seed, y7), hR1, A9, c8, F2, hx11, hf, H⟩
  ·refine wp_exit (then_x (then_x (blk_e (?_))))
   have hf := hf.pn [0, 2, 3, 4, 5]
   have H := H.lk 7 1 1 [0,1]
   exact ⟨(i, m, m2, m3, m4), (Option.some.inj hR1).symm, A4, c4, F, hsm, hf, H⟩
 rintro a w ⟨⟨i2, m5, m6, m7, m8⟩, rfl, A10, c9, F4, hsm, hf, H⟩
 try dsimp only at hsm
 try dsimp only at hF
 refine then_n (sq (sqz (pz 1 hf fun a hf => ?_)))
 obtain ⟨y8, hy8, hF⟩ := bs_ hF
 refine oc hf TF.cl75 (spec_l1Cur_pick_ok (S := NB b0) (H.boxAt 2 rfl) ((L1CurP_mk (x := ({ code := m5, at_ := m6, seed := m7 } : L1CurP)) (H.nb 2 rfl (H.get 1 rfl)))) (fun h => h rfl) mk_int hy8) fun v8 w a hp10 hf => ?_
 obtain ⟨hch5, cs6, hbx5, hr6, ⟨hx12, hx13⟩, hs5⟩ := hp10
 obtain rfl := VR_int hs5
 obtain ⟨A11, c10, rfl, hl7⟩ := L1CurP_cells hr6
 obtain ⟨rfl, rfl⟩ := fx_slice hx12 rfl rfl
 have hx14 := hx13.trans hsm
 have H := H.wroteBox 2 rfl hch5 hbx5
 have H := H.pX 1 rfl hx13
 refine pz 1 hf fun a hf => ?_
 refine wl_end (then_n ?_)
 obtain ⟨out2, hB1, hF⟩ := bs_ hF
 have hf := hf.pn [0, 2, 3, 4, 7]
 have H := H.lk 7 1 1 [0,1]
 refine loopC (fun (s : Int × List Fiber × List By × Int × U64) (a : Act) (w : World) => match s with | (m9, m10, m11, m12, m13) => ∃ (A12 : Option Addr) (c11 : Nat) (F5 : List Nat), m11 = c.code ∧ Fr a 85 [(0, (.pointer (some ⟨b0, 0, none⟩))), (2, (.pointer (some ⟨b2, 0, none⟩))), (3, (.int .i64 (w64 (2 + y.1)))), (4, (.pointer (some ⟨b3, 0, none⟩))), (7, (.int .i64 m9))] ∧ Mem ⟨w0, [b0]⟩ S [⟨b3, 27, [(.slice A3 l.length 6), (.slice A12 m10.length c11)]⟩, ⟨b2, 27, [(.slice none 0 0), (.slice none 0 0)]⟩, ⟨b0, 87, [(.slice A m11.length c2), (.int .i64 m12), (.int .u64 m13.n)]⟩] [⟨.sh true, 9, A3, 6, (l : List ByteArray)⟩] [⟨F5, MP.own F5 [(.slice A12 m10.length c11)] (m10 : List Fiber)⟩] [(false, MP.val [(.slice A m11.length c2)] (m11 : List By)), (true, MP.val [(.slice A12 m10.length c11)] (m10 : List Fiber))] w) (fun k (s : Int × List Fiber × List By × Int × U64) => spec_l1Cur_network_L2 fu y k s.1 s.2.1 s.2.2.1 s.2.2.2.1 s.2.2.2.2 = some out2) (fun s => out2 = s) (y8.1, m8, y8.2.code, y8.2.at_, y8.2.seed) fu hB1 ⟨A10, c9, F4, hx14, hf, H⟩ (fun s h => by cases h) ?_ ?_
 ·rintro fk ⟨m9, m10, m11, m12, m13⟩ a w hR1 hI
  replace hR1 : spec_l1Cur_network_L2 fu y (fk + 1) m9 m10 m11 m12 m13 = some out2 := hR1
  rw [spec_l1Cur_network_L2] at hR1
  obtain ⟨A12, c11, F5, hsm2, hf, H⟩ := hI
  refine sq (sqz (pz 2 hf fun a hf => ?_))
  refine wl_end (then_n (ib hR1 hf (fun hc4 hR1 => ?_) fun hc4 hR1 => ?_))
  ·refine ws (pz 2 hf fun a hf => ?_)
   obtain ⟨y9, hy9, hR1⟩ := bs_ hR1
   refine oc hf TF.cl75 (spec_l1Cur_pick_ok (S := NB b0) (H.boxAt 2 rfl) ((L1CurP_mk (x := ({ code := m11, at_ := m12, seed := m13 } : L1CurP)) (H.nb 2 rfl (H.get 0 rfl)))) (fun h => h rfl) mk_int hy9) fun v9 w a hp11 hf => ?_
   obtain ⟨hch6, cs7, hbx6, hr7, ⟨hx15, hx16⟩, hs6⟩ := hp11
   obtain rfl := VR_int hs6
   obtain ⟨A13, c12, rfl, hl8⟩ := L1CurP_cells hr7
   obtain ⟨rfl, rfl⟩ := fx_slice hx15 rfl rfl
   have hx17 := hx16.trans hsm2
   have H := H.wroteBox 2 rfl hch6 hbx6
   have H := H.pX 0 rfl hx16
   refine pz 2 hf fun a hf => ?_
   obtain ⟨y10, hy10, hR1⟩ := bs_ hR1
   refine oc hf TF.cl75 (spec_l1Cur_pick_ok (S := NB b0) (H.boxAt 2 rfl) ((L1CurP_mk (x := y9.2) (H.nb 2 rfl (H.get 0 rfl)))) (fun h => h rfl) mk_int hy10) fun v10 w a hp12 hf => ?_
   obtain ⟨hch7, cs8, hbx7, hr8, ⟨hx18, hx19⟩, hs7⟩ := hp12
   obtain rfl := VR_int hs7
   obtain ⟨A14, c13, rfl, hl9⟩ := L1CurP_cells hr8
   obtain ⟨rfl, rfl⟩ := fx_slice hx18 rfl rfl
   have hx20 := hx19.trans hx17
   have H := H.wroteBox 2 rfl hch7 hbx7
   have H := H.pX 0 rfl hx19
   refine pz 2 hf fun a hf => ?_
   refine wr (pz 3 hf fun a hf => ?_)
   refine wl_end (then_n (ib hR1 hf (fun hc5 hR1 => ?_) fun hc5 hR1 => ?_))
   ·obtain ⟨y11, hy11, hR1⟩ := bs_ hR1
    obtain ⟨y12, hy12, hR1⟩ := bs_ hR1
    obtain ⟨y13, hy13, hR1⟩ := bs_ hR1
    obtain ⟨y14, hy14, hR1⟩ := bs_ hR1
    obtain ⟨y15, hy15, hR1⟩ := bs_ hR1
    refine mid (fun a w => ∃ (A18 : Option Addr) (c16 : Nat) (F6 : List Nat), y14.2.code = c.code ∧ Fr a 85 [(0, (.pointer (some ⟨b0, 0, none⟩))), (2, (.pointer (some ⟨b2, 0, none⟩))), (3, (.int .i64 (w64 (2 + y.1)))), (4, (.pointer (some ⟨b3, 0, none⟩))), (7, (.int .i64 m9))] ∧ Mem ⟨w0, [b0]⟩ S [⟨b3, 27, [(.slice A3 l.length 6), (.slice A18 y15.length c16)]⟩, ⟨b2, 27, [(.slice none 0 0), (.slice none 0 0)]⟩, ⟨b0, 87, [(.slice A y14.2.code.length c2), (.int .i64 y14.2.at_), (.int .u64 y14.2.seed.n)]⟩] [⟨.sh true, 9, A3, 6, (l : List ByteArray)⟩] [⟨F6, MP.own F6 [(.slice A18 y15.length c16)] (y15 : List Fiber)⟩] [(true, MP.val [(.slice A18 y15.length c16)] (y15 : List Fiber)), (false, MP.val [(.slice A y14.2.code.length c2)] (y14.2.code : List By))] w) ?_ ?_
    ·refine dw [18] 19 fun w hb => ?_
     have H := H.keep hb
     refine zp 0 hf trivial fun a hf => ?_
     refine strT (H.lk 1 0 0 []) (fun w H => trivial) fun hS => ?_
     refine zS 1 [1, 16, 17, 18] rfl rfl rfl rfl hf hS (fun w H => rq_loadB hf H TF.ls25 0 rfl rfl rfl) fun a hf => ?_
     refine zp 2 hf hS fun a hf => ?_
     refine zp 3 hf hS fun a hf => ?_
     refine zp 5 hf hS fun a hf => ?_
     refine zp 6 hf hS fun a hf => ?_
     refine zp 8 hf hS fun a hf => ?_
     refine zp 12 hf hS fun a hf => ?_
     refine on2 (i := 4) (j := 13) (bi := [true, true, true, true, true, true, true, false, true, false, false, false, true, false, false, false, false, false, false]) (bj := [true, true, true, true, false, true, true, false, true, false, false, false, true, true, false, false, false, false, false]) (by kernel_rfl) rfl rfl rfl rfl rfl rfl ?_ ?_
     ·refine (oC hf TF.cl127 (spec_l1Least_ok (S := TT) mk_int mk_int hy11) fun v11 w a hp13 hf => ?_)
      obtain ⟨hb4, hp13⟩ := hp13
      obtain rfl := VR_int hp13
      have H := H.keep hb4
      have hS := H.lk 1 0 0 []
      refine aS hS ?_
      refine on2 (i := 7) (j := 13) (bi := [true, true, true, true, true, true, true, true, true, false, false, false, true, false, false, false, false, false, false]) (bj := [true, true, true, true, true, true, true, false, true, false, false, false, true, true, false, false, false, false, false]) (by kernel_rfl) rfl rfl rfl rfl rfl rfl ?_ ?_
      ·refine (oC hf TF.cl128 (spec_l1Most_ok (S := TT) mk_int mk_int hy12) fun v12 w a hp14 hf => ?_)
       obtain ⟨hb5, hp14⟩ := hp14
       obtain rfl := VR_int hp14
       have H := H.keep hb5
       have hS := H.lk 1 0 0 []
       refine aS hS ?_
       refine on2 (i := 9) (j := 13) (bi := [true, true, true, true, true, true, true, true, true, true, false, false, true, false, false, false, false, false, false]) (bj := [true, true, true, true, true, true, true, true, true, false, false, false, true, true, false, false, false, false, false]) (by kernel_rfl) rfl rfl rfl rfl rfl rfl ?_ ?_
       ·refine (oC hf TF.cl75 (spec_l1Cur_pick_ok (S := NB b0) (H.boxAt 2 rfl) ((L1CurP_mk (x := y10.2) (H.nb 2 rfl (H.get 0 rfl)))) (fun h => h rfl) mk_int hy13) fun v13 w a hp15 hf => ?_)
        obtain ⟨hch8, cs9, hbx8, hr9, ⟨hx21, hx22⟩, hs8⟩ := hp15
        obtain rfl := VR_int hs8
        obtain ⟨A15, c14, rfl, hl10⟩ := L1CurP_cells hr9
        obtain ⟨rfl, rfl⟩ := fx_slice hx21 rfl rfl
        have hx23 := hx22.trans hx20
        have H := H.wroteBox 2 rfl hch8 hbx8
        have H := H.pX 0 rfl hx22
        have hS := H.lk 1 0 0 []
        refine aS hS ?_
        refine zp 10 hf hS fun a hf => ?_
        refine zp 11 hf hS fun a hf => ?_
        refine nn 13 rfl (bl hf H 3 ([0, 0, 0, 1, 2] : List Int) [(.int .i64 0), (.int .i64 0), (.int .i64 0), (.int .i64 1), (.int .i64 2)] (elI [0, 0, 0, 1, 2]) fun A16 a w hf H => ?_)
        have hS := H.lk 1 0 0 []
        refine aS hS ?_
        have H := H.freeze 0 rfl
        refine nn 14 rfl (oC hf TF.cl94 (spec_l1Cur_among_ok (S := NB b0) (H.boxAt 2 rfl) ((L1CurP_mk (x := y13.2) (H.nb 2 rfl (H.get 1 rfl)))) (fun h => h rfl) (mk_list (H.nb 2 rfl (H.get 0 rfl))) hy14) fun v14 w a hp16 hf => ?_)
        obtain ⟨hch9, cs10, hbx9, hr10, ⟨hx24, hx25⟩, hs9⟩ := hp16
        obtain rfl := VR_int hs9
        obtain ⟨A17, c15, rfl, hl11⟩ := L1CurP_cells hr10
        obtain ⟨rfl, rfl⟩ := fx_slice hx24 rfl rfl
        have hx26 := hx25.trans hx23
        have H := H.wroteBox 2 rfl hch9 hbx9
        have H := H.pX 1 rfl hx25
        have hS := H.lk 1 0 0 []
        refine aS hS ?_
        refine zP 15 rfl rfl rfl rfl hf hS (fun w => rq_build hf (cs := [(.int .i64 y11), (.int .i64 y12), (.int .i64 (w64 (100 * (w64 (1 + y13.1))))), (.int .i64 y14.1)]) rfl (fun w => by kernel_rfl)) fun a hf => ?_
        refine nn 16 rfl (oC hf TF.cl126 (spec_l2Put_ok (S := TT) (mk_list (H.rt 6 rfl)) Fiber_mkv hy15) fun v15 w a hp17 hf => ?_)
        obtain ⟨hb6, F6, hp18, hN2⟩ := hp17
        obtain ⟨A18, c16, rfl, hl12⟩ := VO_list hp18
        have H := H.aO1 hb6 hN2 hl12
        have H := H.lend 0 rfl
        have hS := H.lk 1 0 0 []
        refine aS hS ?_
        refine zp 17 hf hS fun a hf => ?_
        refine nn 18 rfl (op_storeB hf H 0 TF.sz25 rfl rfl rfl rfl rfl rfl (nle rfl) fun w H => ?_)
        refine ⟨fun h => absurd h (by decide), ?_⟩
        refine dk ?_
        have hf := hf.pn [0, 2, 3, 4, 7]
        have H := H.lk 7 1 1 [0,1]
        exact ⟨A18, c16, F6, hx26, hf, H⟩
       ·refine (bl hf H 3 ([0, 0, 0, 1, 2] : List Int) [(.int .i64 0), (.int .i64 0), (.int .i64 0), (.int .i64 1), (.int .i64 2)] (elI [0, 0, 0, 1, 2]) fun A15 a w hf H => ?_)
        have hS := H.lk 1 0 0 []
        refine aS hS ?_
        refine nn 9 rfl (oC hf TF.cl75 (spec_l1Cur_pick_ok (S := NB b0) (H.boxAt 2 rfl) ((L1CurP_mk (x := y10.2) (H.nb 2 rfl (H.get 0 rfl)))) (fun h => h rfl) mk_int hy13) fun v13 w a hp15 hf => ?_)
        obtain ⟨hch8, cs9, hbx8, hr9, ⟨hx21, hx22⟩, hs8⟩ := hp15
        obtain rfl := VR_int hs8
        obtain ⟨A16, c14, rfl, hl10⟩ := L1CurP_cells hr9
        obtain ⟨rfl, rfl⟩ := fx_slice hx21 rfl rfl
        have hx23 := hx22.trans hx20
        have H := H.wroteBox 2 rfl hch8 hbx8
        have H := H.pX 0 rfl hx22
        have hS := H.lk 1 0 0 []
        refine aS hS ?_
        refine zp 10 hf hS fun a hf => ?_
        refine zp 11 hf hS fun a hf => ?_
        have H := H.freeze 0 rfl
        refine nn 14 rfl (oC hf TF.cl94 (spec_l1Cur_among_ok (S := NB b0) (H.boxAt 2 rfl) ((L1CurP_mk (x := y13.2) (H.nb 2 rfl (H.get 1 rfl)))) (fun h => h rfl) (mk_list (H.nb 2 rfl (H.get 0 rfl))) hy14) fun v14 w a hp16 hf => ?_)
        obtain ⟨hch9, cs10, hbx9, hr10, ⟨hx24, hx25⟩, hs9⟩ := hp16
        obtain rfl := VR_int hs9
        obtain ⟨A17, c15, rfl, hl11⟩ := L1CurP_cells hr10
        obtain ⟨rfl, rfl⟩ := fx_slice hx24 rfl rfl
        have hx26 := hx25.trans hx23
        have H := H.wroteBox 2 rfl hch9 hbx9
        have H := H.pX 1 rfl hx25
        have hS := H.lk 1 0 0 []
        refine aS hS ?_
        refine zP 15 rfl rfl rfl rfl hf hS (fun w => rq_build hf (cs := [(.int .i64 y11), (.int .i64 y12), (.int .i64 (w64 (100 * (w64 (1 + y13.1))))), (.int .i64 y14.1)]) rfl (fun w => by kernel_rfl)) fun a hf => ?_
        refine nn 16 rfl (oC hf TF.cl126 (spec_l2Put_ok (S := TT) (mk_list (H.rt 6 rfl)) Fiber_mkv hy15) fun v15 w a hp17 hf => ?_)
        obtain ⟨hb6, F6, hp18, hN2⟩ := hp17
        obtain ⟨A18, c16, rfl, hl12⟩ := VO_list hp18
        have H := H.aO1 hb6 hN2 hl12
        have H := H.lend 0 rfl
        have hS := H.lk 1 0 0 []
        refine aS hS ?_
        refine zp 17 hf hS fun a hf => ?_
        refine nn 18 rfl (op_storeB hf H 0 TF.sz25 rfl rfl rfl rfl rfl rfl (nle rfl) fun w H => ?_)
        refine ⟨fun h => absurd h (by decide), ?_⟩
        refine dk ?_
        have hf := hf.pn [0, 2, 3, 4, 7]
        have H := H.lk 7 1 1 [0,1]
        exact ⟨A18, c16, F6, hx26, hf, H⟩
      ·refine (bl hf H 3 ([0, 0, 0, 1, 2] : List Int) [(.int .i64 0), (.int .i64 0), (.int .i64 0), (.int .i64 1), (.int .i64 2)] (elI [0, 0, 0, 1, 2]) fun A15 a w hf H => ?_)
       have hS := H.lk 1 0 0 []
       refine aS hS ?_
       refine nn 7 rfl (oC hf TF.cl128 (spec_l1Most_ok (S := TT) mk_int mk_int hy12) fun v12 w a hp14 hf => ?_)
       obtain ⟨hb5, hp14⟩ := hp14
       obtain rfl := VR_int hp14
       have H := H.keep hb5
       have hS := H.lk 1 0 0 []
       refine aS hS ?_
       refine nn 9 rfl (oC hf TF.cl75 (spec_l1Cur_pick_ok (S := NB b0) (H.boxAt 2 rfl) ((L1CurP_mk (x := y10.2) (H.nb 2 rfl (H.get 0 rfl)))) (fun h => h rfl) mk_int hy13) fun v13 w a hp15 hf => ?_)
       obtain ⟨hch8, cs9, hbx8, hr9, ⟨hx21, hx22⟩, hs8⟩ := hp15
       obtain rfl := VR_int hs8
       obtain ⟨A16, c14, rfl, hl10⟩ := L1CurP_cells hr9
       obtain ⟨rfl, rfl⟩ := fx_slice hx21 rfl rfl
       have hx23 := hx22.trans hx20
       have H := H.wroteBox 2 rfl hch8 hbx8
       have H := H.pX 0 rfl hx22
       have hS := H.lk 1 0 0 []
       refine aS hS ?_
       refine zp 10 hf hS fun a hf => ?_
       refine zp 11 hf hS fun a hf => ?_
       have H := H.freeze 0 rfl
       refine nn 14 rfl (oC hf TF.cl94 (spec_l1Cur_among_ok (S := NB b0) (H.boxAt 2 rfl) ((L1CurP_mk (x := y13.2) (H.nb 2 rfl (H.get 1 rfl)))) (fun h => h rfl) (mk_list (H.nb 2 rfl (H.get 0 rfl))) hy14) fun v14 w a hp16 hf => ?_)
       obtain ⟨hch9, cs10, hbx9, hr10, ⟨hx24, hx25⟩, hs9⟩ := hp16
       obtain rfl := VR_int hs9
       obtain ⟨A17, c15, rfl, hl11⟩ := L1CurP_cells hr10
       obtain ⟨rfl, rfl⟩ := fx_slice hx24 rfl rfl
       have hx26 := hx25.trans hx23
       have H := H.wroteBox 2 rfl hch9 hbx9
       have H := H.pX 1 rfl hx25
       have hS := H.lk 1 0 0 []
       refine aS hS ?_
       refine zP 15 rfl rfl rfl rfl hf hS (fun w => rq_build hf (cs := [(.int .i64 y11), (.int .i64 y12), (.int .i64 (w64 (100 * (w64 (1 + y13.1))))), (.int .i64 y14.1)]) rfl (fun w => by kernel_rfl)) fun a hf => ?_
       refine nn 16 rfl (oC hf TF.cl126 (spec_l2Put_ok (S := TT) (mk_list (H.rt 6 rfl)) Fiber_mkv hy15) fun v15 w a hp17 hf => ?_)
       obtain ⟨hb6, F6, hp18, hN2⟩ := hp17
       obtain ⟨A18, c16, rfl, hl12⟩ := VO_list hp18
       have H := H.aO1 hb6 hN2 hl12
       have H := H.lend 0 rfl
       have hS := H.lk 1 0 0 []
       refine aS hS ?_
       refine zp 17 hf hS fun a hf => ?_
       refine nn 18 rfl (op_storeB hf H 0 TF.sz25 rfl rfl rfl rfl rfl rfl (nle rfl) fun w H => ?_)
       refine ⟨fun h => absurd h (by decide), ?_⟩
       refine dk ?_
       have hf := hf.pn [0, 2, 3, 4, 7]
       have H := H.lk 7 1 1 [0,1]
       exact ⟨A18, c16, F6, hx26, hf, H⟩
     ·refine (bl hf H 3 ([0, 0, 0, 1, 2] : List Int) [(.int .i64 0), (.int .i64 0), (.int .i64 0), (.int .i64 1), (.int .i64 2)] (elI [0, 0, 0, 1, 2]) fun A15 a w hf H => ?_)
      have hS := H.lk 1 0 0 []
      refine aS hS ?_
      refine nn 4 rfl (oC hf TF.cl127 (spec_l1Least_ok (S := TT) mk_int mk_int hy11) fun v11 w a hp13 hf => ?_)
      obtain ⟨hb4, hp13⟩ := hp13
      obtain rfl := VR_int hp13
      have H := H.keep hb4
      have hS := H.lk 1 0 0 []
      refine aS hS ?_
      refine nn 7 rfl (oC hf TF.cl128 (spec_l1Most_ok (S := TT) mk_int mk_int hy12) fun v12 w a hp14 hf => ?_)
      obtain ⟨hb5, hp14⟩ := hp14
      obtain rfl := VR_int hp14
      have H := H.keep hb5
      have hS := H.lk 1 0 0 []
      refine aS hS ?_
      refine nn 9 rfl (oC hf TF.cl75 (spec_l1Cur_pick_ok (S := NB b0) (H.boxAt 2 rfl) ((L1CurP_mk (x := y10.2) (H.nb 2 rfl (H.get 0 rfl)))) (fun h => h rfl) mk_int hy13) fun v13 w a hp15 hf => ?_)
      obtain ⟨hch8, cs9, hbx8, hr9, ⟨hx21, hx22⟩, hs8⟩ := hp15
      obtain rfl := VR_int hs8
      obtain ⟨A16, c14, rfl, hl10⟩ := L1CurP_cells hr9
      obtain ⟨rfl, rfl⟩ := fx_slice hx21 rfl rfl
      have hx23 := hx22.trans hx20
      have H := H.wroteBox 2 rfl hch8 hbx8
      have H := H.pX 0 rfl hx22
      have hS := H.lk 1 0 0 []
      refine aS hS ?_
      refine zp 10 hf hS fun a hf => ?_
      refine zp 11 hf hS fun a hf => ?_
      have H := H.freeze 0 rfl
      refine nn 14 rfl (oC hf TF.cl94 (spec_l1Cur_among_ok (S := NB b0) (H.boxAt 2 rfl) ((L1CurP_mk (x := y13.2) (H.nb 2 rfl (H.get 1 rfl)))) (fun h => h rfl) (mk_list (H.nb 2 rfl (H.get 0 rfl))) hy14) fun v14 w a hp16 hf => ?_)
      obtain ⟨hch9, cs10, hbx9, hr10, ⟨hx24, hx25⟩, hs9⟩ := hp16
      obtain rfl := VR_int hs9
      obtain ⟨A17, c15, rfl, hl11⟩ := L1CurP_cells hr10
      obtain ⟨rfl, rfl⟩ := fx_slice hx24 rfl rfl
      have hx26 := hx25.trans hx23
      have H := H.wroteBox 2 rfl hch9 hbx9
      have H := H.pX 1 rfl hx25
      have hS := H.lk 1 0 0 []
      refine aS hS ?_
      refine zP 15 rfl rfl rfl rfl hf hS (fun w => rq_build hf (cs := [(.int .i64 y11), (.int .i64 y12), (.int .i64 (w64 (100 * (w64 (1 + y13.1))))), (.int .i64 y14.1)]) rfl (fun w => by kernel_rfl)) fun a hf => ?_
      refine nn 16 rfl (oC hf TF.cl126 (spec_l2Put_ok (S := TT) (mk_list (H.rt 6 rfl)) Fiber_mkv hy15) fun v15 w a hp17 hf => ?_)
      obtain ⟨hb6, F6, hp18, hN2⟩ := hp17
      obtain ⟨A18, c16, rfl, hl12⟩ := VO_list hp18
      have H := H.aO1 hb6 hN2 hl12
      have H := H.lend 0 rfl
      have hS := H.lk 1 0 0 []
      refine aS hS ?_
      refine zp 17 hf hS fun a hf => ?_
      refine nn 18 rfl (op_storeB hf H 0 TF.sz25 rfl rfl rfl rfl rfl rfl (nle rfl) fun w H => ?_)
      refine ⟨fun h => absurd h (by decide), ?_⟩
      refine dk ?_
      have hf := hf.pn [0, 2, 3, 4, 7]
      have H := H.lk 7 1 1 [0,1]
      exact ⟨A18, c16, F6, hx26, hf, H⟩
    rintro a w ⟨A18, c16, F6, hx26, hf, H⟩
    refine blk_n (then_n (reg (pz 3 hf fun a hf => ?_)))
    refine wl_end ?_
    have hf := hf.pn [0, 2, 3, 4, 7]
    have H := H.lk 7 1 1 [1,0]
    exact then_n ⟨(w64 (m9 - 1), y15, y14.2.code, y14.2.at_, y14.2.seed), hR1, A18, c16, F6, hx26, hf, H⟩
   ·refine wp_skip (blk_n (then_n (reg (pz 3 hf fun a hf => ?_))))
    have hf := hf.pn [0, 2, 3, 4, 7]
    refine wl_end ?_
    have hf := hf.pn [0, 2, 3, 4, 7]
    have H := H.lk 7 1 1 [0,3]
    exact then_n ⟨(w64 (m9 - 1), m10, y10.2.code, y10.2.at_, y10.2.seed), hR1, A12, c11, F5, hx20, hf, H⟩
  ·refine wp_exit (then_x (then_x (blk_e (?_))))
   have hf := hf.pn [0, 2, 3, 4, 7]
   have H := H.lk 7 1 1 [0,1]
   exact ⟨(m9, m10, m11, m12, m13), (Option.some.inj hR1).symm, A12, c11, F5, hsm2, hf, H⟩
 rintro a w ⟨⟨m14, m15, m16, m17, m18⟩, rfl, A19, c17, F8, hsm2, hf, H⟩
 try dsimp only at hsm2
 try dsimp only at hF
 refine then_n (sq (reg (lN 0 hf H TF.la27 fun a hf => ?_)))
 refine sB 1 hf H TF.sz27 fun w H => ?_
 refine wer ?_
 have H := H.rowOwn 0 rfl rfl
 obtain ⟨F9, H⟩ := H.freezeOwn 0 rfl
 have H := H.lend 0 rfl
 have H := H.frontD 1 rfl
 have H := H.frontD 1 rfl
 obtain rfl := oi hF
 refine ret_1 hf rfl (rv_cellN hf H 1 TF.la27 rfl rfl rfl) ?_
 have hN := H.endsB2 2 rfl
 exact ⟨_, rfl, H.chg, _, H.boxAt 2 rfl, (L1CurP_mk (x := ({ code := m16, at_ := m17, seed := m18 } : L1CurP)) (eB 2 (H.get 1 rfl))), ⟨fxc hsm2, hsm2⟩, (F9 ++ F8), ⟨_, Network_ownmk (x := ({ Nodes := l, Fibers := m15 } : Network)) (H.ownAt 0 rfl) (H.ownAt 1 rfl), rfl⟩, by first | exact hN | simpa using hN⟩
theorem spec_l1Cur_of_ok {S : Nat → Prop} {b0 : Nat} {cs0 : List Value} {v1_ : Value} {c : L1CurP} {list : List ByteArray} {r : ByteArray × L1CurP} (hp0 : w0.heap[b0]? = some (.cells cs0.toArray 87 (0, 0))) (hr0 : GoTy.rep w0 S cs0 c) (hS0 : ¬ S b0) (h1 : VR w0 S v1_ list) (hF : spec_l1Cur_of fu c list = some r) :
    Calls Tryz.prog 93 [(.pointer (some ⟨b0, 0, none⟩)), v1_].toArray w0 fun e w' => ∃ v, e = .returned v ∧ (Chg w0 w' [b0] ∧ ∃ cs', w'.heap[b0]? = some (.cells cs'.toArray 87 (0, 0)) ∧ GoTy.rep w' (St ⟨w0, [b0]⟩ S [⟨b0, 87, cs'⟩] [] [] false) cs' r.2 ∧ (cs'[0]? = cs0[0]? ∧ r.2.code = c.code) ∧ VR w' (St ⟨w0, [b0]⟩ S [⟨b0, 87, cs'⟩] [] [] true) v r.1) := by
 obtain ⟨A, c2, rfl, hl⟩ := L1CurP_cells hr0
 obtain ⟨A2, c3, rfl, hl2⟩ := VR_list h1
 have H := Mem.startB S hp0
 have H := H.pB hS0 hl
 have H := H.pB hS0 hl2
 refine en Tryz.func93 fun a hf => ?_
 rw [spec_l1Cur_of] at hF
 refine sqz (pz 1 hf fun a hf => ?_)
 refine wr (pz 4 hf fun a hf => ?_)
 obtain ⟨y, hy, hF⟩ := bs_ hF
 refine oc hf TF.cl75 (spec_l1Cur_pick_ok (S := NB b0) (H.boxAt 0 rfl) ((L1CurP_mk (x := c) (H.nb 0 rfl (H.get 1 rfl)))) (fun h => h rfl) mk_int hy) fun v w a hp3 hf => ?_
 obtain ⟨hch, cs3, hbx, hr3, ⟨hx, hx2⟩, hs⟩ := hp3
 obtain rfl := VR_int hs
 obtain ⟨A3, c4, rfl, hl3⟩ := L1CurP_cells hr3
 obtain ⟨rfl, rfl⟩ := fx_slice hx rfl rfl
 have H := H.wroteBox 0 rfl hch hbx
 have H := H.pX 1 rfl hx2
 obtain ⟨e, he, hF⟩ := bs_ hF
 refine wl0 rfl (op_iaddr hf H Tryz.underlying24 TF.sz9 1 rfl rfl rfl he (by decide) fun p o3 cs4 a hf hr4 H => ?_)
 obtain rfl := hr4
 refine oq hf (rq_loadI hf H TF.ls9 0 0 rfl rfl rfl) fun a hf => ?_
 refine pz 1 hf fun a hf => ?_
 refine wer ?_
 obtain rfl := oi hF
 refine rT hf ?_
 exact ⟨_, rfl, H.chg, _, H.boxAt 0 rfl, (L1CurP_mk (x := y.2) (eB 0 (H.get 1 rfl))), ⟨fxc hx2, hx2⟩, mk_str⟩
theorem spec_l1Cur_anyNetwork_ok {S : Nat → Prop} {b0 : Nat} {cs0 : List Value} {c : L1CurP} {r : Network × L1CurP} (hp0 : w0.heap[b0]? = some (.cells cs0.toArray 87 (0, 0))) (hr0 : GoTy.rep w0 S cs0 c) (hS0 : ¬ S b0) (hF : spec_l1Cur_anyNetwork fu c = some r) :
    Calls Tryz.prog 53 [(.pointer (some ⟨b0, 0, none⟩))].toArray w0 fun e w' => ∃ v, e = .returned v ∧ (Chg w0 w' [b0] ∧ ∃ cs', w'.heap[b0]? = some (.cells cs'.toArray 87 (0, 0)) ∧ GoTy.rep w' (St ⟨w0, [b0]⟩ S [⟨b0, 87, cs'⟩] [] [] false) cs' r.2 ∧ (cs'[0]? = cs0[0]? ∧ r.2.code = c.code) ∧ ∃ F0, VO w' F0 v r.1 ∧ New w0 w' F0) := by
 obtain ⟨A, c2, rfl, hl⟩ := L1CurP_cells hr0
 have H := Mem.startB S hp0
 have H := H.pB hS0 hl
 refine en Tryz.func53 fun a hf => ?_
 rw [spec_l1Cur_anyNetwork] at hF
 refine sq (reg (aL hf H TF.zv27 fun b2 a w hf H => ?_))
 refine wr (pz 1 hf fun a hf => ?_)
 obtain ⟨y, hy, hF⟩ := bs_ hF
 refine oc hf TF.cl92 (spec_l1Cur_network_ok (S := NB b0) (H.boxAt 1 rfl) ((L1CurP_mk (x := c) (H.nb 1 rfl (H.get 0 rfl)))) (fun h => h rfl) hy) fun v w a hp2 hf => ?_
 obtain ⟨hch, cs2, hbx, hr2, ⟨hx, hx2⟩, hs⟩ := hp2
 obtain ⟨F, hp3, hN⟩ := hs
 obtain ⟨A2, c3, F2, A3, c4, F3, rfl, rfl, hl2, hl3⟩ := Network_vo hp3
 obtain ⟨A4, c5, rfl, hl4⟩ := L1CurP_cells hr2
 obtain ⟨rfl, rfl⟩ := fx_slice hx rfl rfl
 have H := H.bO2 1 rfl hch hbx hN hl2 hl3
 have H := H.pX 0 rfl hx2
 have H := H.lend 0 rfl
 have H := H.lend 1 rfl
 obtain ⟨Fs, E, H, -⟩ := H.thaw rfl
 have H := H.rowSh 0 rfl
 have H := H.pB hS0 hl
 have H := H.argB (by simpa using hS0) (p := MP.val [(.slice A y.2.code.length c2)] (y.2.code : List By)) (by rw [hx2]; exact hl)
 have H := H.lend 0 rfl
 obtain ⟨Fs2, E2, H, -⟩ := H.thaw rfl
 have H := H.rowSh 0 rfl
 have H := H.pB hS0 hl
 have H := H.argB (by simpa using hS0) (p := MP.val [(.slice A y.2.code.length c2)] (y.2.code : List By)) (by rw [hx2]; exact hl)
 refine aL hf H TF.zv27 fun b3 a w hf H => ?_
 refine sB 0 hf H TF.sz27 fun w H => ?_
 refine we (sqz (pz 1 hf fun a hf => ?_))
 refine lB 0 hf H TF.ls25 fun a hf => ?_
 refine pz 2 hf fun a hf => ?_
 refine wl_end (then_n (ib hF hf (fun hc hF => ?_) fun hc hF => ?_))
 ·refine sq (reg (lN 0 hf H TF.la27 fun a hf => ?_))
  refine sB 1 hf H TF.sz27 fun w H => ?_
  refine wl_end (then_n (wp_ret (then_r (?_))))
  have H := H.rowOwn 1 rfl rfl
  obtain ⟨F4, H⟩ := H.freezeOwn 1 rfl
  have H := H.lend 0 rfl
  have H := H.rowOwn 0 rfl rfl
  obtain ⟨F5, H⟩ := H.freezeOwn 0 rfl
  have H := H.lend 0 rfl
  have H := H.frontD 1 rfl
  obtain rfl := oi hF
  refine ret_1 hf rfl (rv_cellN hf H 1 TF.la27 rfl rfl rfl) ?_
  have hN := H.endsB2 2 rfl
  exact ⟨_, rfl, H.chg, _, H.boxAt 2 rfl, (L1CurP_mk (x := y.2) (eB 2 (H.get 2 rfl))), ⟨fxc hx2, hx2⟩, (F4 ++ F5), ⟨_, Network_ownmk (x := y.1) (H.ownAt 0 rfl) (H.ownAt 1 rfl), rfl⟩, by first | exact hN | simpa using hN⟩
 ·refine wp_skip (then_n (sqz (pz 2 hf fun a hf => ?_)))
  refine lB 0 hf H TF.ls25 fun a hf => ?_
  refine pz 1 hf fun a hf => ?_
  obtain ⟨y2, hy2, hF⟩ := bs_ hF
  refine oc hf TF.cl75 (spec_l1Cur_pick_ok (S := NB b0) (H.boxAt 2 rfl) ((L1CurP_mk (x := y.2) (H.nb 2 rfl (H.get 0 rfl)))) (fun h => h rfl) mk_int hy2) fun v2 w a hp4 hf => ?_
  obtain ⟨hch2, cs3, hbx2, hr3, ⟨hx3, hx4⟩, hs2⟩ := hp4
  obtain rfl := VR_int hs2
  obtain ⟨A5, c6, rfl, hl5⟩ := L1CurP_cells hr3
  obtain ⟨rfl, rfl⟩ := fx_slice hx3 rfl rfl
  have hx5 := hx4.trans hx2
  have H := H.wroteBox 2 rfl hch2 hbx2
  have H := H.pX 0 rfl hx4
  refine pz 1 hf fun a hf => ?_
  refine wr (pz 1 hf fun a hf => ?_)
  refine lB 0 hf H TF.ls25 fun a hf => ?_
  refine pz 1 hf fun a hf => ?_
  obtain ⟨e, he, hF⟩ := bs_ hF
  refine wl0 rfl (op_iaddrR hf H Tryz.underlying25 TF.sz63 0 rfl rfl rfl he (by decide) fun p o2 cs4 a hf hA hr4 hk => ?_)
  obtain rfl := Fiber_cells hr4
  refine oq hf (rq_loadN hf TF.la63 rfl rfl (fun j c hj => hk _ c (by simpa using hj))) fun a hf => ?_
  refine aL hf H TF.zv63 fun b4 a w hf H => ?_
  refine sB 0 hf H TF.sz63 fun w H => ?_
  have hf := hf.pn [0, 2, 3, 4, 5]
  refine we (sqz (pz 1 hf fun a hf => ?_))
  obtain ⟨y3, hy3, hF⟩ := bs_ hF
  refine oc hf TF.cl75 (spec_l1Cur_pick_ok (S := NB b0) (H.boxAt 3 rfl) ((L1CurP_mk (x := y2.2) (H.nb 3 rfl (H.get 0 rfl)))) (fun h => h rfl) mk_int hy3) fun v3 w a hp5 hf => ?_
  obtain ⟨hch3, cs5, hbx3, hr5, ⟨hx6, hx7⟩, hs3⟩ := hp5
  obtain rfl := VR_int hs3
  obtain ⟨A6, c7, rfl, hl6⟩ := L1CurP_cells hr5
  obtain ⟨rfl, rfl⟩ := fx_slice hx6 rfl rfl
  have hx8 := hx7.trans hx5
  have H := H.wroteBox 3 rfl hch3 hbx3
  have H := H.pX 0 rfl hx7
  refine wl_end (then_n (wp_block (sqz (pz 2 hf fun a hf => ?_))))
  refine wl_end (then_n ?_)
  obtain ⟨out', hB1, hF⟩ := bs_ hF
  refine mid (fun a w => ∃ s : List ByteArray × List By × Int × U64 × Int × Int × Int × Int × List Fiber, out' = Out.next s ∧ (fun (s : List ByteArray × List By × Int × U64 × Int × Int × Int × Int × List Fiber) (a : Act) (w : World) => match s with | (m, m2, m3, m4, m5, m6, m7, m8, m9) => ∃ (A7 : Option Addr) (c8 : Nat) (E3 : Go.TypeId) (A8 : Option Addr) (c9 : Nat) (E4 : Go.TypeId), m2 = c.code ∧ Fr a 104 [(2, (.pointer (some ⟨b2, 0, none⟩))), (3, (.pointer (some ⟨b3, 0, none⟩))), (4, (.int .i64 y2.1)), (5, (.pointer (some ⟨b4, 0, none⟩)))] ∧ Mem ⟨w0, [b0]⟩ S [⟨b4, 63, [(.int .i64 m5), (.int .i64 m6), (.int .i64 m7), (.int .i64 m8)]⟩, ⟨b3, 27, [(.slice A7 m.length c8), (.slice A8 m9.length c9)]⟩, ⟨b2, 27, [(.slice none 0 0), (.slice none 0 0)]⟩, ⟨b0, 87, [(.slice A m2.length c2), (.int .i64 m3), (.int .u64 m4.n)]⟩] [⟨.sh true, E4, A8, c9, (m9 : List Fiber)⟩, ⟨.sh true, E3, A7, c8, (m : List ByteArray)⟩] [] [(false, MP.val [(.slice A m2.length c2)] (m2 : List By))] w) s a w) ?_ ?_
  ·refine ib hB1 hf (fun hc2 hB1 => ?_) fun hc2 hB1 => ?_
   ·refine dw [6] 7 fun w hb => ?_
    have H := H.keep hb
    refine zp 0 hf trivial fun a hf => ?_
    refine strT (H.lk 2 0 0 []) (fun w H => trivial) fun hS => ?_
    refine zS 1 [1, 5, 6] rfl rfl rfl rfl hf hS (fun w H => rq_loadB hf H TF.ls24 0 rfl rfl rfl) fun a hf => ?_
    refine zp 2 hf hS fun a hf => ?_
    refine nn 3 rfl (bl hf H 9 ([(⟨#[98]⟩ : ByteArray), ByteArray.empty, (⟨#[65]⟩ : ByteArray), (⟨#[97, 98, 99, 100, 101, 102, 103, 104]⟩ : ByteArray), (⟨#[97, 98, 99, 100, 101, 102, 103, 104, 105]⟩ : ByteArray), (⟨#[120, 49]⟩ : ByteArray)] : List ByteArray) [(.string (⟨#[98]⟩ : ByteArray)), (.string ByteArray.empty), (.string (⟨#[65]⟩ : ByteArray)), (.string (⟨#[97, 98, 99, 100, 101, 102, 103, 104]⟩ : ByteArray)), (.string (⟨#[97, 98, 99, 100, 101, 102, 103, 104, 105]⟩ : ByteArray)), (.string (⟨#[120, 49]⟩ : ByteArray))] (elL [([(.string (⟨#[98]⟩ : ByteArray))], ((⟨#[98]⟩ : ByteArray) : ByteArray)), ([(.string ByteArray.empty)], (ByteArray.empty : ByteArray)), ([(.string (⟨#[65]⟩ : ByteArray))], ((⟨#[65]⟩ : ByteArray) : ByteArray)), ([(.string (⟨#[97, 98, 99, 100, 101, 102, 103, 104]⟩ : ByteArray))], ((⟨#[97, 98, 99, 100, 101, 102, 103, 104]⟩ : ByteArray) : ByteArray)), ([(.string (⟨#[97, 98, 99, 100, 101, 102, 103, 104, 105]⟩ : ByteArray))], ((⟨#[97, 98, 99, 100, 101, 102, 103, 104, 105]⟩ : ByteArray) : ByteArray)), ([(.string (⟨#[120, 49]⟩ : ByteArray))], ((⟨#[120, 49]⟩ : ByteArray) : ByteArray))] (al1 (x := ((⟨#[98]⟩ : ByteArray) : ByteArray)) (rfl) (al1 (x := (ByteArray.empty : ByteArray)) (rfl) (al1 (x := ((⟨#[65]⟩ : ByteArray) : ByteArray)) (rfl) (al1 (x := ((⟨#[97, 98, 99, 100, 101, 102, 103, 104]⟩ : ByteArray) : ByteArray)) (rfl) (al1 (x := ((⟨#[97, 98, 99, 100, 101, 102, 103, 104, 105]⟩ : ByteArray) : ByteArray)) (rfl) (al1 (x := ((⟨#[120, 49]⟩ : ByteArray) : ByteArray)) (rfl) al0))))))) fun A9 a w hf H => ?_)
    have hS := H.lk 2 0 0 []
    refine aS hS ?_
    have H := H.freeze 0 rfl
    obtain ⟨y4, hy4, hB1⟩ := bs_ hB1
    refine nn 4 rfl (oC hf TF.cl93 (spec_l1Cur_of_ok (S := NB b0) (H.boxAt 3 rfl) ((L1CurP_mk (x := y3.2) (H.nb 3 rfl (H.get 1 rfl)))) (fun h => h rfl) (mk_list (H.nb 3 rfl (H.get 0 rfl))) hy4) fun v4 w a hp6 hf => ?_)
    obtain ⟨hch4, cs6, hbx4, hr6, ⟨hx9, hx10⟩, hs4⟩ := hp6
    obtain rfl := VR_str hs4
    obtain ⟨A10, c10, rfl, hl7⟩ := L1CurP_cells hr6
    obtain ⟨rfl, rfl⟩ := fx_slice hx9 rfl rfl
    have hx11 := hx10.trans hx8
    have H := H.wroteBox 3 rfl hch4 hbx4
    have H := H.pX 1 rfl hx10
    have hS := H.lk 2 0 0 []
    refine aS hS ?_
    obtain ⟨e2, he2, hB1⟩ := bs_ hB1
    refine nn 5 rfl (op_iaddrR hf H Tryz.underlying24 TF.sz9 1 rfl rfl rfl he2 (by decide) fun p2 o3 cs7 a hf hA2 hr7 hk2 => ?_)
    obtain rfl := hr7
    have hS := H.lk 2 0 0 []
    refine aS hS ?_
    refine nn 6 rfl (op_storeR (e' := y4.1) (o := o3) (off := 0) hf H TF.sz9 1 rfl rfl rfl rfl rfl (nle rfl) rfl hA2 he2 (st_full rfl) fun w H => ?_)
    replace hf : Fr a 104 [(0, (.pointer (some ⟨b0, 0, none⟩))), (2, (.pointer (some ⟨b2, 0, none⟩))), (3, (.pointer (some ⟨b3, 0, none⟩))), (4, (.int .i64 y2.1)), (5, (.pointer (some ⟨b4, 0, none⟩))), (27, (.pointer (some ⟨b3, 0, none⟩))), (28, (.slice A2 y.1.Nodes.length c3)), (29, (.pointer (some ⟨b0, 0, none⟩))), (30, (.slice A9 6 6)), (31, (.string y4.1)), (32, (.pointer (some ⟨p2, o3 + 0, none⟩)))] := hf.prune [0, 2, 3, 4, 5, 27, 28, 29, 30, 31, 32] rfl
    replace hf : Fr a 104 [(0, (.pointer (some ⟨b0, 0, none⟩))), (2, (.pointer (some ⟨b2, 0, none⟩))), (3, (.pointer (some ⟨b3, 0, none⟩))), (4, (.int .i64 y2.1)), (5, (.pointer (some ⟨b4, 0, none⟩))), (27, (.pointer (some ⟨b3, 0, none⟩))), (28, (.slice A2 (y.1.Nodes.set (0 : Int).toNat y4.1).length c3)), (29, (.pointer (some ⟨b0, 0, none⟩))), (30, (.slice A9 6 6)), (31, (.string y4.1)), (32, (.pointer (some ⟨p2, o3 + 0, none⟩)))] := by simpa only [List.length_set, Nat.add_zero] using hf
    replace H : Mem ⟨w0, [b0]⟩ S [⟨b4, 63, [(.int .i64 e.A), (.int .i64 e.B), (.int .i64 e.Length), (.int .i64 e.Risk)]⟩, ⟨b3, 27, [(.slice A2 (y.1.Nodes.set (0 : Int).toNat y4.1).length c3), (.slice A3 y.1.Fibers.length c4)]⟩, ⟨b2, 27, [(.slice none 0 0), (.slice none 0 0)]⟩, ⟨b0, 87, [(.slice A y4.2.code.length c2), (.int .i64 y4.2.at_), (.int .u64 y4.2.seed.n)]⟩] [⟨.sh true, E2, A3, c4, (y.1.Fibers : List Fiber)⟩, ⟨.sh true, E, A2, c3, (y.1.Nodes.set (0 : Int).toNat y4.1 : List ByteArray)⟩] [] [(false, MP.val [(.slice A y4.2.code.length c2)] (y4.2.code : List By)), (true, MP.val [(.slice A9 6 6)] ([(⟨#[98]⟩ : ByteArray), ByteArray.empty, (⟨#[65]⟩ : ByteArray), (⟨#[97, 98, 99, 100, 101, 102, 103, 104]⟩ : ByteArray), (⟨#[97, 98, 99, 100, 101, 102, 103, 104, 105]⟩ : ByteArray), (⟨#[120, 49]⟩ : ByteArray)] : List ByteArray)), (false, MP.val [(.slice A y3.2.code.length c2)] (y3.2.code : List By)), (false, MP.val [(.slice A y2.2.code.length c2)] (y2.2.code : List By)), (false, MP.val [(.slice A y.2.code.length c2)] (y.2.code : List By)), (false, MP.val [(.slice A c.code.length c2)] (c.code : List By))] w := by first | (simp only [List.length_set]; exact H) | (simp only [List.length_set] at H ⊢; exact H)
    refine ⟨fun h => absurd h (by decide), ?_⟩
    refine dk ?_
    have hf := hf.pn [2, 3, 4, 5]
    have H := H.lk 15 3 0 [0]
    exact then_n ⟨(y.1.Nodes.set (0 : Int).toNat y4.1, y4.2.code, y4.2.at_, y4.2.seed, e.A, e.B, e.Length, e.Risk, y.1.Fibers), (Option.some.inj hB1).symm, A2, c3, E, A3, c4, E2, hx11, hf, H⟩
   ·refine sqz (pz 2 hf fun a hf => ?_)
    refine wl_end (then_n (ib hB1 hf (fun hc3 hB1 => ?_) fun hc3 hB1 => ?_))
    ·refine reg (pz 1 hf fun a hf => ?_)
     obtain ⟨y5, hy5, hB1⟩ := bs_ hB1
     refine oc hf TF.cl75 (spec_l1Cur_pick_ok (S := NB b0) (H.boxAt 3 rfl) ((L1CurP_mk (x := y3.2) (H.nb 3 rfl (H.get 0 rfl)))) (fun h => h rfl) mk_int hy5) fun v5 w a hp7 hf => ?_
     obtain ⟨hch5, cs8, hbx5, hr8, ⟨hx12, hx13⟩, hs5⟩ := hp7
     obtain rfl := VR_int hs5
     obtain ⟨A11, c11, rfl, hl8⟩ := L1CurP_cells hr8
     obtain ⟨rfl, rfl⟩ := fx_slice hx12 rfl rfl
     have hx14 := hx13.trans hx8
     have H := H.wroteBox 3 rfl hch5 hbx5
     have H := H.pX 0 rfl hx13
     refine pz 2 hf fun a hf => ?_
     refine sB 0 hf H TF.sz3 fun w H => ?_
     refine wl_end ?_
     have hf := hf.pn [2, 3, 4, 5]
     have H := H.lk 15 3 0 [0]
     exact then_n ⟨(y.1.Nodes, y5.2.code, y5.2.at_, y5.2.seed, w64 (y5.1 - 1), e.B, e.Length, e.Risk, y.1.Fibers), (Option.some.inj hB1).symm, A2, c3, E, A3, c4, E2, hx14, hf, H⟩
    ·refine sqz (pz 2 hf fun a hf => ?_)
     refine wl_end (then_n (ib hB1 hf (fun hc4 hB1 => ?_) fun hc4 hB1 => ?_))
     ·refine reg (pz 1 hf fun a hf => ?_)
      obtain ⟨y6, hy6, hB1⟩ := bs_ hB1
      refine oc hf TF.cl75 (spec_l1Cur_pick_ok (S := NB b0) (H.boxAt 3 rfl) ((L1CurP_mk (x := y3.2) (H.nb 3 rfl (H.get 0 rfl)))) (fun h => h rfl) mk_int hy6) fun v6 w a hp8 hf => ?_
      obtain ⟨hch6, cs9, hbx6, hr9, ⟨hx15, hx16⟩, hs6⟩ := hp8
      obtain rfl := VR_int hs6
      obtain ⟨A12, c12, rfl, hl9⟩ := L1CurP_cells hr9
      obtain ⟨rfl, rfl⟩ := fx_slice hx15 rfl rfl
      have hx17 := hx16.trans hx8
      have H := H.wroteBox 3 rfl hch6 hbx6
      have H := H.pX 0 rfl hx16
      refine pz 2 hf fun a hf => ?_
      refine sB 0 hf H TF.sz3 fun w H => ?_
      have hf := hf.pn [2, 3, 4, 5]
      refine wl_end ?_
      have hf := hf.pn [2, 3, 4, 5]
      have H := H.lk 15 3 0 [0]
      exact then_n ⟨(y.1.Nodes, y6.2.code, y6.2.at_, y6.2.seed, e.A, w64 (y6.1 - 1), e.Length, e.Risk, y.1.Fibers), (Option.some.inj hB1).symm, A2, c3, E, A3, c4, E2, hx17, hf, H⟩
     ·refine sqz (pz 2 hf fun a hf => ?_)
      refine wl_end (then_n (ib hB1 hf (fun hc5 hB1 => ?_) fun hc5 hB1 => ?_))
      ·refine reg (pz 1 hf fun a hf => ?_)
       refine wl0 rfl (bl hf H 3 ([0, 1, 5000, 5001] : List Int) [(.int .i64 0), (.int .i64 1), (.int .i64 5000), (.int .i64 5001)] (elI [0, 1, 5000, 5001]) fun A13 a w hf H => ?_)
       have H := H.freeze 0 rfl
       obtain ⟨y7, hy7, hB1⟩ := bs_ hB1
       refine oc hf TF.cl94 (spec_l1Cur_among_ok (S := NB b0) (H.boxAt 3 rfl) ((L1CurP_mk (x := y3.2) (H.nb 3 rfl (H.get 1 rfl)))) (fun h => h rfl) (mk_list (H.nb 3 rfl (H.get 0 rfl))) hy7) fun v7 w a hp9 hf => ?_
       obtain ⟨hch7, cs10, hbx7, hr10, ⟨hx18, hx19⟩, hs7⟩ := hp9
       obtain rfl := VR_int hs7
       obtain ⟨A14, c13, rfl, hl10⟩ := L1CurP_cells hr10
       obtain ⟨rfl, rfl⟩ := fx_slice hx18 rfl rfl
       have hx20 := hx19.trans hx8
       have H := H.wroteBox 3 rfl hch7 hbx7
       have H := H.pX 1 rfl hx19
       refine pz 1 hf fun a hf => ?_
       refine sB 0 hf H TF.sz3 fun w H => ?_
       have hf := hf.pn [2, 3, 4, 5]
       refine wl_end ?_
       have hf := hf.pn [2, 3, 4, 5]
       have H := H.lk 15 3 0 [0]
       exact then_n ⟨(y.1.Nodes, y7.2.code, y7.2.at_, y7.2.seed, e.A, e.B, y7.1, e.Risk, y.1.Fibers), (Option.some.inj hB1).symm, A2, c3, E, A3, c4, E2, hx20, hf, H⟩
      ·refine sqz (pz 2 hf fun a hf => ?_)
       refine wl_end (then_n (ib hB1 hf (fun hc6 hB1 => ?_) fun hc6 hB1 => ?_))
       ·refine reg (pz 1 hf fun a hf => ?_)
        refine wl0 rfl (bl hf H 3 ([(-1), 9, 10] : List Int) [(.int .i64 (-1)), (.int .i64 9), (.int .i64 10)] (elI [(-1), 9, 10]) fun A15 a w hf H => ?_)
        have H := H.freeze 0 rfl
        obtain ⟨y8, hy8, hB1⟩ := bs_ hB1
        refine oc hf TF.cl94 (spec_l1Cur_among_ok (S := NB b0) (H.boxAt 3 rfl) ((L1CurP_mk (x := y3.2) (H.nb 3 rfl (H.get 1 rfl)))) (fun h => h rfl) (mk_list (H.nb 3 rfl (H.get 0 rfl))) hy8) fun v8 w a hp10 hf => ?_
        obtain ⟨hch8, cs11, hbx8, hr11, ⟨hx21, hx22⟩, hs8⟩ := hp10
        obtain rfl := VR_int hs8
        obtain ⟨A16, c14, rfl, hl11⟩ := L1CurP_cells hr11
        obtain ⟨rfl, rfl⟩ := fx_slice hx21 rfl rfl
        have hx23 := hx22.trans hx8
        have H := H.wroteBox 3 rfl hch8 hbx8
        have H := H.pX 1 rfl hx22
        refine pz 1 hf fun a hf => ?_
        refine sB 0 hf H TF.sz3 fun w H => ?_
        have hf := hf.pn [2, 3, 4, 5]
        refine wl_end ?_
        have hf := hf.pn [2, 3, 4, 5]
        have H := H.lk 15 3 0 [0]
        exact then_n ⟨(y.1.Nodes, y8.2.code, y8.2.at_, y8.2.seed, e.A, e.B, e.Length, y8.1, y.1.Fibers), (Option.some.inj hB1).symm, A2, c3, E, A3, c4, E2, hx23, hf, H⟩
       ·refine sqz (pz 2 hf fun a hf => ?_)
        refine wl_end (then_n (ib hB1 hf (fun hc7 hB1 => ?_) fun hc7 hB1 => ?_))
        ·refine dw [7, 9] 10 fun w hb => ?_
         have H := H.keep hb
         refine zp 0 hf trivial fun a hf => ?_
         refine strT (H.lk 2 0 0 []) (fun w H => trivial) fun hS => ?_
         refine zS 1 [1, 7, 8, 9] rfl rfl rfl rfl hf hS (fun w H => rq_loadB hf H TF.ls25 0 rfl rfl rfl) fun a hf => ?_
         refine zp 2 hf hS fun a hf => ?_
         refine zS 3 [3, 4, 5, 6, 7, 8, 9] rfl rfl rfl rfl hf hS (fun w H => rq_loadB hf H TF.ls25 0 rfl rfl rfl) fun a hf => ?_
         obtain ⟨e3, he3, hB1⟩ := bs_ hB1
         obtain ⟨p3, o4, hA3, hx24⟩ := pre_iaddrR H Tryz.underlying25 TF.sz63 0 rfl he3
         refine zP 4 rfl rfl rfl rfl hf hS (fun w => rq_iaddrE hf rfl rfl rfl hx24 w) fun a hf => ?_
         refine strT (H.lk 2 1 0 []) (fun w H => H.lk 1 0 0 []) fun hS => ?_
         refine zS 5 [5, 6, 7, 8, 9] rfl rfl rfl rfl hf hS (fun w H => rq_loadRowN (off := 0) hf H TF.la63 0 rfl rfl hA3 he3 rfl (fun w T cs h => by obtain rfl := Fiber_cells h; rfl)) fun a hf => ?_
         refine nn 6 rfl (bl hf H 63 ([e3] : List Fiber) [(.int .i64 e3.A), (.int .i64 e3.B), (.int .i64 e3.Length), (.int .i64 e3.Risk)] (el1 (y := e3) ((Fiber_mk (x := e3)))) fun A17 a w hf H => ?_)
         have hS := H.lk 2 2 0 []
         refine aS hS ?_
         obtain ⟨l, hl_, hB1⟩ := bs_ hB1
         refine nn 7 rfl (op_appR hf H Tryz.underlying25 TF.ai63 rfl (by decide) 1 0 rfl rfl rfl rfl (.inr rfl) hl_ (by decide) fun E5 A18 c15 a w hf H => ?_)
         refine ⟨fun h => absurd h (by decide), ?_⟩
         refine tp 8 rfl rfl hf (by kernel_rfl) (fun h => absurd h (by decide)) rfl fun a hf => ?_
         refine nn 9 rfl (op_storeB hf H 1 TF.sz25 rfl rfl rfl rfl rfl rfl (nle rfl) fun w H => ?_)
         refine ⟨fun h => absurd h (by decide), ?_⟩
         refine dk ?_
         have hf := hf.pn [2, 3, 4, 5]
         have hf := hf.pn [2, 3, 4, 5]
         have H := H.lk 15 6 0 [0]
         exact then_n ⟨(y.1.Nodes, y3.2.code, y3.2.at_, y3.2.seed, e.A, e.B, e.Length, e.Risk, l), (Option.some.inj hB1).symm, A2, c3, E, A18, c15, E5, hx8, hf, H⟩
        ·refine sqz (pz 2 hf fun a hf => ?_)
         have hf := hf.pn [0, 2, 3, 4, 5, 24, 68]
         refine wl_end (then_n (ib hB1 hf (fun hc8 hB1 => ?_) fun hc8 hB1 => ?_))
         ·refine sq ?_
          obtain ⟨out2, hB2, hB1⟩ := bs_ hB1
          have hf := hf.pn [0, 2, 3]
          have H := H.lk 14 3 0 [0]
          refine loopC (fun (s : List Fiber × List By × Int × U64) (a : Act) (w : World) => match s with | (m10, m11, m12, m13) => ∃ (A19 : Option Addr) (c16 : Nat) (E6 : Go.TypeId), m11 = c.code ∧ Fr a 104 [(0, (.pointer (some ⟨b0, 0, none⟩))), (2, (.pointer (some ⟨b2, 0, none⟩))), (3, (.pointer (some ⟨b3, 0, none⟩)))] ∧ Mem ⟨w0, [b0]⟩ S [⟨b3, 27, [(.slice A2 y.1.Nodes.length c3), (.slice A19 m10.length c16)]⟩, ⟨b2, 27, [(.slice none 0 0), (.slice none 0 0)]⟩, ⟨b0, 87, [(.slice A m11.length c2), (.int .i64 m12), (.int .u64 m13.n)]⟩] [⟨.sh true, E6, A19, c16, (m10 : List Fiber)⟩, ⟨.sh true, E, A2, c3, (y.1.Nodes : List ByteArray)⟩] [] [(false, MP.val [(.slice A m11.length c2)] (m11 : List By))] w) (fun k (s : List Fiber × List By × Int × U64) => spec_l1Cur_anyNetwork_L1 fu k s.1 s.2.1 s.2.2.1 s.2.2.2 = some out2) (fun s => out2 = s) (y.1.Fibers, y3.2.code, y3.2.at_, y3.2.seed) fu hB2 ⟨A3, c4, E2, hx8, hf, H⟩ (fun s h => by cases h) ?_ ?_
          ·rintro fk ⟨m10, m11, m12, m13⟩ a w hR2 hI
           replace hR2 : spec_l1Cur_anyNetwork_L1 fu (fk + 1) m10 m11 m12 m13 = some out2 := hR2
           rw [spec_l1Cur_anyNetwork_L1] at hR2
           obtain ⟨A19, c16, E6, hsm, hf, H⟩ := hI
           refine sq (sq (dw [] 7 fun w hb => ?_))
           have H := H.keep hb
           refine zp 0 hf trivial fun a hf => ?_
           refine strT (H.lk 1 0 0 []) (fun w H => trivial) fun hS => ?_
           refine zS 1 [] rfl rfl rfl rfl hf hS (fun w H => rq_loadB hf H TF.ls25 0 rfl rfl rfl) fun a hf => ?_
           refine zp 2 hf hS fun a hf => ?_
           refine zp 3 hf hS fun a hf => ?_
           obtain ⟨y9, hy9, hR2⟩ := bs_ hR2
           refine nn 4 rfl (oC hf TF.cl75 (spec_l1Cur_pick_ok (S := NB b0) (H.boxAt 2 rfl) ((L1CurP_mk (x := ({ code := m11, at_ := m12, seed := m13 } : L1CurP)) (H.nb 2 rfl (H.get 0 rfl)))) (fun h => h rfl) mk_int hy9) fun v9 w a hp11 hf => ?_)
           obtain ⟨hch9, cs12, hbx9, hr12, ⟨hx25, hx26⟩, hs9⟩ := hp11
           obtain rfl := VR_int hs9
           obtain ⟨A20, c17, rfl, hl12⟩ := L1CurP_cells hr12
           obtain ⟨rfl, rfl⟩ := fx_slice hx25 rfl rfl
           have hx27 := hx26.trans hsm
           have H := H.wroteBox 2 rfl hch9 hbx9
           have H := H.pX 0 rfl hx26
           have hS := H.lk 1 0 0 []
           refine aS hS ?_
           refine zp 5 hf hS fun a hf => ?_
           refine zp 6 hf hS fun a hf => ?_
           refine dk ?_
           refine then_n (ib hR2 hf (fun hc9 hR2 => ?_) fun hc9 hR2 => ?_)
           ·refine wp_skip (then_n (wp_block (dw [11, 13] 14 fun w hb => ?_)))
            have H := H.keep hb
            refine zp 0 hf trivial fun a hf => ?_
            refine strT (H.lk 1 0 0 []) (fun w H => trivial) fun hS => ?_
            refine zS 1 [1, 11, 12, 13] rfl rfl rfl rfl hf hS (fun w H => rq_loadB hf H TF.ls25 0 rfl rfl rfl) fun a hf => ?_
            refine zp 2 hf hS fun a hf => ?_
            refine zS 3 [3, 8, 9, 10, 11, 12, 13] rfl rfl rfl rfl hf hS (fun w H => rq_loadB hf H TF.ls25 0 rfl rfl rfl) fun a hf => ?_
            refine zp 4 hf hS fun a hf => ?_
            refine zS 5 [5, 6, 7, 8, 9, 10, 11, 12, 13] rfl rfl rfl rfl hf hS (fun w H => rq_loadB hf H TF.ls25 0 rfl rfl rfl) fun a hf => ?_
            refine zp 6 hf hS fun a hf => ?_
            refine zp 7 hf hS fun a hf => ?_
            obtain ⟨e4, he4, hR2⟩ := bs_ hR2
            obtain ⟨p4, o5, hA4, hx28⟩ := pre_iaddrR H Tryz.underlying25 TF.sz63 0 rfl he4
            refine zP 8 rfl rfl rfl rfl hf hS (fun w => rq_iaddrE hf rfl rfl rfl hx28 w) fun a hf => ?_
            refine strT (H.lk 1 1 0 []) (fun w H => H.lk 1 0 0 []) fun hS => ?_
            refine zS 9 [9, 10, 11, 12, 13] rfl rfl rfl rfl hf hS (fun w H => rq_loadRowN (off := 0) hf H TF.la63 0 rfl rfl hA4 he4 rfl (fun w T cs h => by obtain rfl := Fiber_cells h; rfl)) fun a hf => ?_
            refine nn 10 rfl (bl hf H 63 ([e4] : List Fiber) [(.int .i64 e4.A), (.int .i64 e4.B), (.int .i64 e4.Length), (.int .i64 e4.Risk)] (el1 (y := e4) ((Fiber_mk (x := e4)))) fun A21 a w hf H => ?_)
            have hS := H.lk 1 2 0 []
            refine aS hS ?_
            obtain ⟨l2, hl2_, hR2⟩ := bs_ hR2
            refine nn 11 rfl (op_appR hf H Tryz.underlying25 TF.ai63 rfl (by decide) 1 0 rfl rfl rfl rfl (.inr rfl) hl2_ (by decide) fun E7 A22 c18 a w hf H => ?_)
            refine ⟨fun h => absurd h (by decide), ?_⟩
            refine tp 12 rfl rfl hf (by kernel_rfl) (fun h => absurd h (by decide)) rfl fun a hf => ?_
            refine nn 13 rfl (op_storeB hf H 0 TF.sz25 rfl rfl rfl rfl rfl rfl (nle rfl) fun w H => ?_)
            refine ⟨fun h => absurd h (by decide), ?_⟩
            refine dk ?_
            have hf := hf.pn [0, 2, 3]
            refine blk_n ?_
            have hf := hf.pn [0, 2, 3]
            have H := H.lk 7 6 0 [0]
            exact then_n ⟨(l2, y9.2.code, y9.2.at_, y9.2.seed), hR2, A22, c18, E7, hx27, hf, H⟩
           ·refine wp_exit (then_x (then_x (blk_e (?_))))
            have hf := hf.pn [0, 2, 3]
            have H := H.lk 7 3 0 [0]
            exact ⟨(m10, y9.2.code, y9.2.at_, y9.2.seed), (Option.some.inj hR2).symm, A19, c16, E6, hx27, hf, H⟩
          rintro a w ⟨⟨m14, m15, m16, m17⟩, rfl, A23, c19, E8, hsm, hf, H⟩
          try dsimp only at hsm
          try dsimp only at hB1
          refine then_n (sq (reg (lN 0 hf H TF.la27 fun a hf => ?_)))
          refine sB 1 hf H TF.sz27 fun w H => ?_
          refine wl_end (then_n (wp_ret (then_r (blk_r (then_r (?_))))))
          have H := H.rowOwn 1 rfl rfl
          obtain ⟨F6, H⟩ := H.freezeOwn 1 rfl
          have H := H.lend 0 rfl
          have H := H.rowOwn 0 rfl rfl
          obtain ⟨F7, H⟩ := H.freezeOwn 0 rfl
          have H := H.lend 0 rfl
          have H := H.frontD 1 rfl
          obtain rfl := oi hB1
          replace hF := on_ret hF
          obtain rfl := oi hF
          refine ret_1 hf rfl (rv_cellN hf H 1 TF.la27 rfl rfl rfl) ?_
          have hN := H.endsB2 2 rfl
          exact ⟨_, rfl, H.chg, _, H.boxAt 2 rfl, (L1CurP_mk (x := ({ code := m15, at_ := m16, seed := m17 } : L1CurP)) (eB 2 (H.get 2 rfl))), ⟨fxc hsm, hsm⟩, (F6 ++ F7), ⟨_, Network_ownmk (x := ({ Nodes := y.1.Nodes, Fibers := m14 } : Network)) (H.ownAt 0 rfl) (H.ownAt 1 rfl), rfl⟩, by first | exact hN | simpa using hN⟩
         ·refine sqz (pz 2 hf fun a hf => ?_)
          refine wl_end (then_n (ib hB1 hf (fun hc10 hB1 => ?_) fun hc10 hB1 => ?_))
          ·refine reg (pz 1 hf fun a hf => ?_)
           refine lB 1 hf H TF.ls24 fun a hf => ?_
           refine wl0 rfl (bl hf H 9 ([(⟨#[112]⟩ : ByteArray), (⟨#[113]⟩ : ByteArray), (⟨#[114]⟩ : ByteArray), (⟨#[115]⟩ : ByteArray)] : List ByteArray) [(.string (⟨#[112]⟩ : ByteArray)), (.string (⟨#[113]⟩ : ByteArray)), (.string (⟨#[114]⟩ : ByteArray)), (.string (⟨#[115]⟩ : ByteArray))] (elL [([(.string (⟨#[112]⟩ : ByteArray))], ((⟨#[112]⟩ : ByteArray) : ByteArray)), ([(.string (⟨#[113]⟩ : ByteArray))], ((⟨#[113]⟩ : ByteArray) : ByteArray)), ([(.string (⟨#[114]⟩ : ByteArray))], ((⟨#[114]⟩ : ByteArray) : ByteArray)), ([(.string (⟨#[115]⟩ : ByteArray))], ((⟨#[115]⟩ : ByteArray) : ByteArray))] (al1 (x := ((⟨#[112]⟩ : ByteArray) : ByteArray)) (rfl) (al1 (x := ((⟨#[113]⟩ : ByteArray) : ByteArray)) (rfl) (al1 (x := ((⟨#[114]⟩ : ByteArray) : ByteArray)) (rfl) (al1 (x := ((⟨#[115]⟩ : ByteArray) : ByteArray)) (rfl) al0))))) fun A24 a w hf H => ?_)
           obtain ⟨l3, hl3_, hB1⟩ := bs_ hB1
           refine wl0 rfl (op_appR hf H Tryz.underlying24 TF.ai9 rfl (by decide) 2 0 rfl rfl rfl rfl (.inr rfl) hl3_ (by decide) fun E9 A25 c20 a w hf H => ?_)
           refine pz 1 hf fun a hf => ?_
           refine sB 1 hf H TF.sz24 fun w H => ?_
           refine wl_end ?_
           have hf := hf.pn [2, 3, 4, 5]
           have H := H.lk 15 6 0 [0]
           exact then_n ⟨(l3, y3.2.code, y3.2.at_, y3.2.seed, e.A, e.B, e.Length, e.Risk, y.1.Fibers), (Option.some.inj hB1).symm, A25, c20, E9, A3, c4, E2, hx8, hf, H⟩
          ·refine wp_skip ?_
           have hf := hf.pn [2, 3, 4, 5]
           have H := H.lk 15 3 0 [0]
           exact then_n ⟨(y.1.Nodes, y3.2.code, y3.2.at_, y3.2.seed, e.A, e.B, e.Length, e.Risk, y.1.Fibers), (Option.some.inj hB1).symm, A2, c3, E, A3, c4, E2, hx8, hf, H⟩
  rintro a w ⟨⟨m18, m19, m20, m21, m22, m23, m24, m25, m26⟩, rfl, A26, c21, E10, A27, c22, E11, hsm2, hf, H⟩
  try dsimp only at hsm2
  replace hF := on_next hF
  try dsimp only at hF
  refine blk_n (then_n (sqz (pz 1 hf fun a hf => ?_)))
  refine lB 1 hf H TF.ls25 fun a hf => ?_
  refine pz 1 hf fun a hf => ?_
  refine lN 0 hf H TF.la63 fun a hf => ?_
  obtain ⟨e5, he5, hF⟩ := bs_ hF
  refine wl0 rfl (op_iaddrR hf H Tryz.underlying25 TF.sz63 0 rfl rfl rfl he5 (by decide) fun p5 o6 cs13 a hf hA5 hr13 hk3 => ?_)
  obtain rfl := Fiber_cells hr13
  refine wl0 rfl (op_storeR (e' := ({ A := m22, B := m23, Length := m24, Risk := m25 } : Fiber)) (o := o6) (off := 0) hf H TF.sz63 0 rfl rfl rfl rfl rfl (nle rfl) rfl hA5 he5 (st_full (Fiber_mk (x := ({ A := m22, B := m23, Length := m24, Risk := m25 } : Fiber)))) fun w H => ?_)
  replace hf : Fr a 104 [(2, (.pointer (some ⟨b2, 0, none⟩))), (3, (.pointer (some ⟨b3, 0, none⟩))), (4, (.int .i64 y2.1)), (5, (.pointer (some ⟨b4, 0, none⟩))), (98, (.pointer (some ⟨b3, 1, none⟩))), (99, (.slice A27 m26.length c22)), (100, (.int .i64 y2.1)), (101, (.agg #[(.int .i64 m22), (.int .i64 m23), (.int .i64 m24), (.int .i64 m25)])), (102, (.pointer (some ⟨p5, o6 + 0, none⟩)))] := hf.prune [2, 3, 4, 5, 98, 99, 100, 101, 102] rfl
  replace hf : Fr a 104 [(2, (.pointer (some ⟨b2, 0, none⟩))), (3, (.pointer (some ⟨b3, 0, none⟩))), (4, (.int .i64 y2.1)), (5, (.pointer (some ⟨b4, 0, none⟩))), (98, (.pointer (some ⟨b3, 1, none⟩))), (99, (.slice A27 (m26.set (y2.1 : Int).toNat ({ A := m22, B := m23, Length := m24, Risk := m25 } : Fiber)).length c22)), (100, (.int .i64 y2.1)), (101, (.agg #[(.int .i64 m22), (.int .i64 m23), (.int .i64 m24), (.int .i64 m25)])), (102, (.pointer (some ⟨p5, o6 + 0, none⟩)))] := by simpa only [List.length_set, Nat.add_zero] using hf
  replace H : Mem ⟨w0, [b0]⟩ S [⟨b4, 63, [(.int .i64 m22), (.int .i64 m23), (.int .i64 m24), (.int .i64 m25)]⟩, ⟨b3, 27, [(.slice A26 m18.length c21), (.slice A27 (m26.set (y2.1 : Int).toNat ({ A := m22, B := m23, Length := m24, Risk := m25 } : Fiber)).length c22)]⟩, ⟨b2, 27, [(.slice none 0 0), (.slice none 0 0)]⟩, ⟨b0, 87, [(.slice A m19.length c2), (.int .i64 m20), (.int .u64 m21.n)]⟩] [⟨.sh true, E11, A27, c22, (m26.set (y2.1 : Int).toNat ({ A := m22, B := m23, Length := m24, Risk := m25 } : Fiber) : List Fiber)⟩, ⟨.sh true, E10, A26, c21, (m18 : List ByteArray)⟩] [] [(false, MP.val [(.slice A m19.length c2)] (m19 : List By))] w := by first | (simp only [List.length_set]; exact H) | (simp only [List.length_set] at H ⊢; exact H)
  refine wr (lN 1 hf H TF.la27 fun a hf => ?_)
  refine sB 2 hf H TF.sz27 fun w H => ?_
  refine wer ?_
  have H := H.rowOwn 1 rfl rfl
  obtain ⟨F8, H⟩ := H.freezeOwn 1 rfl
  have H := H.lend 0 rfl
  have H := H.rowOwn 0 rfl rfl
  obtain ⟨F9, H⟩ := H.freezeOwn 0 rfl
  have H := H.lend 0 rfl
  have H := H.frontD 1 rfl
  obtain rfl := oi hF
  refine ret_1 hf rfl (rv_cellN hf H 2 TF.la27 rfl rfl rfl) ?_
  have hN := H.endsB2 3 rfl
  exact ⟨_, rfl, H.chg, _, H.boxAt 3 rfl, (L1CurP_mk (x := ({ code := m19, at_ := m20, seed := m21 } : L1CurP)) (eB 3 (H.get 2 rfl))), ⟨fxc hsm2, hsm2⟩, (F8 ++ F9), ⟨_, Network_ownmk (x := ({ Nodes := m18, Fibers := m26.set (y2.1 : Int).toNat ({ A := m22, B := m23, Length := m24, Risk := m25 } : Fiber) } : Network)) (H.ownAt 0 rfl) (H.ownAt 1 rfl), rfl⟩, by first | exact hN | simpa using hN⟩
theorem spec_l2Other_ok {S : Nat → Prop} {v0_ : Value} {v1_ : Value} {v2_ : Value} {n' : Network} {fiber : Int} {node : Int} {r : Int} (h0 : VR w0 S v0_ n') (h1 : VR w0 S v1_ fiber) (h2 : VR w0 S v2_ node) (hF : spec_l2Other fu n' fiber node = some r) :
    Calls Tryz.prog 111 [v0_, v1_, v2_].toArray w0 fun e w' => ∃ v, e = .returned v ∧ (Below w0.heap.size w0 w' ∧ VR w' (St ⟨w0, []⟩ S [] [] [] true) v r) := by
 obtain ⟨A, c, A2, c2, rfl, hl, hl2⟩ := Network_open h0
 obtain rfl := VR_int h1
 obtain rfl := VR_int h2
 have H := Mem.start ⟨w0, []⟩ S
 have H := H.pA hl
 have H := H.pA hl2
 refine en Tryz.func111 fun a hf => ?_
 rw [spec_l2Other] at hF
 refine bx hf H fun b' a w hf H => ?_
 refine pz 1 hf fun a hf => ?_
 refine wr (pz 1 hf fun a hf => ?_)
 refine lB 0 hf H TF.ls25 fun a hf => ?_
 refine pz 1 hf fun a hf => ?_
 obtain ⟨e, he, hF⟩ := bs_ hF
 refine wl0 rfl (op_iaddr hf H Tryz.underlying25 TF.sz63 0 rfl rfl rfl he (by decide) fun p o cs a hf hr H => ?_)
 obtain rfl := Fiber_cells hr
 refine oq hf (rq_loadIN hf H TF.la63 0 0 rfl rfl rfl rfl) fun a hf => ?_
 refine aL hf H TF.zv63 fun b2 a w hf H => ?_
 refine sB 0 hf H TF.sz63 fun w H => ?_
 refine we (sqz (pz 1 hf fun a hf => ?_))
 refine wl_end (then_n (wp_block (sqz (pz 1 hf fun a hf => ?_))))
 refine lB 0 hf H TF.ls3 fun a hf => ?_
 refine pz 2 hf fun a hf => ?_
 have hf := hf.pn [7, 13, 14]
 refine wl_end (then_n (ib hF hf (fun hc hF => ?_) fun hc hF => ?_))
 ·refine sqz (pz 1 hf fun a hf => ?_)
  refine lB 0 hf H TF.ls3 fun a hf => ?_
  refine pz 1 hf fun a hf => ?_
  refine wl_end (then_n (wp_ret (blk_r (then_r (?_)))))
  obtain rfl := oi hF
  refine rT hf ?_
  exact ⟨_, rfl, H.bel, mk_int⟩
 ·refine sqz (pz 1 hf fun a hf => ?_)
  refine lB 0 hf H TF.ls3 fun a hf => ?_
  refine pz 2 hf fun a hf => ?_
  refine wl_end (then_n (ib hF hf (fun hc2 hF => ?_) fun hc2 hF => ?_))
  ·refine sqz (pz 1 hf fun a hf => ?_)
   refine lB 0 hf H TF.ls3 fun a hf => ?_
   refine pz 1 hf fun a hf => ?_
   refine wl_end (then_n (wp_ret (blk_r (then_r (?_)))))
   obtain rfl := oi hF
   refine rT hf ?_
   exact ⟨_, rfl, H.bel, mk_int⟩
  ·refine wp_skip (blk_n (then_n (sqz (pz 1 hf fun a hf => ?_))))
   refine wer ?_
   obtain rfl := oi hF
   refine rT hf ?_
   exact ⟨_, rfl, H.bel, mk_int⟩
theorem spec_l1Has_ok {S : Nat → Prop} {v0_ : Value} {v1_ : Value} {l : List Int} {n' : Int} {r : Bool} (h0 : VR w0 S v0_ l) (h1 : VR w0 S v1_ n') (hF : spec_l1Has fu l n' = some r) :
    Calls Tryz.prog 112 [v0_, v1_].toArray w0 fun e w' => ∃ v, e = .returned v ∧ (Below w0.heap.size w0 w' ∧ VR w' (St ⟨w0, []⟩ S [] [] [] true) v r) := by
 obtain ⟨A, c, rfl, hl⟩ := VR_list h0
 obtain rfl := VR_int h1
 have H := Mem.start ⟨w0, []⟩ S
 have H := H.pA hl
 refine en Tryz.func112 fun a hf => ?_
 rw [spec_l1Has] at hF
 refine sqz (pz 1 hf fun a hf => ?_)
 refine we (sqz (pz 1 hf fun a hf => ?_))
 refine wl_end (then_n ?_)
 obtain ⟨out', hB1, hF⟩ := bs_ hF
 have hf := hf.pn [0, 1, 5]
 have H := H.lk 0 0 0 [0]
 refine loopC (fun (s : Int) (a : Act) (w : World) => match s with | i => Fr a 18 [(0, (.slice A l.length c)), (1, (.int .i64 n')), (5, (.int .i64 i))] ∧ Mem ⟨w0, []⟩ S [] [] [] [(false, MP.val [(.slice A l.length c)] (l : List Int))] w) (fun k (s : Int) => spec_l1Has_L1 fu l n' k s = some out') (fun s => out' = Out.next s) 0 fu hB1 ⟨hf, H⟩ (fun s h => by cases h) ?_ ?_
 ·rintro fk i a w hR1 hI
  replace hR1 : spec_l1Has_L1 fu l n' (fk + 1) i = some out' := hR1
  rw [spec_l1Has_L1] at hR1
  obtain ⟨hf, H⟩ := hI
  refine sq (sqz (pz 4 hf fun a hf => ?_))
  refine wl_end (then_n (ib hR1 hf (fun hc hR1 => ?_) fun hc hR1 => ?_))
  ·refine ws (pz 2 hf fun a hf => ?_)
   obtain ⟨e, he, hR1⟩ := bs_ hR1
   refine wl0 rfl (op_iaddr hf H Tryz.underlying28 TF.sz3 0 rfl rfl rfl he (by decide) fun p o cs a hf hr H => ?_)
   obtain rfl := hr
   refine oq hf (rq_loadI hf H TF.ls3 0 0 rfl rfl rfl) fun a hf => ?_
   refine pz 2 hf fun a hf => ?_
   refine wl_end (then_n (ib hR1 hf (fun hc2 hR1 => ?_) fun hc2 hR1 => ?_))
   ·refine sqz (pz 1 hf fun a hf => ?_)
    have hf := hf.pn [4]
    refine wl_end (then_n (wp_ret (blk_r (then_r (then_r (blk_r (then_r (then_r (?_)))))))))
    obtain rfl := oi hR1
    replace hF := on_ret hF
    obtain rfl := oi hF
    refine rT hf ?_
    exact ⟨_, rfl, H.bel, mk_bool⟩
   ·refine wp_skip (blk_n (then_n (reg (pz 3 hf fun a hf => ?_))))
    refine wl_end ?_
    have hf := hf.pn [0, 1, 5]
    have H := H.lk 0 0 0 [1]
    exact then_n ⟨w64 (i + 1), hR1, hf, H⟩
  ·refine wp_exit (then_x (then_x (blk_e (?_))))
   have hf := hf.pn [0, 1, 5]
   have H := H.lk 0 0 0 [0]
   exact ⟨i, (Option.some.inj hR1).symm, hf, H⟩
 rintro a w ⟨i2, rfl, hf, H⟩
 replace hF := on_next hF
 refine then_n (sqz (pz 1 hf fun a hf => ?_))
 refine wer ?_
 obtain rfl := oi hF
 refine rT hf ?_
 exact ⟨_, rfl, H.bel, mk_bool⟩
theorem spec_l1Cur_route_ok {S : Nat → Prop} {b0 : Nat} {cs0 : List Value} {v1_ : Value} {c : L1CurP} {n' : Network} {r : Route × L1CurP} (hp0 : w0.heap[b0]? = some (.cells cs0.toArray 87 (0, 0))) (hr0 : GoTy.rep w0 S cs0 c) (hS0 : ¬ S b0) (h1 : VR w0 S v1_ n') (hF : spec_l1Cur_route fu c n' = some r) :
    Calls Tryz.prog 95 [(.pointer (some ⟨b0, 0, none⟩)), v1_].toArray w0 fun e w' => ∃ v, e = .returned v ∧ (Chg w0 w' [b0] ∧ ∃ cs', w'.heap[b0]? = some (.cells cs'.toArray 87 (0, 0)) ∧ GoTy.rep w' (St ⟨w0, [b0]⟩ S [⟨b0, 87, cs'⟩] [] [] false) cs' r.2 ∧ (cs'[0]? = cs0[0]? ∧ r.2.code = c.code) ∧ ∃ F0, VO w' F0 v r.1 ∧ New w0 w' F0) := by
 obtain ⟨A, c2, rfl, hl⟩ := L1CurP_cells hr0
 obtain ⟨A2, c3, A3, c4, rfl, hl2, hl3⟩ := Network_open h1
 have H := Mem.startB S hp0
 have H := H.pB hS0 hl
 have H := H.pB hS0 hl2
 have H := H.pB hS0 hl3
 refine en Tryz.func95 fun a hf => ?_
 rw [spec_l1Cur_route] at hF
 refine bx hf H fun b3 a w hf H => ?_
 refine aL hf H TF.zv30 fun b4 a w hf H => ?_
 refine wr (pz 2 hf fun a hf => ?_)
 refine lB 1 hf H TF.ls24 fun a hf => ?_
 refine pz 1 hf fun a hf => ?_
 obtain ⟨y, hy, hF⟩ := bs_ hF
 refine oc hf TF.cl75 (spec_l1Cur_pick_ok (S := NB b0) (H.boxAt 2 rfl) ((L1CurP_mk (x := c) (H.nb 2 rfl (H.get 2 rfl)))) (fun h => h rfl) mk_int hy) fun v w a hp3 hf => ?_
 obtain ⟨hch, cs3, hbx, hr3, ⟨hx, hx2⟩, hs⟩ := hp3
 obtain rfl := VR_int hs
 obtain ⟨A4, c5, rfl, hl4⟩ := L1CurP_cells hr3
 obtain ⟨rfl, rfl⟩ := fx_slice hx rfl rfl
 have H := H.wroteBox 2 rfl hch hbx
 have H := H.pX 2 rfl hx2
 refine pz 1 hf fun a hf => ?_
 refine wr (pz 1 hf fun a hf => ?_)
 refine oq hf (rq_build hf (cs := [(.int .i64 y.1), (.slice none 0 0)]) rfl (fun w => by kernel_rfl)) fun a hf => ?_
 refine aL hf H TF.zv30 fun b5 a w hf H => ?_
 refine sB 0 hf H TF.sz30 fun w H => ?_
 refine wr (pz 1 hf fun a hf => ?_)
 refine wl0 rfl (bl hf H 3 ([y.1] : List Int) [(.int .i64 y.1)] (el1 (y := y.1) (rfl)) fun A5 a w hf H => ?_)
 refine pz 1 hf fun a hf => ?_
 refine we (sqz (pz 1 hf fun a hf => ?_))
 obtain ⟨y2, hy2, hF⟩ := bs_ hF
 refine oc hf TF.cl75 (spec_l1Cur_pick_ok (S := NB b0) (H.boxAt 3 rfl) ((L1CurP_mk (x := y.2) (H.nb 3 rfl (H.get 0 rfl)))) (fun h => h rfl) mk_int hy2) fun v2 w a hp4 hf => ?_
 obtain ⟨hch2, cs4, hbx2, hr4, ⟨hx3, hx4⟩, hs2⟩ := hp4
 obtain rfl := VR_int hs2
 obtain ⟨A6, c6, rfl, hl5⟩ := L1CurP_cells hr4
 obtain ⟨rfl, rfl⟩ := fx_slice hx3 rfl rfl
 have hx5 := hx4.trans hx2
 have H := H.wroteBox 3 rfl hch2 hbx2
 have H := H.pX 0 rfl hx4
 refine pz 2 hf fun a hf => ?_
 have hf := hf.pn [0, 3, 4, 6, 7, 8]
 refine wl_end (then_n ?_)
 have H := H.nilRow (Int) (.sh true) rfl trivial 3
 obtain ⟨out', hB1, hF⟩ := bs_ hF
 have hf := hf.pn [0, 3, 4, 6, 7, 8]
 have H := H.lm 15 3 0 4 13
 refine loopC (fun (s : List Int × Int × List Int × List By × Int × U64) (a : Act) (w : World) => match s with | (seen, m, m2, m3, m4, m5) => ∃ (A7 : Option Addr) (c7 : Nat) (E : Go.TypeId) (A8 : Option Addr) (c8 : Nat) (E2 : Go.TypeId), m3 = c.code ∧ Fr a 87 [(0, (.pointer (some ⟨b0, 0, none⟩))), (3, (.pointer (some ⟨b3, 0, none⟩))), (4, (.pointer (some ⟨b4, 0, none⟩))), (6, (.pointer (some ⟨b5, 0, none⟩))), (7, (.slice A7 seen.length c7)), (8, (.int .i64 m))] ∧ Mem ⟨w0, [b0]⟩ S [⟨b5, 30, [(.int .i64 y.1), (.slice A8 m2.length c8)]⟩, ⟨b4, 30, [(.int .i64 0), (.slice none 0 0)]⟩, ⟨b3, 27, [(.slice A2 n'.Nodes.length c3), (.slice A3 n'.Fibers.length c4)]⟩, ⟨b0, 87, [(.slice A m3.length c2), (.int .i64 m4), (.int .u64 m5.n)]⟩] [⟨.sh true, E2, A8, c8, (m2 : List Int)⟩, ⟨.sh true, E, A7, c7, (seen : List Int)⟩] [] [(false, MP.val [(.slice A m3.length c2)] (m3 : List By)), (false, MP.val [(.slice A3 n'.Fibers.length c4)] (n'.Fibers : List Fiber)), (false, MP.val [(.slice A2 n'.Nodes.length c3)] (n'.Nodes : List ByteArray))] w) (fun k (s : List Int × Int × List Int × List By × Int × U64) => spec_l1Cur_route_L1 fu n' y k s.1 s.2.1 s.2.2.1 s.2.2.2.1 s.2.2.2.2.1 s.2.2.2.2.2 = some out') (fun s => out' = s) ([y.1], w64 (1 + y2.1), ([] : List Int), y2.2.code, y2.2.at_, y2.2.seed) fu hB1 ⟨A5, 1, 3, none, 0, 3, hx5, hf, H⟩ (fun s h => by cases h) ?_ ?_
 ·rintro fk ⟨seen, m, m2, m3, m4, m5⟩ a w hR1 hI
  replace hR1 : spec_l1Cur_route_L1 fu n' y (fk + 1) seen m m2 m3 m4 m5 = some out' := hR1
  rw [spec_l1Cur_route_L1] at hR1
  obtain ⟨A7, c7, E, A8, c8, E2, hsm, hf, H⟩ := hI
  refine sq (sqz (pz 2 hf fun a hf => ?_))
  refine wl_end (then_n (ib hR1 hf (fun hc hR1 => ?_) fun hc hR1 => ?_))
  ·refine ws (wl0 rfl (bl hf H 3 ([] : List Int) [] el0 fun A9 a w hf H => ?_))
   refine pz 1 hf fun a hf => ?_
   refine we (sqz (pz 1 hf fun a hf => ?_))
   refine wl_end (then_n ?_)
   obtain ⟨out2, hB2, hR1⟩ := bs_ hR1
   have hf := hf.pn [0, 3, 4, 6, 7, 8, 9, 10]
   have H := H.lm 15 7 0 3 7
   refine loopC (fun (s : List Int × Int) (a : Act) (w : World) => match s with | (list, i) => ∃ (A10 : Option Addr) (c9 : Nat) (E3 : Go.TypeId), Fr a 87 [(0, (.pointer (some ⟨b0, 0, none⟩))), (3, (.pointer (some ⟨b3, 0, none⟩))), (4, (.pointer (some ⟨b4, 0, none⟩))), (6, (.pointer (some ⟨b5, 0, none⟩))), (7, (.slice A7 seen.length c7)), (8, (.int .i64 m)), (9, (.slice A10 list.length c9)), (10, (.int .i64 i))] ∧ Mem ⟨w0, [b0]⟩ S [⟨b5, 30, [(.int .i64 y.1), (.slice A8 m2.length c8)]⟩, ⟨b4, 30, [(.int .i64 0), (.slice none 0 0)]⟩, ⟨b3, 27, [(.slice A2 n'.Nodes.length c3), (.slice A3 n'.Fibers.length c4)]⟩, ⟨b0, 87, [(.slice A m3.length c2), (.int .i64 m4), (.int .u64 m5.n)]⟩] [⟨.sh true, E3, A10, c9, (list : List Int)⟩, ⟨.sh true, E2, A8, c8, (m2 : List Int)⟩, ⟨.sh true, E, A7, c7, (seen : List Int)⟩] [] [(false, MP.val [(.slice A m3.length c2)] (m3 : List By)), (false, MP.val [(.slice A3 n'.Fibers.length c4)] (n'.Fibers : List Fiber)), (false, MP.val [(.slice A2 n'.Nodes.length c3)] (n'.Nodes : List ByteArray))] w) (fun k (s : List Int × Int) => spec_l1Cur_route_L2 fu n' y seen k s.1 s.2 = some out2) (fun s => out2 = s) (([] : List Int), 0) fu hB2 ⟨A9, 0, 3, hf, H⟩ (fun s h => by cases h) ?_ ?_
   ·rintro fk ⟨list, i⟩ a w hR2 hI
    replace hR2 : spec_l1Cur_route_L2 fu n' y seen (fk + 1) list i = some out2 := hR2
    rw [spec_l1Cur_route_L2] at hR2
    obtain ⟨A10, c9, E3, hf, H⟩ := hI
    refine sq (sqz (pz 2 hf fun a hf => ?_))
    refine lB 2 hf H TF.ls25 fun a hf => ?_
    refine pz 2 hf fun a hf => ?_
    refine wl_end (then_n (ib hR2 hf (fun hc2 hR2 => ?_) fun hc2 hR2 => ?_))
    ·refine wp_skip (then_n (sq (wp_block (sq (dw [] 10 fun w hb => ?_)))))
     have H := H.keep hb
     refine strT (H.lk 4 0 0 []) (fun w H => trivial) fun hS => ?_
     refine zS 0 [] rfl rfl rfl rfl hf hS (fun w H => rq_loadBN hf H TF.la27 0 rfl rfl rfl rfl) fun a hf => ?_
     refine zp 1 hf hS fun a hf => ?_
     refine zp 2 hf hS fun a hf => ?_
     refine zp 3 hf hS fun a hf => ?_
     refine zp 4 hf hS fun a hf => ?_
     refine zp 5 hf hS fun a hf => ?_
     obtain ⟨e, he, hR2⟩ := bs_ hR2
     obtain ⟨p, o3, hA, hx6⟩ := pre_iaddrR H Tryz.underlying28 TF.sz3 2 rfl he
     refine zP 6 rfl rfl rfl rfl hf hS (fun w => rq_iaddrE hf rfl rfl rfl hx6 w) fun a hf => ?_
     refine strT (H.lk 4 4 0 []) (fun w H => H.lk 1 0 0 []) fun hS => ?_
     refine zS 7 [] rfl rfl rfl rfl hf hS (fun w H => rq_loadRow (off := 0) hf H TF.ls3 0 rfl rfl hA he (fun w T cs h => by obtain rfl := h; rfl)) fun a hf => ?_
     obtain ⟨y3, hy3, hR2⟩ := bs_ hR2
     refine nn 8 rfl (oC hf TF.cl111 (spec_l2Other_ok (S := TT) (Network_mkv (x := n') (H.rt 2 rfl) (H.rt 1 rfl)) mk_int mk_int hy3) fun v3 w a hp5 hf => ?_)
     obtain ⟨hb, hp5⟩ := hp5
     obtain rfl := VR_int hp5
     have H := H.keep hb
     have hS := H.lk 4 4 0 []
     refine aS hS ?_
     refine zp 9 hf hS fun a hf => ?_
     refine dk ?_
     have hf := hf.pn [0, 3, 4, 6, 7, 8, 9, 10, 11]
     refine then_n (sq ?_)
     obtain ⟨c10, hGc10, hR2⟩ := bs_ hR2
     have fh := hf.prune [0, 3, 4, 6, 7, 8, 9, 10] rfl
     have Hm := H.lm 15 7 0 3 7
     refine midF 53 (.bool c10) fh Hm ?_ fun a w hf H => ?_
     ·refine reg (pz 3 hf fun a hf => ?_)
      refine iteB hGc10 (fun hc3 hGc10 => ?_) fun hc3 hGc10 => ?_
      ·have hf := hf.lit 48 rfl hc3
       refine pz 2 hf fun a hf => ?_
       obtain ⟨y4, hy4, hGc10⟩ := bs_ hGc10
       refine wlg hf rfl rfl rfl (oC hf TF.cl112 (spec_l1Has_ok (S := TT) (mk_list (H.rowTrue 2 rfl)) mk_int hy4) fun v4 w a hp6 hf => ?_)
       obtain ⟨hb2, hp6⟩ := hp6
       obtain rfl := VR_bool hp6
       have H := H.keep hb2
       refine pz 2 hf fun a hf => ?_
       obtain rfl := oi hGc10
       have hf := hf.pn [53, 0, 3, 4, 6, 7, 8, 9, 10]
       have H := H.lm 15 7 0 3 7
       exact wl_end ⟨hf, H⟩
      ·have hf := hf.lit 48 rfl hc3
       refine pz 5 hf fun a hf => ?_
       obtain rfl := oi hGc10
       have hf := hf.pn [53, 0, 3, 4, 6, 7, 8, 9, 10]
       have H := H.lm 15 7 0 3 7
       exact wl_end ⟨hf, H⟩
     refine then_n (ib hR2 hf (fun hc4 hR2 => ?_) fun hc4 hR2 => ?_)
     ·refine reg (pz 2 hf fun a hf => ?_)
      refine wl0 rfl (bl hf H 3 ([i] : List Int) [(.int .i64 i)] (el1 (y := i) (rfl)) fun A11 a w hf H => ?_)
      obtain ⟨l, hl_, hR2⟩ := bs_ hR2
      refine wl0 rfl (op_appR hf H Tryz.underlying28 TF.ai3 rfl (by decide) 1 0 rfl rfl rfl rfl (.inr rfl) hl_ (by decide) fun E4 A12 c11 a w hf H => ?_)
      refine pz 1 hf fun a hf => ?_
      refine wl_end (blk_n (then_n (reg (pz 3 hf fun a hf => ?_))))
      refine wl_end ?_
      have hf := hf.pn [0, 3, 4, 6, 7, 8, 9, 10]
      have H := H.lm 15 14 0 3 7
      exact then_n ⟨(l, w64 (i + 1)), hR2, A12, c11, E4, hf, H⟩
     ·refine wp_skip (blk_n (then_n (reg (pz 3 hf fun a hf => ?_))))
      refine wl_end ?_
      have hf := hf.pn [0, 3, 4, 6, 7, 8, 9, 10]
      have H := H.lm 15 7 0 3 7
      exact then_n ⟨(list, w64 (i + 1)), hR2, A10, c9, E3, hf, H⟩
    ·refine wp_exit (then_x (then_x (blk_e (?_))))
     have hf := hf.pn [0, 3, 4, 6, 7, 8, 9, 10]
     have H := H.lm 15 7 0 3 7
     exact ⟨(list, i), (Option.some.inj hR2).symm, A10, c9, E3, hf, H⟩
   rintro a w ⟨⟨list2, i2⟩, rfl, A13, c12, E5, hf, H⟩
   try dsimp only at hR1
   refine then_n (sq (sqz (pz 3 hf fun a hf => ?_)))
   refine wl_end (then_n (ib hR1 hf (fun hc5 hR1 => ?_) fun hc5 hR1 => ?_))
   ·refine wp_exit (then_x (blk_x rfl (then_x (then_x (blk_e (?_))))))
    have hf := hf.pn [0, 3, 4, 6, 7, 8]
    have H := H.lm 15 6 0 3 7
    exact ⟨(seen, m, m2, m3, m4, m5), (Option.some.inj hR1).symm, A7, c7, E, A8, c8, E2, hsm, hf, H⟩
   ·refine wp_skip (then_n (sqz (pz 4 hf fun a hf => ?_)))
    obtain ⟨y5, hy5, hR1⟩ := bs_ hR1
    refine oc hf TF.cl75 (spec_l1Cur_pick_ok (S := NB b0) (H.boxAt 3 rfl) ((L1CurP_mk (x := ({ code := m3, at_ := m4, seed := m5 } : L1CurP)) (H.nb 3 rfl (H.get 0 rfl)))) (fun h => h rfl) mk_int hy5) fun v5 w a hp7 hf => ?_
    obtain ⟨hch3, cs5, hbx3, hr5, ⟨hx7, hx8⟩, hs3⟩ := hp7
    obtain rfl := VR_int hs3
    obtain ⟨A14, c13, rfl, hl6⟩ := L1CurP_cells hr5
    obtain ⟨rfl, rfl⟩ := fx_slice hx7 rfl rfl
    have hx9 := hx8.trans hsm
    have H := H.wroteBox 3 rfl hch3 hbx3
    have H := H.pX 0 rfl hx8
    obtain ⟨e2, he2, hR1⟩ := bs_ hR1
    refine wl0 rfl (op_iaddrR hf H Tryz.underlying28 TF.sz3 0 rfl rfl rfl he2 (by decide) fun p2 o4 cs6 a hf hA2 hr6 hk => ?_)
    obtain rfl := hr6
    refine oq hf (rq_load1 hf TF.ls3 rfl (hk 0 _ rfl)) fun a hf => ?_
    refine pz 1 hf fun a hf => ?_
    refine wr (pz 1 hf fun a hf => ?_)
    refine lB 0 hf H TF.ls28 fun a hf => ?_
    refine pz 1 hf fun a hf => ?_
    refine wl0 rfl (bl hf H 3 ([e2] : List Int) [(.int .i64 e2)] (el1 (y := e2) (rfl)) fun A15 a w hf H => ?_)
    obtain ⟨l2, hl2_, hR1⟩ := bs_ hR1
    refine wl0 rfl (op_appR hf H Tryz.underlying28 TF.ai3 rfl (by decide) 2 0 rfl rfl rfl rfl (.inr rfl) hl2_ (by decide) fun E6 A16 c14 a w hf H => ?_)
    refine pz 1 hf fun a hf => ?_
    refine sB 0 hf H TF.sz28 fun w H => ?_
    have hf := hf.pn [0, 3, 4, 6, 7, 8, 12]
    refine wl_end (then_n (dw [11] 13 fun w hb => ?_))
    have H := H.keep hb
    refine zp 0 hf trivial fun a hf => ?_
    refine strT (H.lk 4 0 0 []) (fun w H => trivial) fun hS => ?_
    refine zS 1 [1, 9, 10, 11, 12] rfl rfl rfl rfl hf hS (fun w H => rq_loadBN hf H TF.la27 0 rfl rfl rfl rfl) fun a hf => ?_
    refine zp 2 hf hS fun a hf => ?_
    refine zp 3 hf hS fun a hf => ?_
    refine zp 4 hf hS fun a hf => ?_
    refine zp 5 hf hS fun a hf => ?_
    refine zp 6 hf hS fun a hf => ?_
    obtain ⟨e3, he3, hR1⟩ := bs_ hR1
    obtain ⟨p3, o5, hA3, hx10⟩ := pre_iaddrR H Tryz.underlying28 TF.sz3 3 rfl he3
    refine zP 7 rfl rfl rfl rfl hf hS (fun w => rq_iaddrE hf rfl rfl rfl hx10 w) fun a hf => ?_
    refine strT (H.lk 4 8 0 []) (fun w H => H.lk 1 0 0 []) fun hS => ?_
    refine zS 8 [8, 9, 10, 11, 12] rfl rfl rfl rfl hf hS (fun w H => rq_loadRow (off := 0) hf H TF.ls3 0 rfl rfl hA3 he3 (fun w T cs h => by obtain rfl := h; rfl)) fun a hf => ?_
    obtain ⟨y6, hy6, hR1⟩ := bs_ hR1
    refine nn 9 rfl (oC hf TF.cl111 (spec_l2Other_ok (S := TT) (Network_mkv (x := n') (H.rt 3 rfl) (H.rt 2 rfl)) mk_int mk_int hy6) fun v6 w a hp8 hf => ?_)
    obtain ⟨hb3, hp8⟩ := hp8
    obtain rfl := VR_int hp8
    have H := H.keep hb3
    have hS := H.lk 4 8 0 []
    refine aS hS ?_
    refine nn 10 rfl (bl hf H 3 ([y6] : List Int) [(.int .i64 y6)] (el1 (y := y6) (rfl)) fun A17 a w hf H => ?_)
    have hS := H.lk 4 16 0 []
    refine aS hS ?_
    obtain ⟨l3, hl3_, hR1⟩ := bs_ hR1
    refine nn 11 rfl (op_appR hf H Tryz.underlying28 TF.ai3 rfl (by decide) 4 0 rfl rfl rfl rfl (.inr rfl) hl3_ (by decide) fun E7 A18 c15 a w hf H => ?_)
    refine ⟨fun h => absurd h (by decide), ?_⟩
    refine tp 12 rfl rfl hf (by kernel_rfl) (fun h => absurd h (by decide)) rfl fun a hf => ?_
    refine dk ?_
    have hf := hf.pn [0, 3, 4, 6, 7, 8]
    refine blk_n (then_n (reg (pz 3 hf fun a hf => ?_)))
    refine wl_end ?_
    have hf := hf.pn [0, 3, 4, 6, 7, 8]
    have H := H.lm 15 24 0 4 13
    exact then_n ⟨(l3, w64 (m - 1), l2, y5.2.code, y5.2.at_, y5.2.seed), hR1, A18, c15, E7, A16, c14, E6, hx9, hf, H⟩
  ·refine wp_exit (then_x (then_x (blk_e (?_))))
   have hf := hf.pn [0, 3, 4, 6, 7, 8]
   have H := H.lm 15 3 0 3 7
   exact ⟨(seen, m, m2, m3, m4, m5), (Option.some.inj hR1).symm, A7, c7, E, A8, c8, E2, hsm, hf, H⟩
 rintro a w ⟨⟨seen2, m6, m7, m8, m9, m10⟩, rfl, A19, c16, E8, A20, c17, E9, hsm, hf, H⟩
 try dsimp only at hsm
 try dsimp only at hF
 refine then_n (sq (reg (lN 0 hf H TF.la30 fun a hf => ?_)))
 refine sB 1 hf H TF.sz30 fun w H => ?_
 refine wer ?_
 have H := H.rowOwn 0 rfl rfl
 obtain ⟨F, H⟩ := H.freezeOwn 0 rfl
 have H := H.lend 0 rfl
 obtain rfl := oi hF
 refine ret_1 hf rfl (rv_cellN hf H 1 TF.la30 rfl rfl rfl) ?_
 have hN := H.endsB1 3 rfl
 exact ⟨_, rfl, H.chg, _, H.boxAt 3 rfl, (L1CurP_mk (x := ({ code := m8, at_ := m9, seed := m10 } : L1CurP)) (eB 3 (H.get 1 rfl))), ⟨fxc hsm, hsm⟩, F, ⟨_, Route_ownmk (x := ({ Start := y.1, Fibers := m7 } : Route)) (H.ownAt 0 rfl), rfl⟩, by first | exact hN | simpa using hN⟩
theorem spec_l1Cur_anyRoute_ok {S : Nat → Prop} {b0 : Nat} {cs0 : List Value} {v1_ : Value} {c : L1CurP} {n' : Network} {r : Route × L1CurP} (hp0 : w0.heap[b0]? = some (.cells cs0.toArray 87 (0, 0))) (hr0 : GoTy.rep w0 S cs0 c) (hS0 : ¬ S b0) (h1 : VR w0 S v1_ n') (hF : spec_l1Cur_anyRoute fu c n' = some r) :
    Calls Tryz.prog 54 [(.pointer (some ⟨b0, 0, none⟩)), v1_].toArray w0 fun e w' => ∃ v, e = .returned v ∧ (Chg w0 w' [b0] ∧ ∃ cs', w'.heap[b0]? = some (.cells cs'.toArray 87 (0, 0)) ∧ GoTy.rep w' (St ⟨w0, [b0]⟩ S [⟨b0, 87, cs'⟩] [] [] false) cs' r.2 ∧ (cs'[0]? = cs0[0]? ∧ r.2.code = c.code) ∧ ∃ F0, VO w' F0 v r.1 ∧ New w0 w' F0) := by
 obtain ⟨A, c2, rfl, hl⟩ := L1CurP_cells hr0
 obtain ⟨A2, c3, A3, c4, rfl, hl2, hl3⟩ := Network_open h1
 have H := Mem.startB S hp0
 have H := H.pB hS0 hl
 have H := H.pB hS0 hl2
 have H := H.pB hS0 hl3
 refine en Tryz.func54 fun a hf => ?_
 rw [spec_l1Cur_anyRoute] at hF
 refine bx hf H fun b3 a w hf H => ?_
 refine aL hf H TF.zv30 fun b4 a w hf H => ?_
 refine wr (pz 1 hf fun a hf => ?_)
 refine lN 1 hf H TF.la27 fun a hf => ?_
 obtain ⟨y, hy, hF⟩ := bs_ hF
 refine oc hf TF.cl95 (spec_l1Cur_route_ok (S := NB b0) (H.boxAt 2 rfl) ((L1CurP_mk (x := c) (H.nb 2 rfl (H.get 2 rfl)))) (fun h => h rfl) (Network_mkv (x := n') (H.nb 2 rfl (H.get 1 rfl)) (H.nb 2 rfl (H.get 0 rfl))) hy) fun v w a hp3 hf => ?_
 obtain ⟨hch, cs3, hbx, hr3, ⟨hx, hx2⟩, hs⟩ := hp3
 obtain ⟨F, hp4, hN⟩ := hs
 obtain ⟨A4, c5, F2, rfl, rfl, hl4⟩ := Route_vo hp4
 obtain ⟨A5, c6, rfl, hl5⟩ := L1CurP_cells hr3
 obtain ⟨rfl, rfl⟩ := fx_slice hx rfl rfl
 have H := H.bO1 2 rfl hch hbx hN hl4
 have H := H.pX 2 rfl hx2
 have H := H.lend 0 rfl
 refine aL hf H TF.zv30 fun b5 a w hf H => ?_
 refine sB 0 hf H TF.sz30 fun w H => ?_
 refine we (sqz (pz 1 hf fun a hf => ?_))
 obtain ⟨y2, hy2, hF⟩ := bs_ hF
 refine oc hf TF.cl75 (spec_l1Cur_pick_ok (S := NB b0) (H.boxAt 3 rfl) ((L1CurP_mk (x := y.2) (H.nb 3 rfl (H.get 1 rfl)))) (fun h => h rfl) mk_int hy2) fun v2 w a hp5 hf => ?_
 obtain ⟨hch2, cs4, hbx2, hr4, ⟨hx3, hx4⟩, hs2⟩ := hp5
 obtain rfl := VR_int hs2
 obtain ⟨A6, c7, rfl, hl6⟩ := L1CurP_cells hr4
 obtain ⟨rfl, rfl⟩ := fx_slice hx3 rfl rfl
 have hx5 := hx4.trans hx2
 have H := H.wroteBox 3 rfl hch2 hbx2
 have H := H.pX 1 rfl hx4
 refine wl_end (then_n (wp_block (sqz (pz 2 hf fun a hf => ?_))))
 refine wl_end (then_n (ib hF hf (fun hc hF => ?_) fun hc hF => ?_))
 ·refine reg (pz 1 hf fun a hf => ?_)
  obtain ⟨y3, hy3, hF⟩ := bs_ hF
  refine oc hf TF.cl75 (spec_l1Cur_pick_ok (S := NB b0) (H.boxAt 3 rfl) ((L1CurP_mk (x := y2.2) (H.nb 3 rfl (H.get 0 rfl)))) (fun h => h rfl) mk_int hy3) fun v3 w a hp6 hf => ?_
  obtain ⟨hch3, cs5, hbx3, hr5, ⟨hx6, hx7⟩, hs3⟩ := hp6
  obtain rfl := VR_int hs3
  obtain ⟨A7, c8, rfl, hl7⟩ := L1CurP_cells hr5
  obtain ⟨rfl, rfl⟩ := fx_slice hx6 rfl rfl
  have hx8 := hx7.trans hx5
  have H := H.wroteBox 3 rfl hch3 hbx3
  have H := H.pX 0 rfl hx7
  refine pz 2 hf fun a hf => ?_
  refine sB 0 hf H TF.sz3 fun w H => ?_
  have hf := hf.pn [4, 5]
  refine wl_end (blk_n (then_n (sq (reg (lN 0 hf H TF.la30 fun a hf => ?_)))))
  refine sB 1 hf H TF.sz30 fun w H => ?_
  refine wer ?_
  obtain rfl := oi hF
  refine ret_1 hf rfl (rv_cellN hf H 1 TF.la30 rfl rfl rfl) ?_
  have hN := H.endsB1 3 rfl
  exact ⟨_, rfl, H.chg, _, H.boxAt 3 rfl, (L1CurP_mk (x := y3.2) (eB 3 (H.get 0 rfl))), ⟨fxc hx8, hx8⟩, F2, ⟨_, Route_ownmk (x := ({ Start := w64 (y3.1 - 1), Fibers := y.1.Fibers } : Route)) (H.ownAt 0 rfl), rfl⟩, by first | exact hN | simpa using hN⟩
 ·refine sqz (pz 2 hf fun a hf => ?_)
  refine wl_end (then_n (ib hF hf (fun hc2 hF => ?_) fun hc2 hF => ?_))
  ·refine dw [6, 8] 9 fun w hb => ?_
   have H := H.keep hb
   refine zp 0 hf trivial fun a hf => ?_
   refine strT (H.lk 1 0 0 []) (fun w H => trivial) fun hS => ?_
   refine zS 1 [1, 6, 7, 8] rfl rfl rfl rfl hf hS (fun w H => rq_loadB hf H TF.ls28 0 rfl rfl rfl) fun a hf => ?_
   refine zp 2 hf hS fun a hf => ?_
   obtain ⟨y4, hy4, hF⟩ := bs_ hF
   refine nn 3 rfl (oC hf TF.cl75 (spec_l1Cur_pick_ok (S := NB b0) (H.boxAt 3 rfl) ((L1CurP_mk (x := y2.2) (H.nb 3 rfl (H.get 0 rfl)))) (fun h => h rfl) mk_int hy4) fun v4 w a hp7 hf => ?_)
   obtain ⟨hch4, cs6, hbx4, hr6, ⟨hx9, hx10⟩, hs4⟩ := hp7
   obtain rfl := VR_int hs4
   obtain ⟨A8, c9, rfl, hl8⟩ := L1CurP_cells hr6
   obtain ⟨rfl, rfl⟩ := fx_slice hx9 rfl rfl
   have hx11 := hx10.trans hx5
   have H := H.wroteBox 3 rfl hch4 hbx4
   have H := H.pX 0 rfl hx10
   have hS := H.lk 1 0 0 []
   refine aS hS ?_
   refine zp 4 hf hS fun a hf => ?_
   refine nn 5 rfl (bl hf H 3 ([w64 (y4.1 - 1)] : List Int) [(.int .i64 (w64 (y4.1 - 1)))] (el1 (y := w64 (y4.1 - 1)) (rfl)) fun A9 a w hf H => ?_)
   have hS := H.lk 1 0 0 []
   refine aS hS ?_
   obtain ⟨Fs, E, H, -⟩ := H.thaw rfl
   have H := H.rowSh 0 rfl
   have H := H.pB hS0 hl
   have H := H.pB hS0 hl2
   have H := H.pB hS0 hl3
   have H := H.argB (by simpa using hS0) (p := MP.val [(.slice A y4.2.code.length c2)] (y4.2.code : List By)) (by rw [hx11]; exact hl)
   obtain ⟨l, hl_, hF⟩ := bs_ hF
   refine nn 6 rfl (op_appR hf H Tryz.underlying28 TF.ai3 rfl (by decide) 0 1 rfl rfl rfl rfl (.inr rfl) hl_ (by decide) fun E2 A10 c10 a w hf H => ?_)
   refine ⟨fun h => absurd h (by decide), ?_⟩
   refine tp 7 rfl rfl hf (by kernel_rfl) (fun h => absurd h (by decide)) rfl fun a hf => ?_
   refine nn 8 rfl (op_storeB hf H 0 TF.sz28 rfl rfl rfl rfl rfl rfl (nle rfl) fun w H => ?_)
   refine ⟨fun h => absurd h (by decide), ?_⟩
   refine dk ?_
   have hf := hf.pn [4, 5]
   refine blk_n (then_n (sq (reg (lN 0 hf H TF.la30 fun a hf => ?_))))
   refine sB 1 hf H TF.sz30 fun w H => ?_
   refine wer ?_
   have H := H.rowOwn 0 rfl rfl
   obtain ⟨F3, H⟩ := H.freezeOwn 0 rfl
   have H := H.lend 0 rfl
   obtain rfl := oi hF
   refine ret_1 hf rfl (rv_cellN hf H 1 TF.la30 rfl rfl rfl) ?_
   have hN := H.endsB1 3 rfl
   exact ⟨_, rfl, H.chg, _, H.boxAt 3 rfl, (L1CurP_mk (x := y4.2) (eB 3 (H.get 1 rfl))), ⟨fxc hx11, hx11⟩, F3, ⟨_, Route_ownmk (x := ({ Start := y.1.Start, Fibers := l } : Route)) (H.ownAt 0 rfl), rfl⟩, by first | exact hN | simpa using hN⟩
  ·refine sqz (pz 2 hf fun a hf => ?_)
   refine wl_end (then_n (ib hF hf (fun hc3 hF => ?_) fun hc3 hF => ?_))
   ·refine reg (wl0 rfl (bl hf H 3 ([] : List Int) [] el0 fun A11 a w hf H => ?_))
    refine pz 1 hf fun a hf => ?_
    refine sB 0 hf H TF.sz28 fun w H => ?_
    have hf := hf.pn [4, 5]
    refine wl_end (blk_n (then_n (sq (reg (lN 0 hf H TF.la30 fun a hf => ?_)))))
    refine sB 1 hf H TF.sz30 fun w H => ?_
    refine wer ?_
    have H := H.rowOwn 0 rfl rfl
    obtain ⟨F4, H⟩ := H.freezeOwn 0 rfl
    have H := H.lend 0 rfl
    obtain rfl := oi hF
    refine ret_1 hf rfl (rv_cellN hf H 1 TF.la30 rfl rfl rfl) ?_
    have hN := H.endsB1 3 rfl
    exact ⟨_, rfl, H.chg, _, H.boxAt 3 rfl, (L1CurP_mk (x := y2.2) (eB 3 (H.get 1 rfl))), ⟨fxc hx5, hx5⟩, F4, ⟨_, Route_ownmk (x := ({ Start := y.1.Start, Fibers := ([] : List Int) } : Route)) (H.ownAt 0 rfl), rfl⟩, by first | exact hN | simpa using hN⟩
   ·refine sqz (pz 2 hf fun a hf => ?_)
    have hf := hf.pn [4, 5, 31]
    refine wl_end (then_n (ib hF hf (fun hc4 hF => ?_) fun hc4 hF => ?_))
    ·refine sqz (pz 1 hf fun a hf => ?_)
     refine lB 0 hf H TF.ls28 fun a hf => ?_
     refine pz 2 hf fun a hf => ?_
     refine wl_end (then_n (ib hF hf (fun hc5 hF => ?_) fun hc5 hF => ?_))
     ·refine dw [11, 13] 14 fun w hb => ?_
      have H := H.keep hb
      refine zp 0 hf trivial fun a hf => ?_
      refine strT (H.lk 1 0 0 []) (fun w H => trivial) fun hS => ?_
      refine zS 1 [1, 11, 12, 13] rfl rfl rfl rfl hf hS (fun w H => rq_loadB hf H TF.ls28 0 rfl rfl rfl) fun a hf => ?_
      refine zp 2 hf hS fun a hf => ?_
      refine zS 3 [3, 8, 9, 10, 11, 12, 13] rfl rfl rfl rfl hf hS (fun w H => rq_loadB hf H TF.ls28 0 rfl rfl rfl) fun a hf => ?_
      refine zp 4 hf hS fun a hf => ?_
      refine zS 5 [5, 6, 7, 8, 9, 10, 11, 12, 13] rfl rfl rfl rfl hf hS (fun w H => rq_loadB hf H TF.ls28 0 rfl rfl rfl) fun a hf => ?_
      refine zp 6 hf hS fun a hf => ?_
      refine zp 7 hf hS fun a hf => ?_
      obtain ⟨e, he, hF⟩ := bs_ hF
      obtain ⟨p, o3, cs7, hx12, hr7, H⟩ := pre_iaddr H Tryz.underlying28 TF.sz3 1 rfl he
      refine zP 8 rfl rfl rfl rfl hf hS (fun w => rq_iaddrE hf rfl rfl rfl hx12 w) fun a hf => ?_
      obtain rfl := hr7
      refine strT (H.lk 1 0 0 [0]) (fun w H => H.lk 1 0 0 []) fun hS => ?_
      refine zS 9 [9, 10, 11, 12, 13] rfl rfl rfl rfl hf hS (fun w H => rq_loadI hf H TF.ls3 0 0 rfl rfl rfl) fun a hf => ?_
      refine nn 10 rfl (bl hf H 3 ([e] : List Int) [(.int .i64 e)] (el1 (y := e) (rfl)) fun A12 a w hf H => ?_)
      have hS := H.lk 1 0 0 [0]
      refine aS hS ?_
      obtain ⟨Fs2, E3, H, -⟩ := H.thaw rfl
      have H := H.rowSh 0 rfl
      have H := H.pB hS0 hl
      have H := H.pB hS0 hl2
      have H := H.pB hS0 hl3
      have H := H.argB (by simpa using hS0) (p := MP.val [(.slice A y2.2.code.length c2)] (y2.2.code : List By)) (by rw [hx5]; exact hl)
      obtain ⟨l2, hl2_, hF⟩ := bs_ hF
      refine nn 11 rfl (op_appR hf H Tryz.underlying28 TF.ai3 rfl (by decide) 0 1 rfl rfl rfl rfl (.inr rfl) hl2_ (by decide) fun E4 A13 c11 a w hf H => ?_)
      refine ⟨fun h => absurd h (by decide), ?_⟩
      refine tp 12 rfl rfl hf (by kernel_rfl) (fun h => absurd h (by decide)) rfl fun a hf => ?_
      refine nn 13 rfl (op_storeB hf H 0 TF.sz28 rfl rfl rfl rfl rfl rfl (nle rfl) fun w H => ?_)
      refine ⟨fun h => absurd h (by decide), ?_⟩
      refine dk ?_
      have hf := hf.pn [4, 5]
      refine blk_n (then_n (sq (reg (lN 0 hf H TF.la30 fun a hf => ?_))))
      refine sB 1 hf H TF.sz30 fun w H => ?_
      refine wer ?_
      have H := H.rowOwn 0 rfl rfl
      obtain ⟨F5, H⟩ := H.freezeOwn 0 rfl
      have H := H.lend 0 rfl
      obtain rfl := oi hF
      refine ret_1 hf rfl (rv_cellN hf H 1 TF.la30 rfl rfl rfl) ?_
      have hN := H.endsB1 3 rfl
      exact ⟨_, rfl, H.chg, _, H.boxAt 3 rfl, (L1CurP_mk (x := y2.2) (eB 3 (H.get 1 rfl))), ⟨fxc hx5, hx5⟩, F5, ⟨_, Route_ownmk (x := ({ Start := y.1.Start, Fibers := l2 } : Route)) (H.ownAt 0 rfl), rfl⟩, by first | exact hN | simpa using hN⟩
     ·refine wp_skip (blk_n (then_n (sq (reg (lN 0 hf H TF.la30 fun a hf => ?_)))))
      refine sB 1 hf H TF.sz30 fun w H => ?_
      refine wer ?_
      obtain rfl := oi hF
      refine ret_1 hf rfl (rv_cellN hf H 1 TF.la30 rfl rfl rfl) ?_
      have hN := H.endsB1 3 rfl
      exact ⟨_, rfl, H.chg, _, H.boxAt 3 rfl, (L1CurP_mk (x := y2.2) (eB 3 (H.get 0 rfl))), ⟨fxc hx5, hx5⟩, F2, ⟨_, Route_ownmk (x := y.1) (H.ownAt 0 rfl), rfl⟩, by first | exact hN | simpa using hN⟩
    ·refine wp_skip (blk_n (then_n (sq (reg (lN 0 hf H TF.la30 fun a hf => ?_)))))
     refine sB 1 hf H TF.sz30 fun w H => ?_
     refine wer ?_
     obtain rfl := oi hF
     refine ret_1 hf rfl (rv_cellN hf H 1 TF.la30 rfl rfl rfl) ?_
     have hN := H.endsB1 3 rfl
     exact ⟨_, rfl, H.chg, _, H.boxAt 3 rfl, (L1CurP_mk (x := y2.2) (eB 3 (H.get 0 rfl))), ⟨fxc hx5, hx5⟩, F2, ⟨_, Route_ownmk (x := y.1) (H.ownAt 0 rfl), rfl⟩, by first | exact hN | simpa using hN⟩
theorem spec_DrawIsValidRoute_ok {S : Nat → Prop} {v0_ : Value} {code : List By} {r : Network × Route} (h0 : VR w0 S v0_ code) (hF : spec_DrawIsValidRoute fu code = some r) :
    Calls Tryz.prog 24 [v0_].toArray w0 fun e w' => ∃ v, e = .returned v ∧ (Below w0.heap.size w0 w' ∧ ∃ F0 F1, ∃ u0 u1, v = .tuple #[u0, u1] ∧ VO w' F0 u0 r.1 ∧ VO w' F1 u1 r.2 ∧ New w0 w' (F0 ++ F1)) := by
 obtain ⟨A, c, rfl, hl⟩ := VR_list h0
 have H := Mem.start ⟨w0, []⟩ S
 have H := H.pA hl
 refine en Tryz.func24 fun a hf => ?_
 rw [spec_DrawIsValidRoute] at hF
 refine sq (reg (aL hf H TF.zv27 fun b' a w hf H => ?_))
 refine aL hf H TF.zv30 fun b2 a w hf H => ?_
 refine wr (pz 1 hf fun a hf => ?_)
 refine oq hf (rq_build hf (cs := [(.slice A code.length c), (.int .i64 0), (.int .u64 0)]) rfl (fun w => by kernel_rfl)) fun a hf => ?_
 refine wl0 rfl (op_box hf H rfl rfl (by decide) fun b3 a w hf H => ?_)
 refine pz 1 hf fun a hf => ?_
 refine wr (pz 1 hf fun a hf => ?_)
 obtain ⟨y, hy, hF⟩ := bs_ hF
 refine oc hf TF.cl53 (spec_l1Cur_anyNetwork_ok (S := NB b3) (H.boxAt 0 rfl) ((L1CurP_mk (x := ({ code := code, at_ := 0, seed := (⟨0⟩ : U64) } : L1CurP)) (H.nb 0 rfl (H.get 0 rfl)))) (fun h => h rfl) hy) fun v w a hp hf => ?_
 obtain ⟨hch, cs, hbx, hr, ⟨hx, hx2⟩, hs⟩ := hp
 obtain ⟨F, hp2, hN⟩ := hs
 obtain ⟨A2, c2, F2, A3, c3, F3, rfl, rfl, hl2, hl3⟩ := Network_vo hp2
 obtain ⟨A4, c4, rfl, hl4⟩ := L1CurP_cells hr
 obtain ⟨rfl, rfl⟩ := fx_slice hx rfl rfl
 have H := H.bO2 0 rfl hch hbx hN hl2 hl3
 have H := H.pX 0 rfl hx2
 have H := H.lend 0 rfl
 have H := H.lend 1 rfl
 refine aL hf H TF.zv27 fun b4 a w hf H => ?_
 refine sB 0 hf H TF.sz27 fun w H => ?_
 refine wl_end (then_n (sq (dw [4, 5] 6 fun w hb => ?_)))
 have H := H.keep hb
 refine strT (H.lk 1 0 0 []) (fun w H => trivial) fun hS => ?_
 refine zS 0 [0, 4, 5] rfl rfl rfl rfl hf hS (fun w H => rq_loadBN hf H TF.la27 0 rfl rfl rfl rfl) fun a hf => ?_
 refine zp 1 hf hS fun a hf => ?_
 refine zS 2 [2, 3, 4, 5] rfl rfl rfl rfl hf hS (fun w H => rq_loadBN hf H TF.la27 0 rfl rfl rfl rfl) fun a hf => ?_
 obtain ⟨y2, hy2, hF⟩ := bs_ hF
 refine nn 3 rfl (oC hf TF.cl54 (spec_l1Cur_anyRoute_ok (S := NB b3) (H.boxAt 1 rfl) ((L1CurP_mk (x := y.2) (H.nb 1 rfl (H.get 2 rfl)))) (fun h => h rfl) (Network_mkv (x := y.1) (H.nb 1 rfl (H.get 1 rfl)) (H.nb 1 rfl (H.get 0 rfl))) hy2) fun v2 w a hp3 hf => ?_)
 obtain ⟨hch2, cs2, hbx2, hr2, ⟨hx3, hx4⟩, hs2⟩ := hp3
 obtain ⟨F4, hp4, hN2⟩ := hs2
 obtain ⟨A5, c5, F5, rfl, rfl, hl5⟩ := Route_vo hp4
 obtain ⟨A6, c6, rfl, hl6⟩ := L1CurP_cells hr2
 obtain ⟨rfl, rfl⟩ := fx_slice hx3 rfl rfl
 have hx5 := hx4.trans hx2
 have H := H.bO1 1 rfl hch2 hbx2 hN2 hl5
 have H := H.pX 2 rfl hx4
 have H := H.lend 0 rfl
 have hS := H.lk 1 0 0 []
 refine aS hS ?_
 refine nn 4 rfl (op_storeB hf H 3 TF.sz27 rfl rfl rfl rfl rfl rfl (nle rfl) fun w H => ?_)
 refine ⟨fun h => absurd h (by decide), ?_⟩
 refine nn 5 rfl (op_storeB hf H 2 TF.sz30 rfl rfl rfl rfl rfl rfl (nle rfl) fun w H => ?_)
 refine ⟨fun h => absurd h (by decide), ?_⟩
 refine dk ?_
 refine then_n (wp_ret (?_))
 have H := H.frontD 2 rfl
 have H := H.frontD 2 rfl
 obtain rfl := oi hF
 refine ret_2 hf rfl (rv_cellN hf H 3 TF.la27 rfl rfl rfl) (rv_cellN hf H 2 TF.la30 rfl rfl rfl) ?_
 have hN := H.ends3
 exact ⟨_, rfl, H.bel, (F2 ++ F3), F5, _, _, rfl, ⟨_, Network_ownmk (x := y.1) (H.ownAt 0 rfl) (H.ownAt 1 rfl), rfl⟩, ⟨_, Route_ownmk (x := y2.1) (H.ownAt 2 rfl), rfl⟩, by first | exact hN | simpa using hN⟩
theorem spec_DrawFormatRoute_ok {S : Nat → Prop} {v0_ : Value} {code : List By} {r : Network × Route} (h0 : VR w0 S v0_ code) (hF : spec_DrawFormatRoute fu code = some r) :
    Calls Tryz.prog 5 [v0_].toArray w0 fun e w' => ∃ v, e = .returned v ∧ (Below w0.heap.size w0 w' ∧ ∃ F0 F1, ∃ u0 u1, v = .tuple #[u0, u1] ∧ VO w' F0 u0 r.1 ∧ VO w' F1 u1 r.2 ∧ New w0 w' (F0 ++ F1)) := by
 obtain ⟨A, c, rfl, hl⟩ := VR_list h0
 have H := Mem.start ⟨w0, []⟩ S
 have H := H.pA hl
 refine en Tryz.func5 fun a hf => ?_
 rw [spec_DrawFormatRoute] at hF
 refine sq (reg (aL hf H TF.zv27 fun b' a w hf H => ?_))
 refine aL hf H TF.zv30 fun b2 a w hf H => ?_
 refine wr (pz 1 hf fun a hf => ?_)
 obtain ⟨y, hy, hF⟩ := bs_ hF
 refine oc hf TF.cl24 (spec_DrawIsValidRoute_ok (S := TT) (mk_list (H.rt 0 rfl)) hy) fun v w a hp hf => ?_
 obtain ⟨hb, F, F2, v2, v3, rfl, hp2, hp3, hN⟩ := hp
 obtain ⟨A2, c2, F3, A3, c3, F4, rfl, rfl, hl2, hl3⟩ := Network_vo hp2
 obtain ⟨A4, c4, F5, rfl, rfl, hl4⟩ := Route_vo hp3
 have H := H.aO3 hb (by first | exact hN | simpa using hN) hl2 hl3 hl4
 have H := H.lend 0 rfl
 have H := H.lend 1 rfl
 have H := H.lend 2 rfl
 refine pz 2 hf fun a hf => ?_
 refine sB 1 hf H TF.sz27 fun w H => ?_
 refine sB 0 hf H TF.sz30 fun w H => ?_
 refine wer ?_
 have H := H.frontD 2 rfl
 have H := H.frontD 2 rfl
 have H := H.frontD 2 rfl
 obtain rfl := oi hF
 refine ret_2 hf rfl (rv_cellN hf H 1 TF.la27 rfl rfl rfl) (rv_cellN hf H 0 TF.la30 rfl rfl rfl) ?_
 have hN := H.ends3
 exact ⟨_, rfl, H.bel, (F3 ++ F4), F5, _, _, rfl, ⟨_, Network_ownmk (x := y.1) (H.ownAt 0 rfl) (H.ownAt 1 rfl), rfl⟩, ⟨_, Route_ownmk (x := y.2) (H.ownAt 2 rfl), rfl⟩, by first | exact hN | simpa using hN⟩
theorem impl_within_ok {S : Nat → Prop} {v0_ : Value} {v1_ : Value} {v2_ : Value} {n' : Int} {low : Int} {high : Int} {r : Bool} (h0 : VR w0 S v0_ n') (h1 : VR w0 S v1_ low) (h2 : VR w0 S v2_ high) (hF : impl_within fu n' low high = some r) :
    Calls Tryz.prog 57 [v0_, v1_, v2_].toArray w0 fun e w' => ∃ v, e = .returned v ∧ (Below w0.heap.size w0 w' ∧ VR w' (St ⟨w0, []⟩ S [] [] [] true) v r) := by
 obtain rfl := VR_int h0
 obtain rfl := VR_int h1
 obtain rfl := VR_int h2
 have H := Mem.start ⟨w0, []⟩ S
 refine en Tryz.func57 fun a hf => ?_
 rw [impl_within] at hF
 refine sqz (pz 1 hf fun a hf => ?_)
 refine wl_end (then_n (sq ?_))
 obtain ⟨c, hGc, hF⟩ := bs_ hF
 have fh := hf.prune [] rfl
 have Hm := H.lk 0 0 0 []
 refine midF 6 (.bool c) fh Hm ?_ fun a w hf H => ?_
 ·refine reg (pz 4 hf fun a hf => ?_)
  refine iteB hGc (fun hc hGc => ?_) fun hc hGc => ?_
  ·have hf := hf.lit 10 rfl hc
   refine pz 5 hf fun a hf => ?_
   obtain rfl := oi hGc
   have hf := hf.pn [6]
   have H := H.lk 0 0 0 []
   exact wl_end ⟨hf, H⟩
  ·have hf := hf.lit 10 rfl hc
   refine pz 5 hf fun a hf => ?_
   obtain rfl := oi hGc
   have hf := hf.pn [6]
   have H := H.lk 0 0 0 []
   exact wl_end ⟨hf, H⟩
 refine then_n (wp_ret (?_))
 obtain rfl := oi hF
 refine rT hf ?_
 exact ⟨_, rfl, H.bel, mk_bool⟩
end AT
