/- The Go functions do what is told of them, by program (gen.py). -/
import Derived.Test.YtijgfgfolkbkoaaT
set_option linter.unusedVariables false
set_option linter.unusedSimpArgs false
set_option maxRecDepth 100000
namespace AT
open Go Go.RowKit Go.Proofs

/- loop.example/g00897/laws.vBig -/
set_option maxHeartbeats 1000000 in
theorem laws_vBig_ok {fu : Nat} {w0 : World} {S : Nat → Prop} {v0_ : Value} {code : List By} {r : Bool} (h0 : VR w0 S v0_ code) (hF : laws_vBig fu code = some r) :
    Calls Try.prog 76 [v0_].toArray w0 fun e w' => ∃ v, e = .returned v ∧ (Below w0.heap.size w0 w' ∧ VR w' (St ⟨w0, []⟩ S [] [] [] true) v r) := by
  obtain ⟨A, c, rfl, hl⟩ := VR_list h0
  have H := Mem.start ⟨w0, []⟩ S
  have H := H.pushArg (MP.val [(.slice A code.length c)] code) hl
  refine enter Try.func76 rfl rfl (nle rfl) rfl fun a hf => ?_
  rw [laws_vBig] at hF
  refine sq ?_
  refine reg ?_
  refine pRun_ok (tb := tab) (n := 6) tabOk 1 _ _ hf rfl rfl fun a hf => ?_
  refine wl_end ?_
  refine then_n ?_
  refine sq ?_
  refine reg ?_
  refine pRun_ok (tb := tab) (n := 6) tabOk 4 _ _ hf rfl rfl fun a hf => ?_
  refine wl_end ?_
  refine then_n ?_
  refine wp_ret (?_)
  obtain rfl := Option.some.inj hF
  refine ret_1 (fn := Try.f76) (r := .tmp 2) hf rfl (rv_tmp hf rfl) ?_
  exact ⟨_, rfl, H.bel, mk_bool⟩

/- (*loop.example/g00897/spec.l1Cur).next -/
set_option maxHeartbeats 1000000 in
theorem spec_l1Cur_next_ok {fu : Nat} {w0 : World} {S : Nat → Prop} {b0 : Nat} {cs0 : List Value} {c : L1CurP} {r : Int × L1CurP} (hp0 : w0.heap[b0]? = some (.cells cs0.toArray 138 (0, 0))) (hr0 : GoTy.rep w0 S cs0 c) (hS0 : ¬ S b0) (hF : spec_l1Cur_next fu c = some r) :
    Calls Try.prog 159 [(.pointer (some ⟨b0, 0, none⟩))].toArray w0 fun e w' => ∃ v, e = .returned v ∧ (Chg w0 w' [b0] ∧ ∃ cs', w'.heap[b0]? = some (.cells cs'.toArray 138 (0, 0)) ∧ GoTy.rep w' (St ⟨w0, [b0]⟩ S [⟨b0, 138, cs'⟩] [] [] false) cs' r.2 ∧ VR w' (St ⟨w0, [b0]⟩ S [⟨b0, 138, cs'⟩] [] [] true) v r.1) := by
  obtain ⟨A, c2, rfl, hl⟩ := L1CurP_cells hr0
  have H := Mem.startB S hp0
  have H := H.argB (by simpa using hS0) (p := MP.val [(.slice A c.code.length c2)] c.code) hl
  refine enter Try.func159 rfl rfl (nle rfl) rfl fun a hf => ?_
  rw [spec_l1Cur_next] at hF
  refine sq ?_
  refine reg ?_
  refine pRun_ok (tb := tab) (n := 62) tabOk 1 _ _ hf rfl rfl fun a hf => ?_
  refine wl_end ?_
  refine then_n ?_
  refine sq ?_
  refine reg ?_
  refine pRun_ok (tb := tab) (n := 62) tabOk 1 _ _ hf rfl rfl fun a hf => ?_
  refine wl_end ?_
  refine then_n ?_
  refine sq ?_
  refine sq ?_
  refine drawn [] (bs := [false, false, false, false, false, false, false, false, false, false]) (fuel := 10) (Checked.mixed Try.checked) rfl rfl fun w hb => ?_
  have H := H.keep hb
  refine tkP (i := 0) (bs' := [true, false, false, false, false, false, false, false, false, false]) rfl rfl rfl (by decide) hf (by kernel_rfl) (fun _ => trivial) (fun w => pOp_ok (tb := tab) tabOk hf rfl) rfl fun a hf => ?_
  refine tkP (i := 1) (bs' := [true, true, false, false, false, false, false, false, false, false]) rfl rfl rfl (by decide) hf (by kernel_rfl) (fun _ => trivial) (fun w => pOp_ok (tb := tab) tabOk hf rfl) rfl fun a hf => ?_
  refine tkP (i := 2) (bs' := [true, true, true, false, false, false, false, false, false, false]) rfl rfl rfl (by decide) hf (by kernel_rfl) (fun _ => trivial) (fun w => pOp_ok (tb := tab) tabOk hf rfl) rfl fun a hf => ?_
  refine str (fun w => Mem ⟨w0, [b0]⟩ S [⟨b0, 138, [(.slice A c.code.length c2), (.int .i64 c.at_), (.int .u64 c.seed.n)]⟩] [] [] [(false, MP.val [(.slice A c.code.length c2)] (c.code : List By))] w) (fun w H => trivial) ?_
  have hS : Mem ⟨w0, [b0]⟩ S [⟨b0, 138, [(.slice A c.code.length c2), (.int .i64 c.at_), (.int .u64 c.seed.n)]⟩] [] [] [(false, MP.val [(.slice A c.code.length c2)] (c.code : List By))] w := H.let [true] [] [] [0]
  refine tkS (i := 3) (bs' := [true, true, true, true, false, false, false, false, false, false]) [] rfl rfl rfl (by decide) hf (by kernel_rfl) (by kernel_rfl) hS (fun w H => rq_loadB hf H TF.ls3 0 rfl rfl rfl) rfl fun a hf => ?_
  refine tkP (i := 4) (bs' := [true, true, true, true, true, false, false, false, false, false]) rfl rfl rfl (by decide) hf (by kernel_rfl) (fun _ => hS) (fun w => pOp_ok (tb := tab) tabOk hf rfl) rfl fun a hf => ?_
  refine tkP (i := 5) (bs' := [true, true, true, true, true, true, false, false, false, false]) rfl rfl rfl (by decide) hf (by kernel_rfl) (fun _ => hS) (fun w => pOp_ok (tb := tab) tabOk hf rfl) rfl fun a hf => ?_
  refine tkP (i := 6) (bs' := [true, true, true, true, true, true, true, false, false, false]) rfl rfl rfl (by decide) hf (by kernel_rfl) (fun _ => hS) (fun w => pOp_ok (tb := tab) tabOk hf rfl) rfl fun a hf => ?_
  refine tkS (i := 7) (bs' := [true, true, true, true, true, true, true, true, false, false]) [] rfl rfl rfl (by decide) hf (by kernel_rfl) (by kernel_rfl) hS (fun w H => rq_loadB hf H TF.ls83 0 rfl rfl rfl) rfl fun a hf => ?_
  refine tkP (i := 8) (bs' := [true, true, true, true, true, true, true, true, true, false]) rfl rfl rfl (by decide) hf (by kernel_rfl) (fun _ => hS) (fun w => pOp_ok (tb := tab) tabOk hf rfl) rfl fun a hf => ?_
  refine tkP (i := 9) (bs' := [true, true, true, true, true, true, true, true, true, true]) rfl rfl rfl (by decide) hf (by kernel_rfl) (fun _ => hS) (fun w => pOp_ok (tb := tab) tabOk hf rfl) rfl fun a hf => ?_
  refine dn (by kernel_rfl) ?_
  refine then_n ?_
  refine (Bool.eq_false_or_eq_true (decide (c.at_ < (c.code.length : Int)))).elim (fun hc => ?_) (fun hc => ?_)
  · rw [if_pos hc] at hF
    refine cd_t hf rfl hc ?_
    refine drawn [] (bs := [false, false, false, false, false, false, false, false, false, false, false, false]) (fuel := 12) (Checked.mixed Try.checked) rfl rfl fun w hb => ?_
    have H := H.keep hb
    refine tkP (i := 0) (bs' := [true, false, false, false, false, false, false, false, false, false, false, false]) rfl rfl rfl (by decide) hf (by kernel_rfl) (fun _ => trivial) (fun w => pOp_ok (tb := tab) tabOk hf rfl) rfl fun a hf => ?_
    refine tkP (i := 1) (bs' := [true, true, false, false, false, false, false, false, false, false, false, false]) rfl rfl rfl (by decide) hf (by kernel_rfl) (fun _ => trivial) (fun w => pOp_ok (tb := tab) tabOk hf rfl) rfl fun a hf => ?_
    refine tkP (i := 2) (bs' := [true, true, true, false, false, false, false, false, false, false, false, false]) rfl rfl rfl (by decide) hf (by kernel_rfl) (fun _ => trivial) (fun w => pOp_ok (tb := tab) tabOk hf rfl) rfl fun a hf => ?_
    refine str (fun w => Mem ⟨w0, [b0]⟩ S [⟨b0, 138, [(.slice A c.code.length c2), (.int .i64 c.at_), (.int .u64 c.seed.n)]⟩] [] [] [(false, MP.val [(.slice A c.code.length c2)] (c.code : List By))] w) (fun w H => trivial) ?_
    have hS : Mem ⟨w0, [b0]⟩ S [⟨b0, 138, [(.slice A c.code.length c2), (.int .i64 c.at_), (.int .u64 c.seed.n)]⟩] [] [] [(false, MP.val [(.slice A c.code.length c2)] (c.code : List By))] w := H.let [true] [] [] [0]
    refine tkS (i := 3) (bs' := [true, true, true, true, false, false, false, false, false, false, false, false]) [] rfl rfl rfl (by decide) hf (by kernel_rfl) (by kernel_rfl) hS (fun w H => rq_loadB hf H TF.ls83 0 rfl rfl rfl) rfl fun a hf => ?_
    refine tkP (i := 4) (bs' := [true, true, true, true, true, false, false, false, false, false, false, false]) rfl rfl rfl (by decide) hf (by kernel_rfl) (fun _ => hS) (fun w => pOp_ok (tb := tab) tabOk hf rfl) rfl fun a hf => ?_
    refine tkP (i := 5) (bs' := [true, true, true, true, true, true, false, false, false, false, false, false]) rfl rfl rfl (by decide) hf (by kernel_rfl) (fun _ => hS) (fun w => pOp_ok (tb := tab) tabOk hf rfl) rfl fun a hf => ?_
    refine tkP (i := 6) (bs' := [true, true, true, true, true, true, true, false, false, false, false, false]) rfl rfl rfl (by decide) hf (by kernel_rfl) (fun _ => hS) (fun w => pOp_ok (tb := tab) tabOk hf rfl) rfl fun a hf => ?_
    refine tkS (i := 7) (bs' := [true, true, true, true, true, true, true, true, false, false, false, false]) [] rfl rfl rfl (by decide) hf (by kernel_rfl) (by kernel_rfl) hS (fun w H => rq_loadB hf H TF.ls3 0 rfl rfl rfl) rfl fun a hf => ?_
    obtain ⟨e, he, hF⟩ := bind_some hF
    obtain ⟨p, o, cs, hx, hr, H⟩ := pre_iaddr H Try.underlying83 TF.sz5 0 rfl he
    refine tkP (i := 8) (bs' := [true, true, true, true, true, true, true, true, true, false, false, false]) rfl rfl rfl (by decide) hf (by kernel_rfl) (fun _ => hS) (fun w => rq_iaddrE hf rfl rfl rfl hx w) rfl fun a hf => ?_
    obtain rfl := hr
    refine str (fun w => Mem ⟨w0, [b0]⟩ S [⟨b0, 138, [(.slice A c.code.length c2), (.int .i64 c.at_), (.int .u64 c.seed.n)]⟩] [] [] [(false, MP.cells ⟨p, o, none⟩ [(.int .u8 e.n)]), (false, MP.val [(.slice A c.code.length c2)] (c.code : List By))] w) (fun w H => H.let [true] [] [] [1]) ?_
    have hS : Mem ⟨w0, [b0]⟩ S [⟨b0, 138, [(.slice A c.code.length c2), (.int .i64 c.at_), (.int .u64 c.seed.n)]⟩] [] [] [(false, MP.cells ⟨p, o, none⟩ [(.int .u8 e.n)]), (false, MP.val [(.slice A c.code.length c2)] (c.code : List By))] w := H.let [true] [] [] [0, 1]
    refine tkS (i := 9) (bs' := [true, true, true, true, true, true, true, true, true, true, false, false]) [] rfl rfl rfl (by decide) hf (by kernel_rfl) (by kernel_rfl) hS (fun w H => rq_loadI hf H TF.ls5 0 0 rfl rfl rfl) rfl fun a hf => ?_
    refine on1 (i := 10) (bs' := [true, true, true, true, true, true, true, true, true, true, true, false]) (by kernel_rfl) rfl rfl rfl (op_q hf (rq_conv i64w Try.underlying5 Try.underlying3 hf rfl) rfl (by decide) fun a hf => ?_)
    have hS : Mem ⟨w0, [b0]⟩ S [⟨b0, 138, [(.slice A c.code.length c2), (.int .i64 c.at_), (.int .u64 c.seed.n)]⟩] [] [] [(false, MP.cells ⟨p, o, none⟩ [(.int .u8 e.n)]), (false, MP.val [(.slice A c.code.length c2)] (c.code : List By))] w := H.let [true] [] [] [0, 1]
    refine ⟨fun _ => hS, ?_⟩
    refine tkP (i := 11) (bs' := [true, true, true, true, true, true, true, true, true, true, true, true]) rfl rfl rfl (by decide) hf (by kernel_rfl) (fun _ => hS) (fun w => pOp_ok (tb := tab) tabOk hf rfl) rfl fun a hf => ?_
    refine dn (by kernel_rfl) ?_
    have hf := hf.prune [0, 3] rfl
    refine then_n ?_
    refine sq ?_
    refine reg ?_
    refine pRun_ok (tb := tab) (n := 62) tabOk 3 _ _ hf rfl rfl fun a hf => ?_
    refine wl0 rfl (op_q hf (rq_loadB hf H TF.ls3 0 rfl rfl rfl) rfl (by decide) fun a hf => ?_)
    refine pRun_ok (tb := tab) (n := 62) tabOk 3 _ _ hf rfl rfl fun a hf => ?_
    refine wl0 rfl (op_storeB hf H 0 TF.sz3 rfl rfl rfl rfl rfl rfl (nle rfl) fun w H => ?_)
    refine wl_end ?_
    refine then_n ?_
    refine sq ?_
    refine reg ?_
    refine pRun_ok (tb := tab) (n := 62) tabOk 4 _ _ hf rfl rfl fun a hf => ?_
    refine wl0 rfl (op_q hf (rq_loadB hf H TF.ls136 0 rfl rfl rfl) rfl (by decide) fun a hf => ?_)
    refine wl0 rfl (op_q hf (rq_mulK u64w hf rfl rfl) rfl (by decide) fun a hf => ?_)
    refine pRun_ok (tb := tab) (n := 62) tabOk 1 _ _ hf rfl rfl fun a hf => ?_
    refine wl0 rfl (op_q hf (rq_conv u64w Try.underlying3 Try.underlying136 hf rfl) rfl (by decide) fun a hf => ?_)
    refine wl0 rfl (op_q hf (rq_addK u64w hf rfl rfl) rfl (by decide) fun a hf => ?_)
    refine wl0 rfl (op_q hf (rq_addK u64w hf rfl rfl) rfl (by decide) fun a hf => ?_)
    refine pRun_ok (tb := tab) (n := 62) tabOk 2 _ _ hf rfl rfl fun a hf => ?_
    refine wl0 rfl (op_storeB hf H 0 TF.sz136 rfl rfl rfl rfl rfl rfl (nle rfl) fun w H => ?_)
    have hf := hf.prune [0, 3] rfl
    refine wl_end ?_
    refine then_n ?_
    refine sq ?_
    refine sq ?_
    refine drawn [] (bs := [false, false, false, false, false, false, false, false, false, false]) (fuel := 10) (Checked.mixed Try.checked) rfl rfl fun w hb => ?_
    have H := H.keep hb
    refine tkP (i := 0) (bs' := [true, false, false, false, false, false, false, false, false, false]) rfl rfl rfl (by decide) hf (by kernel_rfl) (fun _ => trivial) (fun w => pOp_ok (tb := tab) tabOk hf rfl) rfl fun a hf => ?_
    refine tkP (i := 1) (bs' := [true, true, false, false, false, false, false, false, false, false]) rfl rfl rfl (by decide) hf (by kernel_rfl) (fun _ => trivial) (fun w => pOp_ok (tb := tab) tabOk hf rfl) rfl fun a hf => ?_
    refine tkP (i := 2) (bs' := [true, true, true, false, false, false, false, false, false, false]) rfl rfl rfl (by decide) hf (by kernel_rfl) (fun _ => trivial) (fun w => pOp_ok (tb := tab) tabOk hf rfl) rfl fun a hf => ?_
    refine str (fun w => Mem ⟨w0, [b0]⟩ S [⟨b0, 138, [(.slice A c.code.length c2), (.int .i64 (w64 (c.at_ + 1))), (.int .u64 (wu64 ((wu64 ((wu64 (c.seed.n * 6364136223846793005)) + (wu64 (w64 e.n)))) + 897897)))]⟩] [] [] [(false, MP.cells ⟨p, o, none⟩ [(.int .u8 e.n)]), (false, MP.val [(.slice A c.code.length c2)] (c.code : List By))] w) (fun w H => trivial) ?_
    have hS : Mem ⟨w0, [b0]⟩ S [⟨b0, 138, [(.slice A c.code.length c2), (.int .i64 (w64 (c.at_ + 1))), (.int .u64 (wu64 ((wu64 ((wu64 (c.seed.n * 6364136223846793005)) + (wu64 (w64 e.n)))) + 897897)))]⟩] [] [] [(false, MP.cells ⟨p, o, none⟩ [(.int .u8 e.n)]), (false, MP.val [(.slice A c.code.length c2)] (c.code : List By))] w := H.let [true] [] [] [0, 1]
    refine tkS (i := 3) (bs' := [true, true, true, true, false, false, false, false, false, false]) [] rfl rfl rfl (by decide) hf (by kernel_rfl) (by kernel_rfl) hS (fun w H => rq_loadB hf H TF.ls3 0 rfl rfl rfl) rfl fun a hf => ?_
    refine tkP (i := 4) (bs' := [true, true, true, true, true, false, false, false, false, false]) rfl rfl rfl (by decide) hf (by kernel_rfl) (fun _ => hS) (fun w => pOp_ok (tb := tab) tabOk hf rfl) rfl fun a hf => ?_
    refine tkP (i := 5) (bs' := [true, true, true, true, true, true, false, false, false, false]) rfl rfl rfl (by decide) hf (by kernel_rfl) (fun _ => hS) (fun w => pOp_ok (tb := tab) tabOk hf rfl) rfl fun a hf => ?_
    refine tkP (i := 6) (bs' := [true, true, true, true, true, true, true, false, false, false]) rfl rfl rfl (by decide) hf (by kernel_rfl) (fun _ => hS) (fun w => pOp_ok (tb := tab) tabOk hf rfl) rfl fun a hf => ?_
    refine tkS (i := 7) (bs' := [true, true, true, true, true, true, true, true, false, false]) [] rfl rfl rfl (by decide) hf (by kernel_rfl) (by kernel_rfl) hS (fun w H => rq_loadB hf H TF.ls83 0 rfl rfl rfl) rfl fun a hf => ?_
    refine tkP (i := 8) (bs' := [true, true, true, true, true, true, true, true, true, false]) rfl rfl rfl (by decide) hf (by kernel_rfl) (fun _ => hS) (fun w => pOp_ok (tb := tab) tabOk hf rfl) rfl fun a hf => ?_
    refine tkP (i := 9) (bs' := [true, true, true, true, true, true, true, true, true, true]) rfl rfl rfl (by decide) hf (by kernel_rfl) (fun _ => hS) (fun w => pOp_ok (tb := tab) tabOk hf rfl) rfl fun a hf => ?_
    refine dn (by kernel_rfl) ?_
    refine then_n ?_
    refine (Bool.eq_false_or_eq_true (decide ((w64 (c.at_ + 1)) ≤ (c.code.length : Int)))).elim (fun hc2 => ?_) (fun hc2 => ?_)
    · rw [if_pos hc2] at hF
      refine cd_t hf rfl hc2 ?_
      refine sq ?_
      refine reg ?_
      refine pRun_ok (tb := tab) (n := 62) tabOk 2 _ _ hf rfl rfl fun a hf => ?_
      have hf := hf.prune [2] rfl
      refine wl_end ?_
      refine then_n ?_
      refine wp_ret (then_r (?_))
      obtain rfl := Option.some.inj hF
      refine ret_1 (fn := Try.f159) (r := .tmp 2) hf rfl (rv_tmp hf rfl) ?_
      exact ⟨_, rfl, H.chg, _, H.boxAt 0 rfl, (L1CurP_mk (x := ({ code := c.code, at_ := w64 (c.at_ + 1), seed := (⟨wu64 ((wu64 ((wu64 (c.seed.n * 6364136223846793005)) + (wu64 (w64 e.n)))) + 897897)⟩ : U64) } : L1CurP)) (rep_endB (M := _) (i := 0) rfl (α := List By) (H.get 1 rfl))), mk_int⟩
    · rw [if_neg (nt hc2)] at hF
      refine cd_f hf rfl hc2 ?_
      refine wp_skip ?_
      refine then_n ?_
      refine sq ?_
      refine reg ?_
      refine pRun_ok (tb := tab) (n := 62) tabOk 3 _ _ hf rfl rfl fun a hf => ?_
      refine wl0 rfl (op_q hf (rq_loadB hf H TF.ls136 0 rfl rfl rfl) rfl (by decide) fun a hf => ?_)
      obtain ⟨q, hq, hF⟩ := bind_some hF
      refine wl0 rfl (op_q hf (rq_shrK rfl hf rfl rfl hq) rfl (by decide) fun a hf => ?_)
      refine wl0 rfl (op_q hf (rq_andu64 hf rfl rfl) rfl (by decide) fun a hf => ?_)
      refine wl0 rfl (op_q hf (rq_conv i64w Try.underlying136 Try.underlying3 hf rfl) rfl (by decide) fun a hf => ?_)
      refine pRun_ok (tb := tab) (n := 62) tabOk 1 _ _ hf rfl rfl fun a hf => ?_
      have hf := hf.prune [2] rfl
      refine wl_end ?_
      refine then_n ?_
      refine wp_ret (?_)
      obtain rfl := Option.some.inj hF
      refine ret_1 (fn := Try.f159) (r := .tmp 2) hf rfl (rv_tmp hf rfl) ?_
      exact ⟨_, rfl, H.chg, _, H.boxAt 0 rfl, (L1CurP_mk (x := ({ code := c.code, at_ := w64 (c.at_ + 1), seed := (⟨wu64 ((wu64 ((wu64 (c.seed.n * 6364136223846793005)) + (wu64 (w64 e.n)))) + 897897)⟩ : U64) } : L1CurP)) (rep_endB (M := _) (i := 0) rfl (α := List By) (H.get 1 rfl))), mk_int⟩
  · rw [if_neg (nt hc)] at hF
    refine cd_f hf rfl hc ?_
    refine wp_skip ?_
    refine then_n ?_
    refine sq ?_
    refine reg ?_
    refine pRun_ok (tb := tab) (n := 62) tabOk 3 _ _ hf rfl rfl fun a hf => ?_
    refine wl0 rfl (op_q hf (rq_loadB hf H TF.ls3 0 rfl rfl rfl) rfl (by decide) fun a hf => ?_)
    refine pRun_ok (tb := tab) (n := 62) tabOk 3 _ _ hf rfl rfl fun a hf => ?_
    refine wl0 rfl (op_storeB hf H 0 TF.sz3 rfl rfl rfl rfl rfl rfl (nle rfl) fun w H => ?_)
    have hf := hf.prune [0, 3] rfl
    refine wl_end ?_
    refine then_n ?_
    refine sq ?_
    refine reg ?_
    refine pRun_ok (tb := tab) (n := 62) tabOk 4 _ _ hf rfl rfl fun a hf => ?_
    refine wl0 rfl (op_q hf (rq_loadB hf H TF.ls136 0 rfl rfl rfl) rfl (by decide) fun a hf => ?_)
    refine wl0 rfl (op_q hf (rq_mulK u64w hf rfl rfl) rfl (by decide) fun a hf => ?_)
    refine pRun_ok (tb := tab) (n := 62) tabOk 1 _ _ hf rfl rfl fun a hf => ?_
    refine wl0 rfl (op_q hf (rq_conv u64w Try.underlying3 Try.underlying136 hf rfl) rfl (by decide) fun a hf => ?_)
    refine wl0 rfl (op_q hf (rq_addK u64w hf rfl rfl) rfl (by decide) fun a hf => ?_)
    refine wl0 rfl (op_q hf (rq_addK u64w hf rfl rfl) rfl (by decide) fun a hf => ?_)
    refine pRun_ok (tb := tab) (n := 62) tabOk 2 _ _ hf rfl rfl fun a hf => ?_
    refine wl0 rfl (op_storeB hf H 0 TF.sz136 rfl rfl rfl rfl rfl rfl (nle rfl) fun w H => ?_)
    refine wl_end ?_
    refine then_n ?_
    refine sq ?_
    refine sq ?_
    refine drawn [] (bs := [false, false, false, false, false, false, false, false, false, false]) (fuel := 10) (Checked.mixed Try.checked) rfl rfl fun w hb => ?_
    have H := H.keep hb
    refine tkP (i := 0) (bs' := [true, false, false, false, false, false, false, false, false, false]) rfl rfl rfl (by decide) hf (by kernel_rfl) (fun _ => trivial) (fun w => pOp_ok (tb := tab) tabOk hf rfl) rfl fun a hf => ?_
    refine tkP (i := 1) (bs' := [true, true, false, false, false, false, false, false, false, false]) rfl rfl rfl (by decide) hf (by kernel_rfl) (fun _ => trivial) (fun w => pOp_ok (tb := tab) tabOk hf rfl) rfl fun a hf => ?_
    refine tkP (i := 2) (bs' := [true, true, true, false, false, false, false, false, false, false]) rfl rfl rfl (by decide) hf (by kernel_rfl) (fun _ => trivial) (fun w => pOp_ok (tb := tab) tabOk hf rfl) rfl fun a hf => ?_
    refine str (fun w => Mem ⟨w0, [b0]⟩ S [⟨b0, 138, [(.slice A c.code.length c2), (.int .i64 (w64 (c.at_ + 1))), (.int .u64 (wu64 ((wu64 ((wu64 (c.seed.n * 6364136223846793005)) + (wu64 0))) + 897897)))]⟩] [] [] [(false, MP.val [(.slice A c.code.length c2)] (c.code : List By))] w) (fun w H => trivial) ?_
    have hS : Mem ⟨w0, [b0]⟩ S [⟨b0, 138, [(.slice A c.code.length c2), (.int .i64 (w64 (c.at_ + 1))), (.int .u64 (wu64 ((wu64 ((wu64 (c.seed.n * 6364136223846793005)) + (wu64 0))) + 897897)))]⟩] [] [] [(false, MP.val [(.slice A c.code.length c2)] (c.code : List By))] w := H.let [true] [] [] [0]
    refine tkS (i := 3) (bs' := [true, true, true, true, false, false, false, false, false, false]) [] rfl rfl rfl (by decide) hf (by kernel_rfl) (by kernel_rfl) hS (fun w H => rq_loadB hf H TF.ls3 0 rfl rfl rfl) rfl fun a hf => ?_
    refine tkP (i := 4) (bs' := [true, true, true, true, true, false, false, false, false, false]) rfl rfl rfl (by decide) hf (by kernel_rfl) (fun _ => hS) (fun w => pOp_ok (tb := tab) tabOk hf rfl) rfl fun a hf => ?_
    refine tkP (i := 5) (bs' := [true, true, true, true, true, true, false, false, false, false]) rfl rfl rfl (by decide) hf (by kernel_rfl) (fun _ => hS) (fun w => pOp_ok (tb := tab) tabOk hf rfl) rfl fun a hf => ?_
    refine tkP (i := 6) (bs' := [true, true, true, true, true, true, true, false, false, false]) rfl rfl rfl (by decide) hf (by kernel_rfl) (fun _ => hS) (fun w => pOp_ok (tb := tab) tabOk hf rfl) rfl fun a hf => ?_
    refine tkS (i := 7) (bs' := [true, true, true, true, true, true, true, true, false, false]) [] rfl rfl rfl (by decide) hf (by kernel_rfl) (by kernel_rfl) hS (fun w H => rq_loadB hf H TF.ls83 0 rfl rfl rfl) rfl fun a hf => ?_
    refine tkP (i := 8) (bs' := [true, true, true, true, true, true, true, true, true, false]) rfl rfl rfl (by decide) hf (by kernel_rfl) (fun _ => hS) (fun w => pOp_ok (tb := tab) tabOk hf rfl) rfl fun a hf => ?_
    refine tkP (i := 9) (bs' := [true, true, true, true, true, true, true, true, true, true]) rfl rfl rfl (by decide) hf (by kernel_rfl) (fun _ => hS) (fun w => pOp_ok (tb := tab) tabOk hf rfl) rfl fun a hf => ?_
    refine dn (by kernel_rfl) ?_
    have hf := hf.prune [0, 3, 53] rfl
    refine then_n ?_
    refine (Bool.eq_false_or_eq_true (decide ((w64 (c.at_ + 1)) ≤ (c.code.length : Int)))).elim (fun hc3 => ?_) (fun hc3 => ?_)
    · rw [if_pos hc3] at hF
      refine cd_t hf rfl hc3 ?_
      refine sq ?_
      refine reg ?_
      refine pRun_ok (tb := tab) (n := 62) tabOk 2 _ _ hf rfl rfl fun a hf => ?_
      refine wl_end ?_
      refine then_n ?_
      refine wp_ret (then_r (?_))
      obtain rfl := Option.some.inj hF
      refine ret_1 (fn := Try.f159) (r := .tmp 2) hf rfl (rv_tmp hf rfl) ?_
      exact ⟨_, rfl, H.chg, _, H.boxAt 0 rfl, (L1CurP_mk (x := ({ code := c.code, at_ := w64 (c.at_ + 1), seed := (⟨wu64 ((wu64 ((wu64 (c.seed.n * 6364136223846793005)) + (wu64 0))) + 897897)⟩ : U64) } : L1CurP)) (rep_endB (M := _) (i := 0) rfl (α := List By) (H.get 0 rfl))), mk_int⟩
    · rw [if_neg (nt hc3)] at hF
      refine cd_f hf rfl hc3 ?_
      refine wp_skip ?_
      refine then_n ?_
      refine sq ?_
      refine reg ?_
      refine pRun_ok (tb := tab) (n := 62) tabOk 3 _ _ hf rfl rfl fun a hf => ?_
      refine wl0 rfl (op_q hf (rq_loadB hf H TF.ls136 0 rfl rfl rfl) rfl (by decide) fun a hf => ?_)
      obtain ⟨q2, hq2, hF⟩ := bind_some hF
      refine wl0 rfl (op_q hf (rq_shrK rfl hf rfl rfl hq2) rfl (by decide) fun a hf => ?_)
      refine wl0 rfl (op_q hf (rq_andu64 hf rfl rfl) rfl (by decide) fun a hf => ?_)
      refine wl0 rfl (op_q hf (rq_conv i64w Try.underlying136 Try.underlying3 hf rfl) rfl (by decide) fun a hf => ?_)
      refine pRun_ok (tb := tab) (n := 62) tabOk 1 _ _ hf rfl rfl fun a hf => ?_
      refine wl_end ?_
      refine then_n ?_
      refine wp_ret (?_)
      obtain rfl := Option.some.inj hF
      refine ret_1 (fn := Try.f159) (r := .tmp 2) hf rfl (rv_tmp hf rfl) ?_
      exact ⟨_, rfl, H.chg, _, H.boxAt 0 rfl, (L1CurP_mk (x := ({ code := c.code, at_ := w64 (c.at_ + 1), seed := (⟨wu64 ((wu64 ((wu64 (c.seed.n * 6364136223846793005)) + (wu64 0))) + 897897)⟩ : U64) } : L1CurP)) (rep_endB (M := _) (i := 0) rfl (α := List By) (H.get 0 rfl))), mk_int⟩

/- (*loop.example/g00897/spec.l1Cur).pick -/
set_option maxHeartbeats 1000000 in
theorem spec_l1Cur_pick_ok {fu : Nat} {w0 : World} {S : Nat → Prop} {b0 : Nat} {cs0 : List Value} {v1_ : Value} {c : L1CurP} {n' : Int} {r : Int × L1CurP} (hp0 : w0.heap[b0]? = some (.cells cs0.toArray 138 (0, 0))) (hr0 : GoTy.rep w0 S cs0 c) (hS0 : ¬ S b0) (h1 : VR w0 S v1_ n') (hF : spec_l1Cur_pick fu c n' = some r) :
    Calls Try.prog 134 [(.pointer (some ⟨b0, 0, none⟩)), v1_].toArray w0 fun e w' => ∃ v, e = .returned v ∧ (Chg w0 w' [b0] ∧ ∃ cs', w'.heap[b0]? = some (.cells cs'.toArray 138 (0, 0)) ∧ GoTy.rep w' (St ⟨w0, [b0]⟩ S [⟨b0, 138, cs'⟩] [] [] false) cs' r.2 ∧ VR w' (St ⟨w0, [b0]⟩ S [⟨b0, 138, cs'⟩] [] [] true) v r.1) := by
  obtain ⟨A, c2, rfl, hl⟩ := L1CurP_cells hr0
  obtain rfl := VR_int h1
  have H := Mem.startB S hp0
  have H := H.argB (by simpa using hS0) (p := MP.val [(.slice A c.code.length c2)] c.code) hl
  refine enter Try.func134 rfl rfl (nle rfl) rfl fun a hf => ?_
  rw [spec_l1Cur_pick] at hF
  refine sq ?_
  refine reg ?_
  refine pRun_ok (tb := tab) (n := 20) tabOk 1 _ _ hf rfl rfl fun a hf => ?_
  refine wl_end ?_
  refine then_n ?_
  refine sq ?_
  refine sq ?_
  refine reg ?_
  refine pRun_ok (tb := tab) (n := 20) tabOk 2 _ _ hf rfl rfl fun a hf => ?_
  refine wl_end ?_
  refine then_n ?_
  refine (Bool.eq_false_or_eq_true (decide (n' ≤ 1))).elim (fun hc => ?_) (fun hc => ?_)
  · rw [if_pos hc] at hF
    refine cd_t hf rfl hc ?_
    refine sq ?_
    refine reg ?_
    refine pRun_ok (tb := tab) (n := 20) tabOk 1 _ _ hf rfl rfl fun a hf => ?_
    refine wl_end ?_
    refine then_n ?_
    refine wp_ret (then_r (?_))
    obtain rfl := Option.some.inj hF
    refine ret_1 (fn := Try.f134) (r := .tmp 4) hf rfl (rv_tmp hf rfl) ?_
    exact ⟨_, rfl, H.chg, _, H.boxAt 0 rfl, (L1CurP_mk (x := c) (rep_endB (M := _) (i := 0) rfl (α := List By) (H.get 0 rfl))), mk_int⟩
  · rw [if_neg (nt hc)] at hF
    refine cd_f hf rfl hc ?_
    refine wp_skip ?_
    refine then_n ?_
    refine sq ?_
    refine reg ?_
    refine pRun_ok (tb := tab) (n := 20) tabOk 1 _ _ hf rfl rfl fun a hf => ?_
    obtain ⟨y, hy, hF⟩ := bind_some hF
    refine wl0 rfl (op_call hf TF.cl159 rfl (by decide) (spec_l1Cur_next_ok (S := St ⟨w0, [b0]⟩ S [⟨b0, 138, [(.slice A c.code.length c2), (.int .i64 c.at_), (.int .u64 c.seed.n)]⟩] [] [] false) (H.boxAt 0 rfl) (L1CurP_mk (x := c) (H.get 0 rfl)) (H.notSt 0 rfl _) hy) fun v w a hp hf => ?_)
    obtain ⟨hch, cs, hbx, hr, hs⟩ := hp
    replace hr := GoTy.mono hr (H.movesB 0 rfl false)
    obtain rfl := VR_int hs
    obtain ⟨A2, c3, rfl, hl2⟩ := L1CurP_cells hr
    have H := H.wroteBox 0 rfl hch hbx
    have H := H.push (false, MP.val [(.slice A2 y.2.code.length c3)] y.2.code) hl2
    refine pRun_ok (tb := tab) (n := 20) tabOk 1 _ _ hf rfl rfl fun a hf => ?_
    refine wl_end ?_
    refine then_n ?_
    refine sq ?_
    refine sq ?_
    refine reg ?_
    refine pRun_ok (tb := tab) (n := 20) tabOk 2 _ _ hf rfl rfl fun a hf => ?_
    refine wl_end ?_
    refine then_n ?_
    refine (Bool.eq_false_or_eq_true (decide (n' > 200))).elim (fun hc2 => ?_) (fun hc2 => ?_)
    · rw [if_pos hc2] at hF
      refine cd_t hf rfl hc2 ?_
      refine reg ?_
      refine pRun_ok (tb := tab) (n := 20) tabOk 3 _ _ hf rfl rfl fun a hf => ?_
      obtain ⟨y2, hy2, hF⟩ := bind_some hF
      refine wl0 rfl (op_call hf TF.cl159 rfl (by decide) (spec_l1Cur_next_ok (S := St ⟨w0, [b0]⟩ S [⟨b0, 138, [(.slice A2 y.2.code.length c3), (.int .i64 y.2.at_), (.int .u64 y.2.seed.n)]⟩] [] [] false) (H.boxAt 0 rfl) (L1CurP_mk (x := y.2) (H.get 0 rfl)) (H.notSt 0 rfl _) hy2) fun v2 w a hp2 hf => ?_)
      obtain ⟨hch2, cs2, hbx2, hr2, hs2⟩ := hp2
      replace hr2 := GoTy.mono hr2 (H.movesB 0 rfl false)
      obtain rfl := VR_int hs2
      obtain ⟨A3, c4, rfl, hl3⟩ := L1CurP_cells hr2
      have H := H.wroteBox 0 rfl hch2 hbx2
      have H := H.push (false, MP.val [(.slice A3 y2.2.code.length c4)] y2.2.code) hl3
      refine pRun_ok (tb := tab) (n := 20) tabOk 2 _ _ hf rfl rfl fun a hf => ?_
      have hf := hf.prune [1, 5] rfl
      refine wl_end ?_
      refine then_n ?_
      refine sq ?_
      refine reg ?_
      refine pRun_ok (tb := tab) (n := 20) tabOk 2 _ _ hf rfl rfl fun a hf => ?_
      obtain ⟨q, hq, hF⟩ := bind_some hF
      refine wl0 rfl (op_q hf (rq_rem hf rfl rfl hq) rfl (by decide) fun a hf => ?_)
      refine pRun_ok (tb := tab) (n := 20) tabOk 1 _ _ hf rfl rfl fun a hf => ?_
      refine wl_end ?_
      refine then_n ?_
      refine wp_ret (?_)
      obtain rfl := Option.some.inj hF
      refine ret_1 (fn := Try.f134) (r := .tmp 4) hf rfl (rv_tmp hf rfl) ?_
      exact ⟨_, rfl, H.chg, _, H.boxAt 0 rfl, (L1CurP_mk (x := y2.2) (rep_endB (M := _) (i := 0) rfl (α := List By) (H.get 0 rfl))), mk_int⟩
    · rw [if_neg (nt hc2)] at hF
      refine cd_f hf rfl hc2 ?_
      refine wp_skip ?_
      refine then_n ?_
      refine sq ?_
      refine reg ?_
      refine pRun_ok (tb := tab) (n := 20) tabOk 2 _ _ hf rfl rfl fun a hf => ?_
      obtain ⟨q2, hq2, hF⟩ := bind_some hF
      refine wl0 rfl (op_q hf (rq_rem hf rfl rfl hq2) rfl (by decide) fun a hf => ?_)
      refine pRun_ok (tb := tab) (n := 20) tabOk 1 _ _ hf rfl rfl fun a hf => ?_
      refine wl_end ?_
      refine then_n ?_
      refine wp_ret (?_)
      obtain rfl := Option.some.inj hF
      refine ret_1 (fn := Try.f134) (r := .tmp 4) hf rfl (rv_tmp hf rfl) ?_
      exact ⟨_, rfl, H.chg, _, H.boxAt 0 rfl, (L1CurP_mk (x := y.2) (rep_endB (M := _) (i := 0) rfl (α := List By) (H.get 0 rfl))), mk_int⟩

/- (*loop.example/g00897/spec.l1Cur).among -/
set_option maxHeartbeats 1000000 in
theorem spec_l1Cur_among_ok {fu : Nat} {w0 : World} {S : Nat → Prop} {b0 : Nat} {cs0 : List Value} {v1_ : Value} {c : L1CurP} {list : List Int} {r : Int × L1CurP} (hp0 : w0.heap[b0]? = some (.cells cs0.toArray 138 (0, 0))) (hr0 : GoTy.rep w0 S cs0 c) (hS0 : ¬ S b0) (h1 : VR w0 S v1_ list) (hF : spec_l1Cur_among fu c list = some r) :
    Calls Try.prog 133 [(.pointer (some ⟨b0, 0, none⟩)), v1_].toArray w0 fun e w' => ∃ v, e = .returned v ∧ (Chg w0 w' [b0] ∧ ∃ cs', w'.heap[b0]? = some (.cells cs'.toArray 138 (0, 0)) ∧ GoTy.rep w' (St ⟨w0, [b0]⟩ S [⟨b0, 138, cs'⟩] [] [] false) cs' r.2 ∧ VR w' (St ⟨w0, [b0]⟩ S [⟨b0, 138, cs'⟩] [] [] true) v r.1) := by
  obtain ⟨A, c2, rfl, hl⟩ := L1CurP_cells hr0
  obtain ⟨A2, c3, rfl, hl2⟩ := VR_list h1
  have H := Mem.startB S hp0
  have H := H.argB (by simpa using hS0) (p := MP.val [(.slice A c.code.length c2)] c.code) hl
  have H := H.argB (by simpa using hS0) (p := MP.val [(.slice A2 list.length c3)] list) hl2
  refine enter Try.func133 rfl rfl (nle rfl) rfl fun a hf => ?_
  rw [spec_l1Cur_among] at hF
  refine sq ?_
  refine reg ?_
  refine pRun_ok (tb := tab) (n := 12) tabOk 1 _ _ hf rfl rfl fun a hf => ?_
  refine wl_end ?_
  refine then_n ?_
  refine sq ?_
  refine reg ?_
  refine pRun_ok (tb := tab) (n := 12) tabOk 4 _ _ hf rfl rfl fun a hf => ?_
  obtain ⟨y, hy, hF⟩ := bind_some hF
  refine wl0 rfl (op_call hf TF.cl134 rfl (by decide) (spec_l1Cur_pick_ok (S := St ⟨w0, [b0]⟩ S [⟨b0, 138, [(.slice A c.code.length c2), (.int .i64 c.at_), (.int .u64 c.seed.n)]⟩] [] [] false) (H.boxAt 0 rfl) (L1CurP_mk (x := c) (H.get 1 rfl)) (H.notSt 0 rfl _) mk_int hy) fun v w a hp hf => ?_)
  obtain ⟨hch, cs, hbx, hr, hs⟩ := hp
  replace hr := GoTy.mono hr (H.movesB 0 rfl false)
  obtain rfl := VR_int hs
  obtain ⟨A3, c4, rfl, hl3⟩ := L1CurP_cells hr
  have H := H.wroteBox 0 rfl hch hbx
  have H := H.push (false, MP.val [(.slice A3 y.2.code.length c4)] y.2.code) hl3
  obtain ⟨e, he, hF⟩ := bind_some hF
  refine wl0 rfl (op_iaddr hf H Try.underlying35 TF.sz3 1 rfl rfl rfl he (by decide) fun p o cs2 a hf hr2 H => ?_)
  obtain rfl := hr2
  refine wl0 rfl (op_q hf (rq_loadI hf H TF.ls3 0 0 rfl rfl rfl) rfl (by decide) fun a hf => ?_)
  refine pRun_ok (tb := tab) (n := 12) tabOk 1 _ _ hf rfl rfl fun a hf => ?_
  refine wl_end ?_
  refine then_n ?_
  refine wp_ret (?_)
  obtain rfl := Option.some.inj hF
  refine ret_1 (fn := Try.f133) (r := .tmp 4) hf rfl (rv_tmp hf rfl) ?_
  exact ⟨_, rfl, H.chg, _, H.boxAt 0 rfl, (L1CurP_mk (x := y.2) (rep_endB (M := _) (i := 0) rfl (α := List By) (H.get 1 rfl))), mk_int⟩

/- loop.example/g00897/spec.DrawLinearValue -/
set_option maxHeartbeats 1000000 in
theorem spec_DrawLinearValue_ok {fu : Nat} {w0 : World} {S : Nat → Prop} {v0_ : Value} {code : List By} {r : Int} (h0 : VR w0 S v0_ code) (hF : spec_DrawLinearValue fu code = some r) :
    Calls Try.prog 77 [v0_].toArray w0 fun e w' => ∃ v, e = .returned v ∧ (Below w0.heap.size w0 w' ∧ VR w' (St ⟨w0, []⟩ S [] [] [] true) v r) := by
  obtain ⟨A, c, rfl, hl⟩ := VR_list h0
  have H := Mem.start ⟨w0, []⟩ S
  have H := H.pushArg (MP.val [(.slice A code.length c)] code) hl
  refine enter Try.func77 rfl rfl (nle rfl) rfl fun a hf => ?_
  rw [spec_DrawLinearValue] at hF
  refine sq ?_
  refine reg ?_
  refine pRun_ok (tb := tab) (n := 16) tabOk 1 _ _ hf rfl rfl fun a hf => ?_
  refine wl_end ?_
  refine then_n ?_
  refine sq ?_
  refine reg ?_
  refine pRun_ok (tb := tab) (n := 16) tabOk 1 _ _ hf rfl rfl fun a hf => ?_
  refine wl0 rfl (op_q hf (rq_build hf (cs := [(.slice A code.length c), (.int .i64 0), (.int .u64 0)]) rfl (fun w => by kernel_rfl)) rfl (by decide) fun a hf => ?_)
  refine wl0 rfl (op_box hf H rfl rfl (by decide) fun b' a w hf H => ?_)
  refine pRun_ok (tb := tab) (n := 16) tabOk 1 _ _ hf rfl rfl fun a hf => ?_
  refine wl_end ?_
  refine then_n ?_
  refine sq ?_
  refine reg ?_
  refine pRun_ok (tb := tab) (n := 16) tabOk 2 _ _ hf rfl rfl fun a hf => ?_
  obtain ⟨y, hy, hF⟩ := bind_some hF
  refine wl0 rfl (op_call hf TF.cl134 rfl (by decide) (spec_l1Cur_pick_ok (S := St ⟨w0, []⟩ S [⟨b', 138, [(.slice A code.length c), (.int .i64 0), (.int .u64 0)]⟩] [] [] false) (H.boxAt 0 rfl) (L1CurP_mk (x := ({ code := code, at_ := 0, seed := (⟨0⟩ : U64) } : L1CurP)) (H.get 0 rfl)) (H.notSt 0 rfl _) mk_int hy) fun v w a hp hf => ?_)
  obtain ⟨hch, cs, hbx, hr, hs⟩ := hp
  replace hr := GoTy.mono hr (H.movesB 0 rfl false)
  obtain rfl := VR_int hs
  obtain ⟨A2, c2, rfl, hl2⟩ := L1CurP_cells hr
  have H := H.wroteBox 0 rfl hch hbx
  have H := H.push (false, MP.val [(.slice A2 y.2.code.length c2)] y.2.code) hl2
  refine pRun_ok (tb := tab) (n := 16) tabOk 2 _ _ hf rfl rfl fun a hf => ?_
  obtain ⟨y2, hy2, hF⟩ := bind_some hF
  refine wl0 rfl (op_call hf TF.cl134 rfl (by decide) (spec_l1Cur_pick_ok (S := St ⟨w0, []⟩ S [⟨b', 138, [(.slice A2 y.2.code.length c2), (.int .i64 y.2.at_), (.int .u64 y.2.seed.n)]⟩] [] [] false) (H.boxAt 0 rfl) (L1CurP_mk (x := y.2) (H.get 0 rfl)) (H.notSt 0 rfl _) mk_int hy2) fun v2 w a hp2 hf => ?_)
  obtain ⟨hch2, cs2, hbx2, hr2, hs2⟩ := hp2
  replace hr2 := GoTy.mono hr2 (H.movesB 0 rfl false)
  obtain rfl := VR_int hs2
  obtain ⟨A3, c3, rfl, hl3⟩ := L1CurP_cells hr2
  have H := H.wroteBox 0 rfl hch2 hbx2
  have H := H.push (false, MP.val [(.slice A3 y2.2.code.length c3)] y2.2.code) hl3
  refine pRun_ok (tb := tab) (n := 16) tabOk 1 _ _ hf rfl rfl fun a hf => ?_
  refine wl0 rfl (op_bslice hf H (.sh true) rfl 3 ([w64 (100 * y.1), w64 (100 * y2.1), 150, (-100), 9900, 10000, 0] : List Int) [(.int .i64 (w64 (100 * y.1))), (.int .i64 (w64 (100 * y2.1))), (.int .i64 150), (.int .i64 (-100)), (.int .i64 9900), (.int .i64 10000), (.int .i64 0)] rfl (fun w => by kernel_rfl) rfl (by decide) rfl trivial (elI [w64 (100 * y.1), w64 (100 * y2.1), 150, (-100), 9900, 10000, 0]) (by decide) fun A4 a w hf H => ?_)
  have H := H.freeze 0 rfl
  obtain ⟨y3, hy3, hF⟩ := bind_some hF
  refine wl0 rfl (op_call hf TF.cl133 rfl (by decide) (spec_l1Cur_among_ok (S := St ⟨w0, []⟩ S [⟨b', 138, [(.slice A3 y2.2.code.length c3), (.int .i64 y2.2.at_), (.int .u64 y2.2.seed.n)]⟩] [] [] false) (H.boxAt 0 rfl) (L1CurP_mk (x := y2.2) (H.get 1 rfl)) (H.notSt 0 rfl _) (mk_list (rep_weak (α := List Int) (H.get 0 rfl))) hy3) fun v3 w a hp3 hf => ?_)
  obtain ⟨hch3, cs3, hbx3, hr3, hs3⟩ := hp3
  replace hr3 := GoTy.mono hr3 (H.movesB 0 rfl false)
  obtain rfl := VR_int hs3
  obtain ⟨A5, c4, rfl, hl4⟩ := L1CurP_cells hr3
  have H := H.wroteBox 0 rfl hch3 hbx3
  have H := H.push (false, MP.val [(.slice A5 y3.2.code.length c4)] y3.2.code) hl4
  refine pRun_ok (tb := tab) (n := 16) tabOk 1 _ _ hf rfl rfl fun a hf => ?_
  have hf := hf.prune [2] rfl
  refine wl_end ?_
  refine then_n ?_
  refine wp_ret (?_)
  obtain rfl := Option.some.inj hF
  refine ret_1 (fn := Try.f77) (r := .tmp 2) hf rfl (rv_tmp hf rfl) ?_
  exact ⟨_, rfl, H.bel, mk_int⟩

/- loop.example/g00897/impl.within -/
set_option maxHeartbeats 1000000 in
theorem impl_within_ok {fu : Nat} {w0 : World} {S : Nat → Prop} {v0_ : Value} {v1_ : Value} {v2_ : Value} {n' : Int} {low : Int} {high : Int} {r : Bool} (h0 : VR w0 S v0_ n') (h1 : VR w0 S v1_ low) (h2 : VR w0 S v2_ high) (hF : impl_within fu n' low high = some r) :
    Calls Try.prog 98 [v0_, v1_, v2_].toArray w0 fun e w' => ∃ v, e = .returned v ∧ (Below w0.heap.size w0 w' ∧ VR w' (St ⟨w0, []⟩ S [] [] [] true) v r) := by
  obtain rfl := VR_int h0
  obtain rfl := VR_int h1
  obtain rfl := VR_int h2
  have H := Mem.start ⟨w0, []⟩ S
  refine enter Try.func98 rfl rfl (nle rfl) rfl fun a hf => ?_
  rw [impl_within] at hF
  refine sq ?_
  refine reg ?_
  refine pRun_ok (tb := tab) (n := 15) tabOk 1 _ _ hf rfl rfl fun a hf => ?_
  refine wl_end ?_
  refine then_n ?_
  refine sq ?_
  obtain ⟨c, hGc, hF⟩ := bind_some hF
  refine mid (fun a w => Fr a 15 [(6, (.bool c))] ∧ Mem ⟨w0, []⟩ S [] [] [] [] w) ?_ ?_
  · refine reg ?_
    refine pRun_ok (tb := tab) (n := 15) tabOk 4 _ _ hf rfl rfl fun a hf => ?_
    refine (Bool.eq_false_or_eq_true (decide (low ≤ n'))).elim (fun hc => ?_) (fun hc => ?_)
    · rw [if_pos hc] at hGc
      have hf := hf.lit 10 rfl hc
      refine pRun_ok (tb := tab) (n := 15) tabOk 5 _ _ hf rfl rfl fun a hf => ?_
      obtain rfl := Option.some.inj hGc
      have hf := hf.prune [6] rfl
      have H := H.let [] [] [] []
      exact wl_end ⟨hf, H⟩
    · rw [if_neg (nt hc)] at hGc
      have hf := hf.lit 10 rfl hc
      refine pRun_ok (tb := tab) (n := 15) tabOk 5 _ _ hf rfl rfl fun a hf => ?_
      obtain rfl := Option.some.inj hGc
      have hf := hf.prune [6] rfl
      have H := H.let [] [] [] []
      exact wl_end ⟨hf, H⟩
  rintro a w ⟨hf, H⟩
  refine then_n ?_
  refine wp_ret (?_)
  obtain rfl := Option.some.inj hF
  refine ret_1 (fn := Try.f98) (r := .tmp 6) hf rfl (rv_tmp hf rfl) ?_
  exact ⟨_, rfl, H.bel, mk_bool⟩

/- loop.example/g00897/impl.hasLinear -/
set_option maxHeartbeats 1000000 in
theorem impl_hasLinear_ok {fu : Nat} {w0 : World} {S : Nat → Prop} {v0_ : Value} {level : Int} {r : Bool} (h0 : VR w0 S v0_ level) (hF : impl_hasLinear fu level = some r) :
    Calls Try.prog 104 [v0_].toArray w0 fun e w' => ∃ v, e = .returned v ∧ (Below w0.heap.size w0 w' ∧ VR w' (St ⟨w0, []⟩ S [] [] [] true) v r) := by
  obtain rfl := VR_int h0
  have H := Mem.start ⟨w0, []⟩ S
  refine enter Try.func104 rfl rfl (nle rfl) rfl fun a hf => ?_
  rw [impl_hasLinear] at hF
  refine sq ?_
  refine reg ?_
  refine pRun_ok (tb := tab) (n := 10) tabOk 1 _ _ hf rfl rfl fun a hf => ?_
  refine wl_end ?_
  refine then_n ?_
  refine sq ?_
  obtain ⟨c, hGc, hF⟩ := bind_some hF
  refine mid (fun a w => Fr a 10 [(2, (.bool c))] ∧ Mem ⟨w0, []⟩ S [] [] [] [] w) ?_ ?_
  · refine reg ?_
    refine pRun_ok (tb := tab) (n := 10) tabOk 1 _ _ hf rfl rfl fun a hf => ?_
    obtain ⟨y, hy, hGc⟩ := bind_some hGc
    refine wl0 rfl (op_call hf TF.cl98 rfl (by decide) (impl_within_ok (S := fun _ => True) mk_int mk_int mk_int hy) fun v w a hp hf => ?_)
    obtain ⟨hb, hp⟩ := hp
    obtain rfl := VR_bool hp
    have H := H.keep hb
    refine pRun_ok (tb := tab) (n := 10) tabOk 1 _ _ hf rfl rfl fun a hf => ?_
    refine (Bool.eq_false_or_eq_true (y)).elim (fun hc => ?_) (fun hc => ?_)
    · rw [if_pos hc] at hGc
      have hf := hf.lit 5 rfl hc
      refine pRun_ok (tb := tab) (n := 10) tabOk 1 _ _ hf rfl rfl fun a hf => ?_
      obtain ⟨q, hq, hGc⟩ := bind_some hGc
      refine wlg hf rfl rfl rfl (op_q hf (rq_rem hf rfl rfl hq) rfl (by decide) fun a hf => ?_)
      refine pRun_ok (tb := tab) (n := 10) tabOk 3 _ _ hf rfl rfl fun a hf => ?_
      obtain rfl := Option.some.inj hGc
      have hf := hf.prune [2] rfl
      have H := H.let [] [] [] []
      exact wl_end ⟨hf, H⟩
    · rw [if_neg (nt hc)] at hGc
      have hf := hf.lit 5 rfl hc
      refine pRun_ok (tb := tab) (n := 10) tabOk 5 _ _ hf rfl rfl fun a hf => ?_
      obtain rfl := Option.some.inj hGc
      have hf := hf.prune [2] rfl
      have H := H.let [] [] [] []
      exact wl_end ⟨hf, H⟩
  rintro a w ⟨hf, H⟩
  refine then_n ?_
  refine wp_ret (?_)
  obtain rfl := Option.some.inj hF
  refine ret_1 (fn := Try.f104) (r := .tmp 2) hf rfl (rv_tmp hf rfl) ?_
  exact ⟨_, rfl, H.bel, mk_bool⟩

/- loop.example/g00897/impl.linear -/
set_option maxHeartbeats 1000000 in
theorem impl_linear_ok {fu : Nat} {w0 : World} {S : Nat → Prop} {v0_ : Value} {level : Int} {r : Int} (h0 : VR w0 S v0_ level) (hF : impl_linear fu level = some r) :
    Calls Try.prog 105 [v0_].toArray w0 fun e w' => ∃ v, e = .returned v ∧ (Below w0.heap.size w0 w' ∧ VR w' (St ⟨w0, []⟩ S [] [] [] true) v r) := by
  obtain rfl := VR_int h0
  have H := Mem.start ⟨w0, []⟩ S
  refine enter Try.func105 rfl rfl (nle rfl) rfl fun a hf => ?_
  rw [impl_linear] at hF
  refine sq ?_
  refine reg ?_
  refine pRun_ok (tb := tab) (n := 17) tabOk 1 _ _ hf rfl rfl fun a hf => ?_
  refine wl_end ?_
  refine then_n ?_
  refine sq ?_
  refine reg ?_
  refine wl0 rfl (op_q hf (rq_build hf (cs := [(.int .i64 1000), (.int .i64 1259), (.int .i64 1585), (.int .i64 1995), (.int .i64 2512), (.int .i64 3162), (.int .i64 3981), (.int .i64 5012), (.int .i64 6310), (.int .i64 7943)]) rfl (fun w => by kernel_rfl)) rfl (by decide) fun a hf => ?_)
  refine pRun_ok (tb := tab) (n := 17) tabOk 1 _ _ hf rfl rfl fun a hf => ?_
  obtain ⟨q, hq, hF⟩ := bind_some hF
  refine wl0 rfl (op_q hf (rq_quo hf rfl rfl hq) rfl (by decide) fun a hf => ?_)
  obtain ⟨q2, hq2, hF⟩ := bind_some hF
  refine wl0 rfl (op_q hf (rq_rem hf rfl rfl hq2) rfl (by decide) fun a hf => ?_)
  obtain ⟨e, he, hF⟩ := bind_some hF
  refine wl0 rfl (op_q hf (rq_indexA hf Try.underlying154 TF.pt3 rfl rfl rfl rfl he) rfl (by decide) fun a hf => ?_)
  refine pRun_ok (tb := tab) (n := 17) tabOk 1 _ _ hf rfl rfl fun a hf => ?_
  refine wl_end ?_
  refine then_n ?_
  refine sq ?_
  refine sq ?_
  refine reg ?_
  refine pRun_ok (tb := tab) (n := 17) tabOk 1 _ _ hf rfl rfl fun a hf => ?_
  obtain ⟨q3, hq3, hF⟩ := bind_some hF
  refine wl0 rfl (op_q hf (rq_quo hf rfl rfl hq3) rfl (by decide) fun a hf => ?_)
  refine pRun_ok (tb := tab) (n := 17) tabOk 1 _ _ hf rfl rfl fun a hf => ?_
  refine wl_end ?_
  refine then_n ?_
  obtain ⟨out2, hB1, hF⟩ := bind_some hF
  have hf := hf.prune [3, 10, 11] rfl
  have H := H.let [] [] [] []
  have hI : (fun (s : Int × Int) (a : Act) (w : World) => match s with | (out', i) => Fr a 17 [(3, (.int .i64 out')), (10, (.int .i64 q3)), (11, (.int .i64 i))] ∧ Mem ⟨w0, []⟩ S [] [] [] [] w) (e, 0) a w0 := ⟨hf, H⟩
  refine mid (fun a w => ∃ s : Int × Int, out2 = s ∧ (fun (s : Int × Int) (a : Act) (w : World) => match s with | (out', i) => Fr a 17 [(3, (.int .i64 out')), (10, (.int .i64 q3)), (11, (.int .i64 i))] ∧ Mem ⟨w0, []⟩ S [] [] [] [] w) s a w) ?_ ?_
  · refine wp_block ?_
    refine loop_rule (fun k (s : Int × Int) => impl_linear_L1 fu q3 k s.1 s.2 = some out2) (fun (s : Int × Int) (a : Act) (w : World) => match s with | (out', i) => Fr a 17 [(3, (.int .i64 out')), (10, (.int .i64 q3)), (11, (.int .i64 i))] ∧ Mem ⟨w0, []⟩ S [] [] [] [] w) (fun s h => by cases h) ?_ fu (e, 0) a w0 hB1 hI
    rintro fk ⟨out', i⟩ a w hR1 hI
    replace hR1 : impl_linear_L1 fu q3 (fk + 1) out' i = some out2 := hR1
    rw [impl_linear_L1] at hR1
    obtain ⟨hf, H⟩ := hI
    refine sq ?_
    refine reg ?_
    refine pRun_ok (tb := tab) (n := 17) tabOk 1 _ _ hf rfl rfl fun a hf => ?_
    refine wl_end ?_
    refine then_n ?_
    refine sq ?_
    refine (Bool.eq_false_or_eq_true (decide (i < q3))).elim (fun hc => ?_) (fun hc => ?_)
    · rw [if_pos hc] at hR1
      refine cd_t hf rfl hc ?_
      refine wp_skip ?_
      refine then_n ?_
      refine sq ?_
      refine wp_block ?_
      refine reg ?_
      refine pRun_ok (tb := tab) (n := 17) tabOk 3 _ _ hf rfl rfl fun a hf => ?_
      refine wl_end ?_
      refine blk_n ?_
      refine then_n ?_
      refine reg ?_
      refine pRun_ok (tb := tab) (n := 17) tabOk 2 _ _ hf rfl rfl fun a hf => ?_
      refine wl_end ?_
      have hf := hf.prune [3, 10, 11] rfl
      have H := H.let [] [] [] []
      exact then_n ⟨(w64 (out' * 10), w64 (i + 1)), hR1, hf, H⟩
    · rw [if_neg (nt hc)] at hR1
      refine cd_f hf rfl hc ?_
      refine wp_exit (then_x (then_x (blk_e (?_))))
      have hf := hf.prune [3, 10, 11] rfl
      have H := H.let [] [] [] []
      exact ⟨(out', i), (Option.some.inj hR1).symm, hf, H⟩
  rintro a w ⟨⟨out3, i2⟩, rfl, hf, H⟩
  dsimp only at hF
  refine then_n ?_
  refine sq ?_
  refine reg ?_
  refine pRun_ok (tb := tab) (n := 17) tabOk 2 _ _ hf rfl rfl fun a hf => ?_
  refine wl_end ?_
  refine then_n ?_
  refine wp_ret (?_)
  obtain rfl := Option.some.inj hF
  refine ret_1 (fn := Try.f105) (r := .tmp 2) hf rfl (rv_tmp hf rfl) ?_
  exact ⟨_, rfl, H.bel, mk_int⟩

/- loop.example/g00897/impl.LinearValue -/
set_option maxHeartbeats 1000000 in
theorem impl_LinearValue_ok {fu : Nat} {w0 : World} {S : Nat → Prop} {v0_ : Value} {level : Int} {r : Int × Bool} (h0 : VR w0 S v0_ level) (hF : impl_LinearValue fu level = some r) :
    Calls Try.prog 30 [v0_].toArray w0 fun e w' => ∃ v, e = .returned v ∧ (Below w0.heap.size w0 w' ∧ ∃ u0 u1, v = .tuple #[u0, u1] ∧ VR w' (St ⟨w0, []⟩ S [] [] [] true) u0 r.1 ∧ VR w' (St ⟨w0, []⟩ S [] [] [] true) u1 r.2) := by
  obtain rfl := VR_int h0
  have H := Mem.start ⟨w0, []⟩ S
  refine enter Try.func30 rfl rfl (nle rfl) rfl fun a hf => ?_
  rw [impl_LinearValue] at hF
  refine sq ?_
  refine reg ?_
  refine pRun_ok (tb := tab) (n := 9) tabOk 2 _ _ hf rfl rfl fun a hf => ?_
  refine wl_end ?_
  refine then_n ?_
  refine sq ?_
  refine sq ?_
  refine reg ?_
  refine pRun_ok (tb := tab) (n := 9) tabOk 1 _ _ hf rfl rfl fun a hf => ?_
  obtain ⟨y, hy, hF⟩ := bind_some hF
  refine wl0 rfl (op_call hf TF.cl104 rfl (by decide) (impl_hasLinear_ok (S := fun _ => True) mk_int hy) fun v w a hp hf => ?_)
  obtain ⟨hb, hp⟩ := hp
  obtain rfl := VR_bool hp
  have H := H.keep hb
  refine pRun_ok (tb := tab) (n := 9) tabOk 1 _ _ hf rfl rfl fun a hf => ?_
  refine wl_end ?_
  refine then_n ?_
  refine (Bool.eq_false_or_eq_true (!y)).elim (fun hc => ?_) (fun hc => ?_)
  · rw [if_pos hc] at hF
    refine cd_t hf rfl hc ?_
    refine sq ?_
    refine reg ?_
    refine pRun_ok (tb := tab) (n := 9) tabOk 2 _ _ hf rfl rfl fun a hf => ?_
    refine wl_end ?_
    refine then_n ?_
    refine wp_ret (then_r (?_))
    obtain rfl := Option.some.inj hF
    refine ret_2 (fn := Try.f30) (r := .tmp 2) (s := .tmp 3) hf rfl (rv_tmp hf rfl) (rv_tmp hf rfl) ?_
    exact ⟨_, rfl, H.bel, _, _, rfl, mk_int, mk_bool⟩
  · rw [if_neg (nt hc)] at hF
    refine cd_f hf rfl hc ?_
    refine wp_skip ?_
    refine then_n ?_
    refine sq ?_
    refine reg ?_
    refine pRun_ok (tb := tab) (n := 9) tabOk 1 _ _ hf rfl rfl fun a hf => ?_
    obtain ⟨y2, hy2, hF⟩ := bind_some hF
    refine wl0 rfl (op_call hf TF.cl105 rfl (by decide) (impl_linear_ok (S := fun _ => True) mk_int hy2) fun v2 w a hp2 hf => ?_)
    obtain ⟨hb2, hp2⟩ := hp2
    obtain rfl := VR_int hp2
    have H := H.keep hb2
    refine pRun_ok (tb := tab) (n := 9) tabOk 2 _ _ hf rfl rfl fun a hf => ?_
    refine wl_end ?_
    refine then_n ?_
    refine wp_ret (?_)
    obtain rfl := Option.some.inj hF
    refine ret_2 (fn := Try.f30) (r := .tmp 2) (s := .tmp 3) hf rfl (rv_tmp hf rfl) (rv_tmp hf rfl) ?_
    exact ⟨_, rfl, H.bel, _, _, rfl, mk_int, mk_bool⟩

/- loop.example/g00897/spec.l1In -/
set_option maxHeartbeats 1000000 in
theorem spec_l1In_ok {fu : Nat} {w0 : World} {S : Nat → Prop} {v0_ : Value} {v1_ : Value} {v2_ : Value} {x1 : Int} {a' : Int} {b' : Int} {r : Bool} (h0 : VR w0 S v0_ x1) (h1 : VR w0 S v1_ a') (h2 : VR w0 S v2_ b') (hF : spec_l1In fu x1 a' b' = some r) :
    Calls Try.prog 97 [v0_, v1_, v2_].toArray w0 fun e w' => ∃ v, e = .returned v ∧ (Below w0.heap.size w0 w' ∧ VR w' (St ⟨w0, []⟩ S [] [] [] true) v r) := by
  obtain rfl := VR_int h0
  obtain rfl := VR_int h1
  obtain rfl := VR_int h2
  have H := Mem.start ⟨w0, []⟩ S
  refine enter Try.func97 rfl rfl (nle rfl) rfl fun a hf => ?_
  rw [spec_l1In] at hF
  refine sq ?_
  refine reg ?_
  refine pRun_ok (tb := tab) (n := 15) tabOk 1 _ _ hf rfl rfl fun a hf => ?_
  refine wl_end ?_
  refine then_n ?_
  refine sq ?_
  obtain ⟨c, hGc, hF⟩ := bind_some hF
  refine mid (fun a w => Fr a 15 [(6, (.bool c))] ∧ Mem ⟨w0, []⟩ S [] [] [] [] w) ?_ ?_
  · refine reg ?_
    refine pRun_ok (tb := tab) (n := 15) tabOk 4 _ _ hf rfl rfl fun a hf => ?_
    refine (Bool.eq_false_or_eq_true (decide (x1 ≥ a'))).elim (fun hc => ?_) (fun hc => ?_)
    · rw [if_pos hc] at hGc
      have hf := hf.lit 10 rfl hc
      refine pRun_ok (tb := tab) (n := 15) tabOk 5 _ _ hf rfl rfl fun a hf => ?_
      obtain rfl := Option.some.inj hGc
      have hf := hf.prune [6] rfl
      have H := H.let [] [] [] []
      exact wl_end ⟨hf, H⟩
    · rw [if_neg (nt hc)] at hGc
      have hf := hf.lit 10 rfl hc
      refine pRun_ok (tb := tab) (n := 15) tabOk 5 _ _ hf rfl rfl fun a hf => ?_
      obtain rfl := Option.some.inj hGc
      have hf := hf.prune [6] rfl
      have H := H.let [] [] [] []
      exact wl_end ⟨hf, H⟩
  rintro a w ⟨hf, H⟩
  refine then_n ?_
  refine wp_ret (?_)
  obtain rfl := Option.some.inj hF
  refine ret_1 (fn := Try.f97) (r := .tmp 6) hf rfl (rv_tmp hf rfl) ?_
  exact ⟨_, rfl, H.bel, mk_bool⟩

/- loop.example/g00897/spec.l22Table -/
set_option maxHeartbeats 1000000 in
theorem spec_l22Table_ok {fu : Nat} {w0 : World} {S : Nat → Prop} {r : List Int} (hF : spec_l22Table fu = some r) :
    Calls Try.prog 152 [].toArray w0 fun e w' => ∃ v, e = .returned v ∧ (Below w0.heap.size w0 w' ∧ ∃ F0, VO w' F0 v r ∧ New w0 w' F0) := by
  have H := Mem.start ⟨w0, []⟩ S
  refine enter Try.func152 rfl rfl (nle rfl) rfl fun a hf => ?_
  rw [spec_l22Table] at hF
  refine sq ?_
  refine reg ?_
  refine pRun_ok (tb := tab) (n := 2) tabOk 1 _ _ hf rfl rfl fun a hf => ?_
  refine wl_end ?_
  refine then_n ?_
  refine sq ?_
  refine reg ?_
  refine wl0 rfl (op_bslice hf H (.sh true) rfl 3 ([1000, 1259, 1585, 1995, 2512, 3162, 3981, 5012, 6310, 7943] : List Int) [(.int .i64 1000), (.int .i64 1259), (.int .i64 1585), (.int .i64 1995), (.int .i64 2512), (.int .i64 3162), (.int .i64 3981), (.int .i64 5012), (.int .i64 6310), (.int .i64 7943)] rfl (fun w => by kernel_rfl) rfl (by decide) rfl trivial (elI [1000, 1259, 1585, 1995, 2512, 3162, 3981, 5012, 6310, 7943]) (by decide) fun A a w hf H => ?_)
  refine pRun_ok (tb := tab) (n := 2) tabOk 1 _ _ hf rfl rfl fun a hf => ?_
  refine wl_end ?_
  refine then_n ?_
  refine wp_ret (?_)
  have H := H.rowOwn 0 rfl rfl
  obtain ⟨F, H⟩ := H.freezeOwn 0 rfl
  have H := H.lend 0 rfl
  obtain rfl := Option.some.inj hF
  refine ret_1 (fn := Try.f152) (r := .tmp 0) hf rfl (rv_tmp hf rfl) ?_
  have hN := H.ends (X := [(⟨F, MP.own F [(.slice A 10 10)] ([1000, 1259, 1585, 1995, 2512, 3162, 3981, 5012, 6310, 7943] : List Int)⟩ : DI)])
  simp only [List.flatMap_cons, List.flatMap_nil, List.append_nil, List.append_assoc] at hN
  exact ⟨_, rfl, H.bel, F, (mko_list (H.ownAt 0 rfl)), hN⟩

/- loop.example/g00897/spec.l22Linear -/
set_option maxHeartbeats 1000000 in
theorem spec_l22Linear_ok {fu : Nat} {w0 : World} {S : Nat → Prop} {v0_ : Value} {level : Int} {r : Int} (h0 : VR w0 S v0_ level) (hF : spec_l22Linear fu level = some r) :
    Calls Try.prog 103 [v0_].toArray w0 fun e w' => ∃ v, e = .returned v ∧ (Below w0.heap.size w0 w' ∧ VR w' (St ⟨w0, []⟩ S [] [] [] true) v r) := by
  obtain rfl := VR_int h0
  have H := Mem.start ⟨w0, []⟩ S
  refine enter Try.func103 rfl rfl (nle rfl) rfl fun a hf => ?_
  rw [spec_l22Linear] at hF
  refine sq ?_
  refine reg ?_
  refine pRun_ok (tb := tab) (n := 28) tabOk 1 _ _ hf rfl rfl fun a hf => ?_
  refine wl_end ?_
  refine then_n ?_
  refine sq ?_
  refine sq ?_
  obtain ⟨c, hGc, hF⟩ := bind_some hF
  refine mid (fun a w => Fr a 28 [(0, (.int .i64 level)), (12, (.bool c))] ∧ Mem ⟨w0, []⟩ S [] [] [] [] w) ?_ ?_
  · refine reg ?_
    refine pRun_ok (tb := tab) (n := 28) tabOk 1 _ _ hf rfl rfl fun a hf => ?_
    obtain ⟨y, hy, hGc⟩ := bind_some hGc
    refine wl0 rfl (op_call hf TF.cl97 rfl (by decide) (spec_l1In_ok (S := fun _ => True) mk_int mk_int mk_int hy) fun v w a hp hf => ?_)
    obtain ⟨hb, hp⟩ := hp
    obtain rfl := VR_bool hp
    have H := H.keep hb
    refine pRun_ok (tb := tab) (n := 28) tabOk 2 _ _ hf rfl rfl fun a hf => ?_
    refine (Bool.eq_false_or_eq_true (!y)).elim (fun hc => ?_) (fun hc => ?_)
    · rw [if_pos hc] at hGc
      have hf := hf.lit 8 rfl hc
      refine pRun_ok (tb := tab) (n := 28) tabOk 4 _ _ hf rfl rfl fun a hf => ?_
      obtain rfl := Option.some.inj hGc
      have hf := hf.prune [0, 12] rfl
      have H := H.let [] [] [] []
      exact wl_end ⟨hf, H⟩
    · rw [if_neg (nt hc)] at hGc
      have hf := hf.lit 8 rfl hc
      refine pRun_ok (tb := tab) (n := 28) tabOk 1 _ _ hf rfl rfl fun a hf => ?_
      obtain ⟨q, hq, hGc⟩ := bind_some hGc
      refine wlg hf rfl rfl rfl (op_q hf (rq_rem hf rfl rfl hq) rfl (by decide) fun a hf => ?_)
      refine pRun_ok (tb := tab) (n := 28) tabOk 2 _ _ hf rfl rfl fun a hf => ?_
      obtain rfl := Option.some.inj hGc
      have hf := hf.prune [0, 12] rfl
      have H := H.let [] [] [] []
      exact wl_end ⟨hf, H⟩
  rintro a w ⟨hf, H⟩
  refine then_n ?_
  refine (Bool.eq_false_or_eq_true (c)).elim (fun hc2 => ?_) (fun hc2 => ?_)
  · rw [if_pos hc2] at hF
    refine cd_t hf rfl hc2 ?_
    refine sq ?_
    refine reg ?_
    refine pRun_ok (tb := tab) (n := 28) tabOk 1 _ _ hf rfl rfl fun a hf => ?_
    refine wl_end ?_
    refine then_n ?_
    refine wp_ret (then_r (?_))
    obtain rfl := Option.some.inj hF
    refine ret_1 (fn := Try.f103) (r := .tmp 2) hf rfl (rv_tmp hf rfl) ?_
    exact ⟨_, rfl, H.bel, mk_int⟩
  · rw [if_neg (nt hc2)] at hF
    refine cd_f hf rfl hc2 ?_
    refine wp_skip ?_
    refine then_n ?_
    refine sq ?_
    refine reg ?_
    obtain ⟨y2, hy2, hF⟩ := bind_some hF
    refine wl0 rfl (op_call hf TF.cl152 rfl (by decide) (spec_l22Table_ok (S := fun _ => True) hy2) fun v2 w a hp2 hf => ?_)
    obtain ⟨hb2, F, hp3, hN⟩ := hp2
    obtain ⟨A, c2, rfl, hl⟩ := VO_list hp3
    have H := H.addOwn hb2 (X := [(⟨F, MP.own F [(.slice A y2.length c2)] (y2 : List Int)⟩ : DI)]) (by simpa using hN.1) (ps1 hl ps0) (by simpa using hN.2)
    have H := H.lend 0 rfl
    refine pRun_ok (tb := tab) (n := 28) tabOk 1 _ _ hf rfl rfl fun a hf => ?_
    obtain ⟨q2, hq2, hF⟩ := bind_some hF
    refine wl0 rfl (op_q hf (rq_quo hf rfl rfl hq2) rfl (by decide) fun a hf => ?_)
    obtain ⟨q3, hq3, hF⟩ := bind_some hF
    refine wl0 rfl (op_q hf (rq_rem hf rfl rfl hq3) rfl (by decide) fun a hf => ?_)
    obtain ⟨e, he, hF⟩ := bind_some hF
    refine wl0 rfl (op_iaddr hf H Try.underlying35 TF.sz3 0 rfl rfl rfl he (by decide) fun p o cs a hf hr H => ?_)
    obtain rfl := hr
    refine wl0 rfl (op_q hf (rq_loadI hf H TF.ls3 0 0 rfl rfl rfl) rfl (by decide) fun a hf => ?_)
    refine pRun_ok (tb := tab) (n := 28) tabOk 1 _ _ hf rfl rfl fun a hf => ?_
    refine wl_end ?_
    refine then_n ?_
    refine sq ?_
    refine sq ?_
    refine reg ?_
    refine pRun_ok (tb := tab) (n := 28) tabOk 1 _ _ hf rfl rfl fun a hf => ?_
    obtain ⟨q4, hq4, hF⟩ := bind_some hF
    refine wl0 rfl (op_q hf (rq_quo hf rfl rfl hq4) rfl (by decide) fun a hf => ?_)
    refine pRun_ok (tb := tab) (n := 28) tabOk 1 _ _ hf rfl rfl fun a hf => ?_
    refine wl_end ?_
    refine then_n ?_
    obtain ⟨out2, hB1, hF⟩ := bind_some hF
    have hf := hf.prune [3, 4] rfl
    have H := H.let [] [] [false] []
    have hI : (fun (s : Int × Int) (a : Act) (w : World) => match s with | (out', k') => Fr a 28 [(3, (.int .i64 out')), (4, (.int .i64 k'))] ∧ Mem ⟨w0, []⟩ S [] [] [] [] w) (e, q4) a w := ⟨hf, H⟩
    refine mid (fun a w => ∃ s : Int × Int, out2 = s ∧ (fun (s : Int × Int) (a : Act) (w : World) => match s with | (out', k') => Fr a 28 [(3, (.int .i64 out')), (4, (.int .i64 k'))] ∧ Mem ⟨w0, []⟩ S [] [] [] [] w) s a w) ?_ ?_
    · refine wp_block ?_
      refine loop_rule (fun k (s : Int × Int) => spec_l22Linear_L1 fu k s.1 s.2 = some out2) (fun (s : Int × Int) (a : Act) (w : World) => match s with | (out', k') => Fr a 28 [(3, (.int .i64 out')), (4, (.int .i64 k'))] ∧ Mem ⟨w0, []⟩ S [] [] [] [] w) (fun s h => by cases h) ?_ fu (e, q4) a w hB1 hI
      rintro fk ⟨out', k'⟩ a w hR1 hI
      replace hR1 : spec_l22Linear_L1 fu (fk + 1) out' k' = some out2 := hR1
      rw [spec_l22Linear_L1] at hR1
      obtain ⟨hf, H⟩ := hI
      refine sq ?_
      refine sq ?_
      refine reg ?_
      refine pRun_ok (tb := tab) (n := 28) tabOk 2 _ _ hf rfl rfl fun a hf => ?_
      refine wl_end ?_
      refine then_n ?_
      refine (Bool.eq_false_or_eq_true (decide (k' > 0))).elim (fun hc3 => ?_) (fun hc3 => ?_)
      · rw [if_pos hc3] at hR1
        refine cd_t hf rfl hc3 ?_
        refine wp_skip ?_
        refine then_n ?_
        refine sq ?_
        refine wp_block ?_
        refine reg ?_
        refine pRun_ok (tb := tab) (n := 28) tabOk 3 _ _ hf rfl rfl fun a hf => ?_
        refine wl_end ?_
        refine blk_n ?_
        refine then_n ?_
        refine reg ?_
        refine pRun_ok (tb := tab) (n := 28) tabOk 3 _ _ hf rfl rfl fun a hf => ?_
        refine wl_end ?_
        have hf := hf.prune [3, 4] rfl
        have H := H.let [] [] [] []
        exact then_n ⟨(w64 (out' * 10), w64 (k' - 1)), hR1, hf, H⟩
      · rw [if_neg (nt hc3)] at hR1
        refine cd_f hf rfl hc3 ?_
        refine wp_exit (then_x (then_x (blk_e (?_))))
        have hf := hf.prune [3, 4] rfl
        have H := H.let [] [] [] []
        exact ⟨(out', k'), (Option.some.inj hR1).symm, hf, H⟩
    rintro a w ⟨⟨out3, k2⟩, rfl, hf, H⟩
    dsimp only at hF
    refine then_n ?_
    refine sq ?_
    refine reg ?_
    refine pRun_ok (tb := tab) (n := 28) tabOk 2 _ _ hf rfl rfl fun a hf => ?_
    refine wl_end ?_
    refine then_n ?_
    refine wp_ret (?_)
    obtain rfl := Option.some.inj hF
    refine ret_1 (fn := Try.f103) (r := .tmp 2) hf rfl (rv_tmp hf rfl) ?_
    exact ⟨_, rfl, H.bel, mk_int⟩

/- loop.example/g00897/spec.LinearValue -/
set_option maxHeartbeats 1000000 in
theorem spec_LinearValue_ok {fu : Nat} {w0 : World} {S : Nat → Prop} {v0_ : Value} {level : Int} {r : Int × Bool} (h0 : VR w0 S v0_ level) (hF : spec_LinearValue fu level = some r) :
    Calls Try.prog 29 [v0_].toArray w0 fun e w' => ∃ v, e = .returned v ∧ (Below w0.heap.size w0 w' ∧ ∃ u0 u1, v = .tuple #[u0, u1] ∧ VR w' (St ⟨w0, []⟩ S [] [] [] true) u0 r.1 ∧ VR w' (St ⟨w0, []⟩ S [] [] [] true) u1 r.2) := by
  obtain rfl := VR_int h0
  have H := Mem.start ⟨w0, []⟩ S
  refine enter Try.func29 rfl rfl (nle rfl) rfl fun a hf => ?_
  rw [spec_LinearValue] at hF
  refine sq ?_
  refine reg ?_
  refine pRun_ok (tb := tab) (n := 10) tabOk 2 _ _ hf rfl rfl fun a hf => ?_
  refine wl_end ?_
  refine then_n ?_
  refine sq ?_
  refine reg ?_
  refine pRun_ok (tb := tab) (n := 10) tabOk 1 _ _ hf rfl rfl fun a hf => ?_
  obtain ⟨y, hy, hF⟩ := bind_some hF
  refine wl0 rfl (op_call hf TF.cl103 rfl (by decide) (spec_l22Linear_ok (S := fun _ => True) mk_int hy) fun v w a hp hf => ?_)
  obtain ⟨hb, hp⟩ := hp
  obtain rfl := VR_int hp
  have H := H.keep hb
  refine pRun_ok (tb := tab) (n := 10) tabOk 1 _ _ hf rfl rfl fun a hf => ?_
  refine wl_end ?_
  refine then_n ?_
  refine sq ?_
  refine reg ?_
  refine pRun_ok (tb := tab) (n := 10) tabOk 5 _ _ hf rfl rfl fun a hf => ?_
  refine wl_end ?_
  refine then_n ?_
  refine wp_ret (?_)
  obtain rfl := Option.some.inj hF
  refine ret_2 (fn := Try.f29) (r := .tmp 2) (s := .tmp 3) hf rfl (rv_tmp hf rfl) (rv_tmp hf rfl) ?_
  exact ⟨_, rfl, H.bel, _, _, rfl, mk_int, mk_bool⟩

/- loop.example/g00897/impl.LevelOf -/
set_option maxHeartbeats 1000000 in
theorem impl_LevelOf_ok {fu : Nat} {w0 : World} {S : Nat → Prop} {v0_ : Value} {value : Int} {r : Int × Bool} (h0 : VR w0 S v0_ value) (hF : impl_LevelOf fu value = some r) :
    Calls Try.prog 34 [v0_].toArray w0 fun e w' => ∃ v, e = .returned v ∧ (Below w0.heap.size w0 w' ∧ ∃ u0 u1, v = .tuple #[u0, u1] ∧ VR w' (St ⟨w0, []⟩ S [] [] [] true) u0 r.1 ∧ VR w' (St ⟨w0, []⟩ S [] [] [] true) u1 r.2) := by
  obtain rfl := VR_int h0
  have H := Mem.start ⟨w0, []⟩ S
  refine enter Try.func34 rfl rfl (nle rfl) rfl fun a hf => ?_
  rw [impl_LevelOf] at hF
  refine sq ?_
  refine reg ?_
  refine pRun_ok (tb := tab) (n := 21) tabOk 2 _ _ hf rfl rfl fun a hf => ?_
  refine wl_end ?_
  refine then_n ?_
  refine sq ?_
  refine sq ?_
  refine reg ?_
  refine pRun_ok (tb := tab) (n := 21) tabOk 1 _ _ hf rfl rfl fun a hf => ?_
  obtain ⟨y, hy, hF⟩ := bind_some hF
  refine wl0 rfl (op_call hf TF.cl98 rfl (by decide) (impl_within_ok (S := fun _ => True) mk_int mk_int mk_int hy) fun v w a hp hf => ?_)
  obtain ⟨hb, hp⟩ := hp
  obtain rfl := VR_bool hp
  have H := H.keep hb
  refine pRun_ok (tb := tab) (n := 21) tabOk 1 _ _ hf rfl rfl fun a hf => ?_
  refine wl_end ?_
  refine then_n ?_
  refine (Bool.eq_false_or_eq_true (!y)).elim (fun hc => ?_) (fun hc => ?_)
  · rw [if_pos hc] at hF
    refine cd_t hf rfl hc ?_
    refine sq ?_
    refine reg ?_
    refine pRun_ok (tb := tab) (n := 21) tabOk 2 _ _ hf rfl rfl fun a hf => ?_
    refine wl_end ?_
    refine then_n ?_
    refine wp_ret (then_r (?_))
    obtain rfl := Option.some.inj hF
    refine ret_2 (fn := Try.f34) (r := .tmp 2) (s := .tmp 3) hf rfl (rv_tmp hf rfl) (rv_tmp hf rfl) ?_
    exact ⟨_, rfl, H.bel, _, _, rfl, mk_int, mk_bool⟩
  · rw [if_neg (nt hc)] at hF
    refine cd_f hf rfl hc ?_
    refine wp_skip ?_
    refine then_n ?_
    refine sq ?_
    refine reg ?_
    refine pRun_ok (tb := tab) (n := 21) tabOk 1 _ _ hf rfl rfl fun a hf => ?_
    refine wl_end ?_
    refine then_n ?_
    refine sq ?_
    obtain ⟨out', hB1, hF⟩ := bind_some hF
    have hf := hf.prune [0, 4] rfl
    have H := H.let [] [] [] []
    have hI : (fun (s : Int) (a : Act) (w : World) => match s with | level => Fr a 21 [(0, (.int .i64 value)), (4, (.int .i64 level))] ∧ Mem ⟨w0, []⟩ S [] [] [] [] w) 0 a w := ⟨hf, H⟩
    refine mid (fun a w => ∃ s : Int, out' = s ∧ (fun (s : Int) (a : Act) (w : World) => match s with | level => Fr a 21 [(0, (.int .i64 value)), (4, (.int .i64 level))] ∧ Mem ⟨w0, []⟩ S [] [] [] [] w) s a w) ?_ ?_
    · refine wp_block ?_
      refine loop_rule (fun k (s : Int) => impl_LevelOf_L1 fu value k s = some out') (fun (s : Int) (a : Act) (w : World) => match s with | level => Fr a 21 [(0, (.int .i64 value)), (4, (.int .i64 level))] ∧ Mem ⟨w0, []⟩ S [] [] [] [] w) (fun s h => by cases h) ?_ fu 0 a w hB1 hI
      rintro fk level a w hR1 hI
      replace hR1 : impl_LevelOf_L1 fu value (fk + 1) level = some out' := hR1
      rw [impl_LevelOf_L1] at hR1
      obtain ⟨hf, H⟩ := hI
      refine sq ?_
      refine sq ?_
      obtain ⟨c, hGc, hR1⟩ := bind_some hR1
      refine mid (fun a w => Fr a 21 [(0, (.int .i64 value)), (4, (.int .i64 level)), (17, (.bool c))] ∧ Mem ⟨w0, []⟩ S [] [] [] [] w) ?_ ?_
      · refine reg ?_
        refine pRun_ok (tb := tab) (n := 21) tabOk 2 _ _ hf rfl rfl fun a hf => ?_
        obtain ⟨y2, hy2, hGc⟩ := bind_some hGc
        refine wl0 rfl (op_call hf TF.cl104 rfl (by decide) (impl_hasLinear_ok (S := fun _ => True) mk_int hy2) fun v2 w a hp2 hf => ?_)
        obtain ⟨hb2, hp2⟩ := hp2
        obtain rfl := VR_bool hp2
        have H := H.keep hb2
        refine pRun_ok (tb := tab) (n := 21) tabOk 1 _ _ hf rfl rfl fun a hf => ?_
        refine (Bool.eq_false_or_eq_true (y2)).elim (fun hc2 => ?_) (fun hc2 => ?_)
        · rw [if_pos hc2] at hGc
          have hf := hf.lit 11 rfl hc2
          refine pRun_ok (tb := tab) (n := 21) tabOk 2 _ _ hf rfl rfl fun a hf => ?_
          obtain ⟨y3, hy3, hGc⟩ := bind_some hGc
          refine wlg hf rfl rfl rfl (op_call hf TF.cl105 rfl (by decide) (impl_linear_ok (S := fun _ => True) mk_int hy3) fun v3 w a hp3 hf => ?_)
          obtain ⟨hb3, hp3⟩ := hp3
          obtain rfl := VR_int hp3
          have H := H.keep hb3
          refine pRun_ok (tb := tab) (n := 21) tabOk 3 _ _ hf rfl rfl fun a hf => ?_
          obtain rfl := Option.some.inj hGc
          have hf := hf.prune [0, 4, 17] rfl
          have H := H.let [] [] [] []
          exact wl_end ⟨hf, H⟩
        · rw [if_neg (nt hc2)] at hGc
          have hf := hf.lit 11 rfl hc2
          refine pRun_ok (tb := tab) (n := 21) tabOk 6 _ _ hf rfl rfl fun a hf => ?_
          obtain rfl := Option.some.inj hGc
          have hf := hf.prune [0, 4, 17] rfl
          have H := H.let [] [] [] []
          exact wl_end ⟨hf, H⟩
      rintro a w ⟨hf, H⟩
      refine then_n ?_
      refine (Bool.eq_false_or_eq_true (c)).elim (fun hc3 => ?_) (fun hc3 => ?_)
      · rw [if_pos hc3] at hR1
        refine cd_t hf rfl hc3 ?_
        refine wp_skip ?_
        refine then_n ?_
        refine wp_block ?_
        refine reg ?_
        refine pRun_ok (tb := tab) (n := 21) tabOk 3 _ _ hf rfl rfl fun a hf => ?_
        refine wl_end ?_
        refine blk_n ?_
        have hf := hf.prune [0, 4] rfl
        have H := H.let [] [] [] []
        exact then_n ⟨w64 (level + 100), hR1, hf, H⟩
      · rw [if_neg (nt hc3)] at hR1
        refine cd_f hf rfl hc3 ?_
        refine wp_exit (then_x (then_x (blk_e (?_))))
        have hf := hf.prune [0, 4] rfl
        have H := H.let [] [] [] []
        exact ⟨level, (Option.some.inj hR1).symm, hf, H⟩
    rintro a w ⟨level2, rfl, hf, H⟩
    refine then_n ?_
    refine sq ?_
    refine reg ?_
    refine pRun_ok (tb := tab) (n := 21) tabOk 3 _ _ hf rfl rfl fun a hf => ?_
    refine wl_end ?_
    refine then_n ?_
    refine wp_ret (?_)
    obtain rfl := Option.some.inj hF
    refine ret_2 (fn := Try.f34) (r := .tmp 2) (s := .tmp 3) hf rfl (rv_tmp hf rfl) (rv_tmp hf rfl) ?_
    exact ⟨_, rfl, H.bel, _, _, rfl, mk_int, mk_bool⟩

/- (*loop.example/g00897/spec.l1Cur).one -/
set_option maxHeartbeats 1000000 in
theorem spec_l1Cur_one_ok {fu : Nat} {w0 : World} {S : Nat → Prop} {b0 : Nat} {cs0 : List Value} {v1_ : Value} {c : L1CurP} {n' : Int} {r : Bool × L1CurP} (hp0 : w0.heap[b0]? = some (.cells cs0.toArray 138 (0, 0))) (hr0 : GoTy.rep w0 S cs0 c) (hS0 : ¬ S b0) (h1 : VR w0 S v1_ n') (hF : spec_l1Cur_one fu c n' = some r) :
    Calls Try.prog 160 [(.pointer (some ⟨b0, 0, none⟩)), v1_].toArray w0 fun e w' => ∃ v, e = .returned v ∧ (Chg w0 w' [b0] ∧ ∃ cs', w'.heap[b0]? = some (.cells cs'.toArray 138 (0, 0)) ∧ GoTy.rep w' (St ⟨w0, [b0]⟩ S [⟨b0, 138, cs'⟩] [] [] false) cs' r.2 ∧ VR w' (St ⟨w0, [b0]⟩ S [⟨b0, 138, cs'⟩] [] [] true) v r.1) := by
  obtain ⟨A, c2, rfl, hl⟩ := L1CurP_cells hr0
  obtain rfl := VR_int h1
  have H := Mem.startB S hp0
  have H := H.argB (by simpa using hS0) (p := MP.val [(.slice A c.code.length c2)] c.code) hl
  refine enter Try.func160 rfl rfl (nle rfl) rfl fun a hf => ?_
  rw [spec_l1Cur_one] at hF
  refine sq ?_
  refine reg ?_
  refine pRun_ok (tb := tab) (n := 9) tabOk 1 _ _ hf rfl rfl fun a hf => ?_
  refine wl_end ?_
  refine then_n ?_
  refine sq ?_
  refine reg ?_
  refine pRun_ok (tb := tab) (n := 9) tabOk 2 _ _ hf rfl rfl fun a hf => ?_
  obtain ⟨y, hy, hF⟩ := bind_some hF
  refine wl0 rfl (op_call hf TF.cl134 rfl (by decide) (spec_l1Cur_pick_ok (S := St ⟨w0, [b0]⟩ S [⟨b0, 138, [(.slice A c.code.length c2), (.int .i64 c.at_), (.int .u64 c.seed.n)]⟩] [] [] false) (H.boxAt 0 rfl) (L1CurP_mk (x := c) (H.get 0 rfl)) (H.notSt 0 rfl _) mk_int hy) fun v w a hp hf => ?_)
  obtain ⟨hch, cs, hbx, hr, hs⟩ := hp
  replace hr := GoTy.mono hr (H.movesB 0 rfl false)
  obtain rfl := VR_int hs
  obtain ⟨A2, c3, rfl, hl2⟩ := L1CurP_cells hr
  have H := H.wroteBox 0 rfl hch hbx
  have H := H.push (false, MP.val [(.slice A2 y.2.code.length c3)] y.2.code) hl2
  refine pRun_ok (tb := tab) (n := 9) tabOk 2 _ _ hf rfl rfl fun a hf => ?_
  refine wl_end ?_
  refine then_n ?_
  refine wp_ret (?_)
  obtain rfl := Option.some.inj hF
  refine ret_1 (fn := Try.f160) (r := .tmp 4) hf rfl (rv_tmp hf rfl) ?_
  exact ⟨_, rfl, H.chg, _, H.boxAt 0 rfl, (L1CurP_mk (x := y.2) (rep_endB (M := _) (i := 0) rfl (α := List By) (H.get 0 rfl))), mk_bool⟩

/- (*loop.example/g00897/spec.l1Cur).amplifier -/
set_option maxHeartbeats 1000000 in
theorem spec_l1Cur_amplifier_ok {fu : Nat} {w0 : World} {S : Nat → Prop} {b0 : Nat} {cs0 : List Value} {c : L1CurP} {r : Amplifier × L1CurP} (hp0 : w0.heap[b0]? = some (.cells cs0.toArray 138 (0, 0))) (hr0 : GoTy.rep w0 S cs0 c) (hS0 : ¬ S b0) (hF : spec_l1Cur_amplifier fu c = some r) :
    Calls Try.prog 150 [(.pointer (some ⟨b0, 0, none⟩))].toArray w0 fun e w' => ∃ v, e = .returned v ∧ (Chg w0 w' [b0] ∧ ∃ cs', w'.heap[b0]? = some (.cells cs'.toArray 138 (0, 0)) ∧ GoTy.rep w' (St ⟨w0, [b0]⟩ S [⟨b0, 138, cs'⟩] [] [] false) cs' r.2 ∧ VR w' (St ⟨w0, [b0]⟩ S [⟨b0, 138, cs'⟩] [] [] true) v r.1) := by
  obtain ⟨A, c2, rfl, hl⟩ := L1CurP_cells hr0
  have H := Mem.startB S hp0
  have H := H.argB (by simpa using hS0) (p := MP.val [(.slice A c.code.length c2)] c.code) hl
  refine enter Try.func150 rfl rfl (nle rfl) rfl fun a hf => ?_
  rw [spec_l1Cur_amplifier] at hF
  refine sq ?_
  refine reg ?_
  refine wl0 rfl (op_alloc hf H TF.zv88 rfl (by decide) fun b' a w hf H => ?_)
  refine wl_end ?_
  refine then_n ?_
  refine sq ?_
  refine reg ?_
  refine pRun_ok (tb := tab) (n := 35) tabOk 1 _ _ hf rfl rfl fun a hf => ?_
  refine wl0 rfl (op_bslice hf H (.sh true) rfl 3 ([0, 20, 100, 200, 1000, 3000] : List Int) [(.int .i64 0), (.int .i64 20), (.int .i64 100), (.int .i64 200), (.int .i64 1000), (.int .i64 3000)] rfl (fun w => by kernel_rfl) rfl (by decide) rfl trivial (elI [0, 20, 100, 200, 1000, 3000]) (by decide) fun A2 a w hf H => ?_)
  have H := H.freeze 0 rfl
  obtain ⟨y, hy, hF⟩ := bind_some hF
  refine wl0 rfl (op_call hf TF.cl133 rfl (by decide) (spec_l1Cur_among_ok (S := St ⟨w0, [b0]⟩ S [⟨b', 88, [(.int .i64 0), (.int .i64 0), (.int .i64 0), (.int .i64 0)]⟩, ⟨b0, 138, [(.slice A c.code.length c2), (.int .i64 c.at_), (.int .u64 c.seed.n)]⟩] [] [] false) (H.boxAt 1 rfl) (L1CurP_mk (x := c) (H.get 1 rfl)) (H.notSt 1 rfl _) (mk_list (rep_weak (α := List Int) (H.get 0 rfl))) hy) fun v w a hp hf => ?_)
  obtain ⟨hch, cs, hbx, hr, hs⟩ := hp
  replace hr := GoTy.mono hr (H.movesB 1 rfl false)
  obtain rfl := VR_int hs
  obtain ⟨A3, c3, rfl, hl2⟩ := L1CurP_cells hr
  have H := H.wroteBox 1 rfl hch hbx
  have H := H.push (false, MP.val [(.slice A3 y.2.code.length c3)] y.2.code) hl2
  refine pRun_ok (tb := tab) (n := 35) tabOk 1 _ _ hf rfl rfl fun a hf => ?_
  refine wl0 rfl (op_bslice hf H (.sh true) rfl 3 ([0, 50, 300, 2000, (-100)] : List Int) [(.int .i64 0), (.int .i64 50), (.int .i64 300), (.int .i64 2000), (.int .i64 (-100))] rfl (fun w => by kernel_rfl) rfl (by decide) rfl trivial (elI [0, 50, 300, 2000, (-100)]) (by decide) fun A4 a w hf H => ?_)
  have H := H.freeze 0 rfl
  obtain ⟨y2, hy2, hF⟩ := bind_some hF
  refine wl0 rfl (op_call hf TF.cl133 rfl (by decide) (spec_l1Cur_among_ok (S := St ⟨w0, [b0]⟩ S [⟨b', 88, [(.int .i64 0), (.int .i64 0), (.int .i64 0), (.int .i64 0)]⟩, ⟨b0, 138, [(.slice A3 y.2.code.length c3), (.int .i64 y.2.at_), (.int .u64 y.2.seed.n)]⟩] [] [] false) (H.boxAt 1 rfl) (L1CurP_mk (x := y.2) (H.get 1 rfl)) (H.notSt 1 rfl _) (mk_list (rep_weak (α := List Int) (H.get 0 rfl))) hy2) fun v2 w a hp2 hf => ?_)
  obtain ⟨hch2, cs2, hbx2, hr2, hs2⟩ := hp2
  replace hr2 := GoTy.mono hr2 (H.movesB 1 rfl false)
  obtain rfl := VR_int hs2
  obtain ⟨A5, c4, rfl, hl3⟩ := L1CurP_cells hr2
  have H := H.wroteBox 1 rfl hch2 hbx2
  have H := H.push (false, MP.val [(.slice A5 y2.2.code.length c4)] y2.2.code) hl3
  refine pRun_ok (tb := tab) (n := 35) tabOk 1 _ _ hf rfl rfl fun a hf => ?_
  refine wl0 rfl (op_bslice hf H (.sh true) rfl 3 ([0, 100, 500, 1000, 1000, 1300, 9900] : List Int) [(.int .i64 0), (.int .i64 100), (.int .i64 500), (.int .i64 1000), (.int .i64 1000), (.int .i64 1300), (.int .i64 9900)] rfl (fun w => by kernel_rfl) rfl (by decide) rfl trivial (elI [0, 100, 500, 1000, 1000, 1300, 9900]) (by decide) fun A6 a w hf H => ?_)
  have H := H.freeze 0 rfl
  obtain ⟨y3, hy3, hF⟩ := bind_some hF
  refine wl0 rfl (op_call hf TF.cl133 rfl (by decide) (spec_l1Cur_among_ok (S := St ⟨w0, [b0]⟩ S [⟨b', 88, [(.int .i64 0), (.int .i64 0), (.int .i64 0), (.int .i64 0)]⟩, ⟨b0, 138, [(.slice A5 y2.2.code.length c4), (.int .i64 y2.2.at_), (.int .u64 y2.2.seed.n)]⟩] [] [] false) (H.boxAt 1 rfl) (L1CurP_mk (x := y2.2) (H.get 1 rfl)) (H.notSt 1 rfl _) (mk_list (rep_weak (α := List Int) (H.get 0 rfl))) hy3) fun v3 w a hp3 hf => ?_)
  obtain ⟨hch3, cs3, hbx3, hr3, hs3⟩ := hp3
  replace hr3 := GoTy.mono hr3 (H.movesB 1 rfl false)
  obtain rfl := VR_int hs3
  obtain ⟨A7, c5, rfl, hl4⟩ := L1CurP_cells hr3
  have H := H.wroteBox 1 rfl hch3 hbx3
  have H := H.push (false, MP.val [(.slice A7 y3.2.code.length c5)] y3.2.code) hl4
  refine wl0 rfl (op_q hf (rq_build hf (cs := [(.int .i64 0), (.int .i64 y.1), (.int .i64 y2.1), (.int .i64 y3.1)]) rfl (fun w => by kernel_rfl)) rfl (by decide) fun a hf => ?_)
  refine wl0 rfl (op_alloc hf H TF.zv88 rfl (by decide) fun b2 a w hf H => ?_)
  refine wl0 rfl (op_storeB hf H 0 TF.sz88 rfl rfl rfl rfl rfl rfl (nle rfl) fun w H => ?_)
  refine wl_end ?_
  refine then_n ?_
  refine sq ?_
  refine sq ?_
  refine reg ?_
  refine pRun_ok (tb := tab) (n := 35) tabOk 1 _ _ hf rfl rfl fun a hf => ?_
  obtain ⟨y4, hy4, hF⟩ := bind_some hF
  refine wl0 rfl (op_call hf TF.cl134 rfl (by decide) (spec_l1Cur_pick_ok (S := St ⟨w0, [b0]⟩ S [⟨b2, 88, [(.int .i64 0), (.int .i64 y.1), (.int .i64 y2.1), (.int .i64 y3.1)]⟩, ⟨b', 88, [(.int .i64 0), (.int .i64 0), (.int .i64 0), (.int .i64 0)]⟩, ⟨b0, 138, [(.slice A7 y3.2.code.length c5), (.int .i64 y3.2.at_), (.int .u64 y3.2.seed.n)]⟩] [] [] false) (H.boxAt 2 rfl) (L1CurP_mk (x := y3.2) (H.get 0 rfl)) (H.notSt 2 rfl _) mk_int hy4) fun v4 w a hp4 hf => ?_)
  obtain ⟨hch4, cs4, hbx4, hr4, hs4⟩ := hp4
  replace hr4 := GoTy.mono hr4 (H.movesB 2 rfl false)
  obtain rfl := VR_int hs4
  obtain ⟨A8, c6, rfl, hl5⟩ := L1CurP_cells hr4
  have H := H.wroteBox 2 rfl hch4 hbx4
  have H := H.push (false, MP.val [(.slice A8 y4.2.code.length c6)] y4.2.code) hl5
  refine wl_end ?_
  refine then_n ?_
  refine wp_block ?_
  refine sq ?_
  refine reg ?_
  refine pRun_ok (tb := tab) (n := 35) tabOk 2 _ _ hf rfl rfl fun a hf => ?_
  refine wl_end ?_
  refine then_n ?_
  refine (Bool.eq_false_or_eq_true (y4.1 == 0)).elim (fun hc => ?_) (fun hc => ?_)
  · rw [if_pos hc] at hF
    refine cd_t hf rfl hc ?_
    refine reg ?_
    refine pRun_ok (tb := tab) (n := 35) tabOk 1 _ _ hf rfl rfl fun a hf => ?_
    refine wl0 rfl (op_bslice hf H (.sh true) rfl 3 ([(-1), 10001] : List Int) [(.int .i64 (-1)), (.int .i64 10001)] rfl (fun w => by kernel_rfl) rfl (by decide) rfl trivial (elI [(-1), 10001]) (by decide) fun A9 a w hf H => ?_)
    have H := H.freeze 0 rfl
    obtain ⟨y5, hy5, hF⟩ := bind_some hF
    refine wl0 rfl (op_call hf TF.cl133 rfl (by decide) (spec_l1Cur_among_ok (S := St ⟨w0, [b0]⟩ S [⟨b2, 88, [(.int .i64 0), (.int .i64 y.1), (.int .i64 y2.1), (.int .i64 y3.1)]⟩, ⟨b', 88, [(.int .i64 0), (.int .i64 0), (.int .i64 0), (.int .i64 0)]⟩, ⟨b0, 138, [(.slice A8 y4.2.code.length c6), (.int .i64 y4.2.at_), (.int .u64 y4.2.seed.n)]⟩] [] [] false) (H.boxAt 2 rfl) (L1CurP_mk (x := y4.2) (H.get 1 rfl)) (H.notSt 2 rfl _) (mk_list (rep_weak (α := List Int) (H.get 0 rfl))) hy5) fun v5 w a hp5 hf => ?_)
    obtain ⟨hch5, cs5, hbx5, hr5, hs5⟩ := hp5
    replace hr5 := GoTy.mono hr5 (H.movesB 2 rfl false)
    obtain rfl := VR_int hs5
    obtain ⟨A10, c7, rfl, hl6⟩ := L1CurP_cells hr5
    have H := H.wroteBox 2 rfl hch5 hbx5
    have H := H.push (false, MP.val [(.slice A10 y5.2.code.length c7)] y5.2.code) hl6
    refine pRun_ok (tb := tab) (n := 35) tabOk 1 _ _ hf rfl rfl fun a hf => ?_
    refine wl0 rfl (op_storeB hf H 0 TF.sz3 rfl rfl rfl rfl rfl rfl (nle rfl) fun w H => ?_)
    have hf := hf.prune [2, 3] rfl
    refine wl_end ?_
    refine blk_n ?_
    refine then_n ?_
    refine sq ?_
    refine reg ?_
    refine wl0 rfl (op_q hf (rq_loadBN hf H TF.la88 0 rfl rfl rfl rfl) rfl (by decide) fun a hf => ?_)
    refine wl0 rfl (op_storeB hf H 1 TF.sz88 rfl rfl rfl rfl rfl rfl (nle rfl) fun w H => ?_)
    refine wl_end ?_
    refine then_n ?_
    refine wp_ret (?_)
    obtain rfl := Option.some.inj hF
    refine ret_1 (fn := Try.f150) (r := .cell 2 88) hf rfl (rv_cellN hf H 1 TF.la88 rfl rfl rfl) ?_
    exact ⟨_, rfl, H.chg, _, H.boxAt 2 rfl, (L1CurP_mk (x := y5.2) (rep_endB (M := _) (i := 2) rfl (α := List By) (H.get 0 rfl))), Amplifier_mkv⟩
  · rw [if_neg (nt hc)] at hF
    refine cd_f hf rfl hc ?_
    refine sq ?_
    refine reg ?_
    refine pRun_ok (tb := tab) (n := 35) tabOk 2 _ _ hf rfl rfl fun a hf => ?_
    have hf := hf.prune [0, 2, 3, 15, 22] rfl
    refine wl_end ?_
    refine then_n ?_
    refine (Bool.eq_false_or_eq_true (y4.1 == 1)).elim (fun hc2 => ?_) (fun hc2 => ?_)
    · rw [if_pos hc2] at hF
      refine cd_t hf rfl hc2 ?_
      refine reg ?_
      refine pRun_ok (tb := tab) (n := 35) tabOk 1 _ _ hf rfl rfl fun a hf => ?_
      refine wl0 rfl (op_bslice hf H (.sh true) rfl 3 ([(-10001), 10001] : List Int) [(.int .i64 (-10001)), (.int .i64 10001)] rfl (fun w => by kernel_rfl) rfl (by decide) rfl trivial (elI [(-10001), 10001]) (by decide) fun A11 a w hf H => ?_)
      have H := H.freeze 0 rfl
      obtain ⟨y6, hy6, hF⟩ := bind_some hF
      refine wl0 rfl (op_call hf TF.cl133 rfl (by decide) (spec_l1Cur_among_ok (S := St ⟨w0, [b0]⟩ S [⟨b2, 88, [(.int .i64 0), (.int .i64 y.1), (.int .i64 y2.1), (.int .i64 y3.1)]⟩, ⟨b', 88, [(.int .i64 0), (.int .i64 0), (.int .i64 0), (.int .i64 0)]⟩, ⟨b0, 138, [(.slice A8 y4.2.code.length c6), (.int .i64 y4.2.at_), (.int .u64 y4.2.seed.n)]⟩] [] [] false) (H.boxAt 2 rfl) (L1CurP_mk (x := y4.2) (H.get 1 rfl)) (H.notSt 2 rfl _) (mk_list (rep_weak (α := List Int) (H.get 0 rfl))) hy6) fun v6 w a hp6 hf => ?_)
      obtain ⟨hch6, cs6, hbx6, hr6, hs6⟩ := hp6
      replace hr6 := GoTy.mono hr6 (H.movesB 2 rfl false)
      obtain rfl := VR_int hs6
      obtain ⟨A12, c8, rfl, hl7⟩ := L1CurP_cells hr6
      have H := H.wroteBox 2 rfl hch6 hbx6
      have H := H.push (false, MP.val [(.slice A12 y6.2.code.length c8)] y6.2.code) hl7
      refine pRun_ok (tb := tab) (n := 35) tabOk 1 _ _ hf rfl rfl fun a hf => ?_
      refine wl0 rfl (op_storeB hf H 0 TF.sz3 rfl rfl rfl rfl rfl rfl (nle rfl) fun w H => ?_)
      refine wl_end ?_
      refine blk_n ?_
      refine then_n ?_
      refine sq ?_
      refine reg ?_
      refine wl0 rfl (op_q hf (rq_loadBN hf H TF.la88 0 rfl rfl rfl rfl) rfl (by decide) fun a hf => ?_)
      refine wl0 rfl (op_storeB hf H 1 TF.sz88 rfl rfl rfl rfl rfl rfl (nle rfl) fun w H => ?_)
      refine wl_end ?_
      refine then_n ?_
      refine wp_ret (?_)
      obtain rfl := Option.some.inj hF
      refine ret_1 (fn := Try.f150) (r := .cell 2 88) hf rfl (rv_cellN hf H 1 TF.la88 rfl rfl rfl) ?_
      exact ⟨_, rfl, H.chg, _, H.boxAt 2 rfl, (L1CurP_mk (x := y6.2) (rep_endB (M := _) (i := 2) rfl (α := List By) (H.get 0 rfl))), Amplifier_mkv⟩
    · rw [if_neg (nt hc2)] at hF
      refine cd_f hf rfl hc2 ?_
      refine sq ?_
      refine reg ?_
      refine pRun_ok (tb := tab) (n := 35) tabOk 2 _ _ hf rfl rfl fun a hf => ?_
      refine wl_end ?_
      refine then_n ?_
      refine (Bool.eq_false_or_eq_true (y4.1 == 2)).elim (fun hc3 => ?_) (fun hc3 => ?_)
      · rw [if_pos hc3] at hF
        refine cd_t hf rfl hc3 ?_
        refine reg ?_
        refine pRun_ok (tb := tab) (n := 35) tabOk 1 _ _ hf rfl rfl fun a hf => ?_
        refine wl0 rfl (op_bslice hf H (.sh true) rfl 3 ([(-100), 10000, 10001, 150] : List Int) [(.int .i64 (-100)), (.int .i64 10000), (.int .i64 10001), (.int .i64 150)] rfl (fun w => by kernel_rfl) rfl (by decide) rfl trivial (elI [(-100), 10000, 10001, 150]) (by decide) fun A13 a w hf H => ?_)
        have H := H.freeze 0 rfl
        obtain ⟨y7, hy7, hF⟩ := bind_some hF
        refine wl0 rfl (op_call hf TF.cl133 rfl (by decide) (spec_l1Cur_among_ok (S := St ⟨w0, [b0]⟩ S [⟨b2, 88, [(.int .i64 0), (.int .i64 y.1), (.int .i64 y2.1), (.int .i64 y3.1)]⟩, ⟨b', 88, [(.int .i64 0), (.int .i64 0), (.int .i64 0), (.int .i64 0)]⟩, ⟨b0, 138, [(.slice A8 y4.2.code.length c6), (.int .i64 y4.2.at_), (.int .u64 y4.2.seed.n)]⟩] [] [] false) (H.boxAt 2 rfl) (L1CurP_mk (x := y4.2) (H.get 1 rfl)) (H.notSt 2 rfl _) (mk_list (rep_weak (α := List Int) (H.get 0 rfl))) hy7) fun v7 w a hp7 hf => ?_)
        obtain ⟨hch7, cs7, hbx7, hr7, hs7⟩ := hp7
        replace hr7 := GoTy.mono hr7 (H.movesB 2 rfl false)
        obtain rfl := VR_int hs7
        obtain ⟨A14, c9, rfl, hl8⟩ := L1CurP_cells hr7
        have H := H.wroteBox 2 rfl hch7 hbx7
        have H := H.push (false, MP.val [(.slice A14 y7.2.code.length c9)] y7.2.code) hl8
        refine pRun_ok (tb := tab) (n := 35) tabOk 1 _ _ hf rfl rfl fun a hf => ?_
        refine wl0 rfl (op_storeB hf H 0 TF.sz3 rfl rfl rfl rfl rfl rfl (nle rfl) fun w H => ?_)
        refine wl_end ?_
        refine blk_n ?_
        refine then_n ?_
        refine sq ?_
        refine reg ?_
        refine wl0 rfl (op_q hf (rq_loadBN hf H TF.la88 0 rfl rfl rfl rfl) rfl (by decide) fun a hf => ?_)
        refine wl0 rfl (op_storeB hf H 1 TF.sz88 rfl rfl rfl rfl rfl rfl (nle rfl) fun w H => ?_)
        refine wl_end ?_
        refine then_n ?_
        refine wp_ret (?_)
        obtain rfl := Option.some.inj hF
        refine ret_1 (fn := Try.f150) (r := .cell 2 88) hf rfl (rv_cellN hf H 1 TF.la88 rfl rfl rfl) ?_
        exact ⟨_, rfl, H.chg, _, H.boxAt 2 rfl, (L1CurP_mk (x := y7.2) (rep_endB (M := _) (i := 2) rfl (α := List By) (H.get 0 rfl))), Amplifier_mkv⟩
      · rw [if_neg (nt hc3)] at hF
        refine cd_f hf rfl hc3 ?_
        refine wp_skip ?_
        refine blk_n ?_
        refine then_n ?_
        refine sq ?_
        refine reg ?_
        refine wl0 rfl (op_q hf (rq_loadBN hf H TF.la88 0 rfl rfl rfl rfl) rfl (by decide) fun a hf => ?_)
        refine wl0 rfl (op_storeB hf H 1 TF.sz88 rfl rfl rfl rfl rfl rfl (nle rfl) fun w H => ?_)
        refine wl_end ?_
        refine then_n ?_
        refine wp_ret (?_)
        obtain rfl := Option.some.inj hF
        refine ret_1 (fn := Try.f150) (r := .cell 2 88) hf rfl (rv_cellN hf H 1 TF.la88 rfl rfl rfl) ?_
        exact ⟨_, rfl, H.chg, _, H.boxAt 2 rfl, (L1CurP_mk (x := y4.2) (rep_endB (M := _) (i := 2) rfl (α := List By) (H.get 0 rfl))), Amplifier_mkv⟩

/- (*loop.example/g00897/spec.l1Cur).amplifiers -/
set_option maxHeartbeats 1000000 in
theorem spec_l1Cur_amplifiers_ok {fu : Nat} {w0 : World} {S : Nat → Prop} {b0 : Nat} {cs0 : List Value} {v1_ : Value} {c : L1CurP} {spans : Int} {r : List Amplifier × L1CurP} (hp0 : w0.heap[b0]? = some (.cells cs0.toArray 138 (0, 0))) (hr0 : GoTy.rep w0 S cs0 c) (hS0 : ¬ S b0) (h1 : VR w0 S v1_ spans) (hF : spec_l1Cur_amplifiers fu c spans = some r) :
    Calls Try.prog 135 [(.pointer (some ⟨b0, 0, none⟩)), v1_].toArray w0 fun e w' => ∃ v, e = .returned v ∧ (Chg w0 w' [b0] ∧ ∃ cs', w'.heap[b0]? = some (.cells cs'.toArray 138 (0, 0)) ∧ GoTy.rep w' (St ⟨w0, [b0]⟩ S [⟨b0, 138, cs'⟩] [] [] false) cs' r.2 ∧ VR w' (St ⟨w0, [b0]⟩ S [⟨b0, 138, cs'⟩] [] [] true) v r.1) := by
  obtain ⟨A, c2, rfl, hl⟩ := L1CurP_cells hr0
  obtain rfl := VR_int h1
  have H := Mem.startB S hp0
  have H := H.argB (by simpa using hS0) (p := MP.val [(.slice A c.code.length c2)] c.code) hl
  refine enter Try.func135 rfl rfl (nle rfl) rfl fun a hf => ?_
  rw [spec_l1Cur_amplifiers] at hF
  refine sq ?_
  refine reg ?_
  refine pRun_ok (tb := tab) (n := 36) tabOk 1 _ _ hf rfl rfl fun a hf => ?_
  refine wl_end ?_
  refine then_n ?_
  refine sq ?_
  refine reg ?_
  refine wl0 rfl (op_bslice hf H (.sh true) rfl 88 ([] : List Amplifier) [] rfl (fun w => by kernel_rfl) rfl (by decide) rfl trivial el0 (by decide) fun A2 a w hf H => ?_)
  refine pRun_ok (tb := tab) (n := 36) tabOk 1 _ _ hf rfl rfl fun a hf => ?_
  refine wl_end ?_
  refine then_n ?_
  refine sq ?_
  refine sq ?_
  refine reg ?_
  refine pRun_ok (tb := tab) (n := 36) tabOk 1 _ _ hf rfl rfl fun a hf => ?_
  refine wl_end ?_
  refine then_n ?_
  obtain ⟨out2, hB1, hF⟩ := bind_some hF
  have hf := hf.prune [0, 1, 5, 6] rfl
  have H := H.let [true] [true] [] [0]
  have hI : (fun (s : List Amplifier × Int × List By × Int × U64) (a : Act) (w : World) => match s with | (out', i, m, m2, m3) => ∃ (A3 : Option Addr) (c3 : Nat) (A4 : Option Addr) (c4 : Nat), Fr a 36 [(0, (.pointer (some ⟨b0, 0, none⟩))), (1, (.int .i64 spans)), (5, (.slice A3 out'.length c3)), (6, (.int .i64 i))] ∧ Mem ⟨w0, [b0]⟩ S [⟨b0, 138, [(.slice A4 m.length c4), (.int .i64 m2), (.int .u64 m3.n)]⟩] [⟨.sh true, 88, A3, c3, (out' : List Amplifier)⟩] [] [(false, MP.val [(.slice A4 m.length c4)] (m : List By))] w) (([] : List Amplifier), 0, c.code, c.at_, c.seed) a w := ⟨A2, 0, A, c2, hf, H⟩
  refine mid (fun a w => ∃ s : List Amplifier × Int × List By × Int × U64, out2 = s ∧ (fun (s : List Amplifier × Int × List By × Int × U64) (a : Act) (w : World) => match s with | (out', i, m, m2, m3) => ∃ (A3 : Option Addr) (c3 : Nat) (A4 : Option Addr) (c4 : Nat), Fr a 36 [(0, (.pointer (some ⟨b0, 0, none⟩))), (1, (.int .i64 spans)), (5, (.slice A3 out'.length c3)), (6, (.int .i64 i))] ∧ Mem ⟨w0, [b0]⟩ S [⟨b0, 138, [(.slice A4 m.length c4), (.int .i64 m2), (.int .u64 m3.n)]⟩] [⟨.sh true, 88, A3, c3, (out' : List Amplifier)⟩] [] [(false, MP.val [(.slice A4 m.length c4)] (m : List By))] w) s a w) ?_ ?_
  · refine wp_block ?_
    refine loop_rule (fun k (s : List Amplifier × Int × List By × Int × U64) => spec_l1Cur_amplifiers_L1 fu spans k s.1 s.2.1 s.2.2.1 s.2.2.2.1 s.2.2.2.2 = some out2) (fun (s : List Amplifier × Int × List By × Int × U64) (a : Act) (w : World) => match s with | (out', i, m, m2, m3) => ∃ (A3 : Option Addr) (c3 : Nat) (A4 : Option Addr) (c4 : Nat), Fr a 36 [(0, (.pointer (some ⟨b0, 0, none⟩))), (1, (.int .i64 spans)), (5, (.slice A3 out'.length c3)), (6, (.int .i64 i))] ∧ Mem ⟨w0, [b0]⟩ S [⟨b0, 138, [(.slice A4 m.length c4), (.int .i64 m2), (.int .u64 m3.n)]⟩] [⟨.sh true, 88, A3, c3, (out' : List Amplifier)⟩] [] [(false, MP.val [(.slice A4 m.length c4)] (m : List By))] w) (fun s h => by cases h) ?_ fu (([] : List Amplifier), 0, c.code, c.at_, c.seed) a w hB1 hI
    rintro fk ⟨out', i, m, m2, m3⟩ a w hR1 hI
    replace hR1 : spec_l1Cur_amplifiers_L1 fu spans (fk + 1) out' i m m2 m3 = some out2 := hR1
    rw [spec_l1Cur_amplifiers_L1] at hR1
    obtain ⟨A3, c3, A4, c4, hf, H⟩ := hI
    refine sq ?_
    refine sq ?_
    refine reg ?_
    refine pRun_ok (tb := tab) (n := 36) tabOk 3 _ _ hf rfl rfl fun a hf => ?_
    refine wl_end ?_
    refine then_n ?_
    refine (Bool.eq_false_or_eq_true (decide (i < spans))).elim (fun hc => ?_) (fun hc => ?_)
    · rw [if_pos hc] at hR1
      refine cd_t hf rfl hc ?_
      refine wp_skip ?_
      refine then_n ?_
      refine sq ?_
      refine wp_block ?_
      refine sq ?_
      refine reg ?_
      refine pRun_ok (tb := tab) (n := 36) tabOk 1 _ _ hf rfl rfl fun a hf => ?_
      obtain ⟨y, hy, hR1⟩ := bind_some hR1
      refine wl0 rfl (op_call hf TF.cl160 rfl (by decide) (spec_l1Cur_one_ok (S := St ⟨w0, [b0]⟩ S [⟨b0, 138, [(.slice A4 m.length c4), (.int .i64 m2), (.int .u64 m3.n)]⟩] [⟨.sh true, 88, A3, c3, (out' : List Amplifier)⟩] [] false) (H.boxAt 0 rfl) (L1CurP_mk (x := ({ code := m, at_ := m2, seed := m3 } : L1CurP)) (H.get 0 rfl)) (H.notSt 0 rfl _) mk_int hy) fun v w a hp hf => ?_)
      obtain ⟨hch, cs, hbx, hr, hs⟩ := hp
      replace hr := GoTy.mono hr (H.movesB 0 rfl false)
      obtain rfl := VR_bool hs
      obtain ⟨A5, c5, rfl, hl2⟩ := L1CurP_cells hr
      have H := H.wroteBox 0 rfl hch hbx
      have H := H.push (false, MP.val [(.slice A5 y.2.code.length c5)] y.2.code) hl2
      refine wl_end ?_
      refine then_n ?_
      refine (Bool.eq_false_or_eq_true (y.1)).elim (fun hc2 => ?_) (fun hc2 => ?_)
      · rw [if_pos hc2] at hR1
        refine cd_t hf rfl hc2 ?_
        refine sq ?_
        refine reg ?_
        refine pRun_ok (tb := tab) (n := 36) tabOk 1 _ _ hf rfl rfl fun a hf => ?_
        obtain ⟨y2, hy2, hR1⟩ := bind_some hR1
        refine wl0 rfl (op_call hf TF.cl150 rfl (by decide) (spec_l1Cur_amplifier_ok (S := St ⟨w0, [b0]⟩ S [⟨b0, 138, [(.slice A5 y.2.code.length c5), (.int .i64 y.2.at_), (.int .u64 y.2.seed.n)]⟩] [⟨.sh true, 88, A3, c3, (out' : List Amplifier)⟩] [] false) (H.boxAt 0 rfl) (L1CurP_mk (x := y.2) (H.get 0 rfl)) (H.notSt 0 rfl _) hy2) fun v2 w a hp2 hf => ?_)
        obtain ⟨hch2, cs2, hbx2, hr2, hs2⟩ := hp2
        replace hr2 := GoTy.mono hr2 (H.movesB 0 rfl false)
        obtain rfl := Amplifier_open hs2
        obtain ⟨A6, c6, rfl, hl3⟩ := L1CurP_cells hr2
        have H := H.wroteBox 0 rfl hch2 hbx2
        have H := H.push (false, MP.val [(.slice A6 y2.2.code.length c6)] y2.2.code) hl3
        refine wl0 rfl (op_alloc hf H TF.zv88 rfl (by decide) fun b' a w hf H => ?_)
        refine wl0 rfl (op_storeB hf H 0 TF.sz88 rfl rfl rfl rfl rfl rfl (nle rfl) fun w H => ?_)
        refine wl_end ?_
        refine then_n ?_
        refine sq ?_
        refine reg ?_
        refine pRun_ok (tb := tab) (n := 36) tabOk 2 _ _ hf rfl rfl fun a hf => ?_
        refine wl0 rfl (op_storeB hf H 0 TF.sz3 rfl rfl rfl rfl rfl rfl (nle rfl) fun w H => ?_)
        refine wl_end ?_
        refine then_n ?_
        refine reg ?_
        refine pRun_ok (tb := tab) (n := 36) tabOk 1 _ _ hf rfl rfl fun a hf => ?_
        refine wl0 rfl (op_q hf (rq_loadBN hf H TF.la88 0 rfl rfl rfl rfl) rfl (by decide) fun a hf => ?_)
        refine wl0 rfl (op_bslice hf H (.sh true) rfl 88 ([({ After := i, Gain := y2.1.Gain, Output := y2.1.Output, Noise := y2.1.Noise } : Amplifier)] : List Amplifier) [(.int .i64 i), (.int .i64 y2.1.Gain), (.int .i64 y2.1.Output), (.int .i64 y2.1.Noise)] rfl (fun w => by kernel_rfl) rfl (by decide) rfl trivial (el1 (y := ({ After := i, Gain := y2.1.Gain, Output := y2.1.Output, Noise := y2.1.Noise } : Amplifier)) (Amplifier_mk (x := ({ After := i, Gain := y2.1.Gain, Output := y2.1.Output, Noise := y2.1.Noise } : Amplifier)))) (by decide) fun A7 a w hf H => ?_)
        obtain ⟨l, hl, hR1⟩ := bind_some hR1
        refine wl0 rfl (op_appR hf H Try.underlying63 TF.ai88 rfl (by decide) 1 0 rfl rfl rfl rfl (.inr rfl) hl (by decide) fun A8 c7 a w hf H => ?_)
        refine pRun_ok (tb := tab) (n := 36) tabOk 1 _ _ hf rfl rfl fun a hf => ?_
        have hf := hf.prune [0, 1, 5, 6] rfl
        refine wl_end ?_
        refine blk_n ?_
        refine then_n ?_
        refine reg ?_
        refine pRun_ok (tb := tab) (n := 36) tabOk 3 _ _ hf rfl rfl fun a hf => ?_
        refine wl_end ?_
        have hf := hf.prune [0, 1, 5, 6] rfl
        have H := H.let [false, true] [false, true] [] [0]
        exact then_n ⟨(l, w64 (i + 1), y2.2.code, y2.2.at_, y2.2.seed), hR1, A8, c7, A6, c6, hf, H⟩
      · rw [if_neg (nt hc2)] at hR1
        refine cd_f hf rfl hc2 ?_
        refine wp_skip ?_
        refine blk_n ?_
        refine then_n ?_
        refine reg ?_
        refine pRun_ok (tb := tab) (n := 36) tabOk 3 _ _ hf rfl rfl fun a hf => ?_
        refine wl_end ?_
        have hf := hf.prune [0, 1, 5, 6] rfl
        have H := H.let [true] [true] [] [0]
        exact then_n ⟨(out', w64 (i + 1), y.2.code, y.2.at_, y.2.seed), hR1, A3, c3, A5, c5, hf, H⟩
    · rw [if_neg (nt hc)] at hR1
      refine cd_f hf rfl hc ?_
      refine wp_exit (then_x (then_x (blk_e (?_))))
      have hf := hf.prune [0, 1, 5, 6] rfl
      have H := H.let [true] [true] [] [0]
      exact ⟨(out', i, m, m2, m3), (Option.some.inj hR1).symm, A3, c3, A4, c4, hf, H⟩
  rintro a w ⟨⟨out3, i2, m4, m5, m6⟩, rfl, A9, c8, A10, c9, hf, H⟩
  dsimp only at hF
  refine then_n ?_
  refine sq ?_
  refine sq ?_
  refine reg ?_
  refine pRun_ok (tb := tab) (n := 36) tabOk 1 _ _ hf rfl rfl fun a hf => ?_
  obtain ⟨y3, hy3, hF⟩ := bind_some hF
  refine wl0 rfl (op_call hf TF.cl160 rfl (by decide) (spec_l1Cur_one_ok (S := St ⟨w0, [b0]⟩ S [⟨b0, 138, [(.slice A10 m4.length c9), (.int .i64 m5), (.int .u64 m6.n)]⟩] [⟨.sh true, 88, A9, c8, (out3 : List Amplifier)⟩] [] false) (H.boxAt 0 rfl) (L1CurP_mk (x := ({ code := m4, at_ := m5, seed := m6 } : L1CurP)) (H.get 0 rfl)) (H.notSt 0 rfl _) mk_int hy3) fun v3 w a hp3 hf => ?_)
  obtain ⟨hch3, cs3, hbx3, hr3, hs3⟩ := hp3
  replace hr3 := GoTy.mono hr3 (H.movesB 0 rfl false)
  obtain rfl := VR_bool hs3
  obtain ⟨A11, c10, rfl, hl4⟩ := L1CurP_cells hr3
  have H := H.wroteBox 0 rfl hch3 hbx3
  have H := H.push (false, MP.val [(.slice A11 y3.2.code.length c10)] y3.2.code) hl4
  refine wl_end ?_
  refine then_n ?_
  refine (Bool.eq_false_or_eq_true (y3.1)).elim (fun hc3 => ?_) (fun hc3 => ?_)
  · rw [if_pos hc3] at hF
    refine cd_t hf rfl hc3 ?_
    refine reg ?_
    refine pRun_ok (tb := tab) (n := 36) tabOk 4 _ _ hf rfl rfl fun a hf => ?_
    obtain ⟨y4, hy4, hF⟩ := bind_some hF
    refine wl0 rfl (op_call hf TF.cl134 rfl (by decide) (spec_l1Cur_pick_ok (S := St ⟨w0, [b0]⟩ S [⟨b0, 138, [(.slice A11 y3.2.code.length c10), (.int .i64 y3.2.at_), (.int .u64 y3.2.seed.n)]⟩] [⟨.sh true, 88, A9, c8, (out3 : List Amplifier)⟩] [] false) (H.boxAt 0 rfl) (L1CurP_mk (x := y3.2) (H.get 0 rfl)) (H.notSt 0 rfl _) mk_int hy4) fun v4 w a hp4 hf => ?_)
    obtain ⟨hch4, cs4, hbx4, hr4, hs4⟩ := hp4
    replace hr4 := GoTy.mono hr4 (H.movesB 0 rfl false)
    obtain rfl := VR_int hs4
    obtain ⟨A12, c11, rfl, hl5⟩ := L1CurP_cells hr4
    have H := H.wroteBox 0 rfl hch4 hbx4
    have H := H.push (false, MP.val [(.slice A12 y4.2.code.length c11)] y4.2.code) hl5
    refine pRun_ok (tb := tab) (n := 36) tabOk 1 _ _ hf rfl rfl fun a hf => ?_
    refine wl0 rfl (op_q hf (rq_build hf (cs := [(.int .i64 (w64 (y4.1 - 1))), (.int .i64 0), (.int .i64 0), (.int .i64 0)]) rfl (fun w => by kernel_rfl)) rfl (by decide) fun a hf => ?_)
    refine wl0 rfl (op_bslice hf H (.sh true) rfl 88 ([({ After := w64 (y4.1 - 1), Gain := 0, Output := 0, Noise := 0 } : Amplifier)] : List Amplifier) [(.int .i64 (w64 (y4.1 - 1))), (.int .i64 0), (.int .i64 0), (.int .i64 0)] rfl (fun w => by kernel_rfl) rfl (by decide) rfl trivial (el1 (y := ({ After := w64 (y4.1 - 1), Gain := 0, Output := 0, Noise := 0 } : Amplifier)) (Amplifier_mk (x := ({ After := w64 (y4.1 - 1), Gain := 0, Output := 0, Noise := 0 } : Amplifier)))) (by decide) fun A13 a w hf H => ?_)
    obtain ⟨l2, hl2, hF⟩ := bind_some hF
    refine wl0 rfl (op_appR hf H Try.underlying63 TF.ai88 rfl (by decide) 1 0 rfl rfl rfl rfl (.inr rfl) hl2 (by decide) fun A14 c12 a w hf H => ?_)
    refine pRun_ok (tb := tab) (n := 36) tabOk 1 _ _ hf rfl rfl fun a hf => ?_
    have hf := hf.prune [5] rfl
    refine wl_end ?_
    refine then_n ?_
    refine sq ?_
    refine reg ?_
    refine pRun_ok (tb := tab) (n := 36) tabOk 2 _ _ hf rfl rfl fun a hf => ?_
    refine wl_end ?_
    refine then_n ?_
    refine wp_ret (?_)
    have H := H.freeze 1 rfl
    obtain rfl := Option.some.inj hF
    refine ret_1 (fn := Try.f135) (r := .tmp 4) hf rfl (rv_tmp hf rfl) ?_
    exact ⟨_, rfl, H.chg, _, H.boxAt 0 rfl, (L1CurP_mk (x := y4.2) (rep_endB (M := _) (i := 0) rfl (α := List By) (H.get 1 rfl))), (mk_list (rep_endB (M := _) (i := 0) rfl (α := List Amplifier) (H.get 0 rfl)))⟩
  · rw [if_neg (nt hc3)] at hF
    refine cd_f hf rfl hc3 ?_
    refine wp_skip ?_
    refine then_n ?_
    refine sq ?_
    refine reg ?_
    refine pRun_ok (tb := tab) (n := 36) tabOk 2 _ _ hf rfl rfl fun a hf => ?_
    refine wl_end ?_
    refine then_n ?_
    refine wp_ret (?_)
    have H := H.freeze 0 rfl
    obtain rfl := Option.some.inj hF
    refine ret_1 (fn := Try.f135) (r := .tmp 4) hf rfl (rv_tmp hf rfl) ?_
    exact ⟨_, rfl, H.chg, _, H.boxAt 0 rfl, (L1CurP_mk (x := y3.2) (rep_endB (M := _) (i := 0) rfl (α := List By) (H.get 1 rfl))), (mk_list (rep_endB (M := _) (i := 0) rfl (α := List Amplifier) (H.get 0 rfl)))⟩

/- loop.example/g00897/spec.DrawNoiseSum -/
set_option maxHeartbeats 1000000 in
theorem spec_DrawNoiseSum_ok {fu : Nat} {w0 : World} {S : Nat → Prop} {v0_ : Value} {code : List By} {r : List Amplifier} (h0 : VR w0 S v0_ code) (hF : spec_DrawNoiseSum fu code = some r) :
    Calls Try.prog 78 [v0_].toArray w0 fun e w' => ∃ v, e = .returned v ∧ (Below w0.heap.size w0 w' ∧ VR w' (St ⟨w0, []⟩ S [] [] [] true) v r) := by
  obtain ⟨A, c, rfl, hl⟩ := VR_list h0
  have H := Mem.start ⟨w0, []⟩ S
  have H := H.pushArg (MP.val [(.slice A code.length c)] code) hl
  refine enter Try.func78 rfl rfl (nle rfl) rfl fun a hf => ?_
  rw [spec_DrawNoiseSum] at hF
  refine sq ?_
  refine reg ?_
  refine pRun_ok (tb := tab) (n := 12) tabOk 1 _ _ hf rfl rfl fun a hf => ?_
  refine wl_end ?_
  refine then_n ?_
  refine sq ?_
  refine reg ?_
  refine pRun_ok (tb := tab) (n := 12) tabOk 1 _ _ hf rfl rfl fun a hf => ?_
  refine wl0 rfl (op_q hf (rq_build hf (cs := [(.slice A code.length c), (.int .i64 0), (.int .u64 0)]) rfl (fun w => by kernel_rfl)) rfl (by decide) fun a hf => ?_)
  refine wl0 rfl (op_box hf H rfl rfl (by decide) fun b' a w hf H => ?_)
  refine pRun_ok (tb := tab) (n := 12) tabOk 1 _ _ hf rfl rfl fun a hf => ?_
  refine wl_end ?_
  refine then_n ?_
  refine sq ?_
  refine reg ?_
  refine pRun_ok (tb := tab) (n := 12) tabOk 2 _ _ hf rfl rfl fun a hf => ?_
  obtain ⟨y, hy, hF⟩ := bind_some hF
  refine wl0 rfl (op_call hf TF.cl134 rfl (by decide) (spec_l1Cur_pick_ok (S := St ⟨w0, []⟩ S [⟨b', 138, [(.slice A code.length c), (.int .i64 0), (.int .u64 0)]⟩] [] [] false) (H.boxAt 0 rfl) (L1CurP_mk (x := ({ code := code, at_ := 0, seed := (⟨0⟩ : U64) } : L1CurP)) (H.get 0 rfl)) (H.notSt 0 rfl _) mk_int hy) fun v w a hp hf => ?_)
  obtain ⟨hch, cs, hbx, hr, hs⟩ := hp
  replace hr := GoTy.mono hr (H.movesB 0 rfl false)
  obtain rfl := VR_int hs
  obtain ⟨A2, c2, rfl, hl2⟩ := L1CurP_cells hr
  have H := H.wroteBox 0 rfl hch hbx
  have H := H.push (false, MP.val [(.slice A2 y.2.code.length c2)] y.2.code) hl2
  refine pRun_ok (tb := tab) (n := 12) tabOk 1 _ _ hf rfl rfl fun a hf => ?_
  obtain ⟨y2, hy2, hF⟩ := bind_some hF
  refine wl0 rfl (op_call hf TF.cl135 rfl (by decide) (spec_l1Cur_amplifiers_ok (S := St ⟨w0, []⟩ S [⟨b', 138, [(.slice A2 y.2.code.length c2), (.int .i64 y.2.at_), (.int .u64 y.2.seed.n)]⟩] [] [] false) (H.boxAt 0 rfl) (L1CurP_mk (x := y.2) (H.get 0 rfl)) (H.notSt 0 rfl _) mk_int hy2) fun v2 w a hp2 hf => ?_)
  obtain ⟨hch2, cs2, hbx2, hr2, hs2⟩ := hp2
  replace hr2 := GoTy.mono hr2 (H.movesB 0 rfl false)
  obtain ⟨A3, c3, rfl, hl3⟩ := VR_list hs2
  replace hl3 := GoTy.mono (α := List Amplifier) hl3 (H.movesB (w' := w) 0 rfl true)
  obtain ⟨A4, c4, rfl, hl4⟩ := L1CurP_cells hr2
  have H := H.wroteBox 0 rfl hch2 hbx2
  have H := H.push (true, MP.val [(.slice A3 y2.1.length c3)] y2.1) hl3
  have H := H.push (false, MP.val [(.slice A4 y2.2.code.length c4)] y2.2.code) hl4
  refine pRun_ok (tb := tab) (n := 12) tabOk 1 _ _ hf rfl rfl fun a hf => ?_
  refine wl_end ?_
  refine then_n ?_
  refine wp_ret (?_)
  obtain rfl := Option.some.inj hF
  refine ret_1 (fn := Try.f78) (r := .tmp 2) hf rfl (rv_tmp hf rfl) ?_
  exact ⟨_, rfl, H.bel, (mk_list (rep_end (α := List Amplifier) (H.get 1 rfl)))⟩

/- loop.example/g00897/impl.isLevel -/
set_option maxHeartbeats 1000000 in
theorem impl_isLevel_ok {fu : Nat} {w0 : World} {S : Nat → Prop} {v0_ : Value} {level : Int} {r : Bool} (h0 : VR w0 S v0_ level) (hF : impl_isLevel fu level = some r) :
    Calls Try.prog 107 [v0_].toArray w0 fun e w' => ∃ v, e = .returned v ∧ (Below w0.heap.size w0 w' ∧ VR w' (St ⟨w0, []⟩ S [] [] [] true) v r) := by
  obtain rfl := VR_int h0
  have H := Mem.start ⟨w0, []⟩ S
  refine enter Try.func107 rfl rfl (nle rfl) rfl fun a hf => ?_
  rw [impl_isLevel] at hF
  refine sq ?_
  refine reg ?_
  refine pRun_ok (tb := tab) (n := 5) tabOk 1 _ _ hf rfl rfl fun a hf => ?_
  refine wl_end ?_
  refine then_n ?_
  refine sq ?_
  refine reg ?_
  refine pRun_ok (tb := tab) (n := 5) tabOk 1 _ _ hf rfl rfl fun a hf => ?_
  obtain ⟨y, hy, hF⟩ := bind_some hF
  refine wl0 rfl (op_call hf TF.cl98 rfl (by decide) (impl_within_ok (S := fun _ => True) mk_int mk_int mk_int hy) fun v w a hp hf => ?_)
  obtain ⟨hb, hp⟩ := hp
  obtain rfl := VR_bool hp
  have H := H.keep hb
  refine pRun_ok (tb := tab) (n := 5) tabOk 1 _ _ hf rfl rfl fun a hf => ?_
  refine wl_end ?_
  refine then_n ?_
  refine wp_ret (?_)
  obtain rfl := Option.some.inj hF
  refine ret_1 (fn := Try.f107) (r := .tmp 2) hf rfl (rv_tmp hf rfl) ?_
  exact ⟨_, rfl, H.bel, mk_bool⟩

/- loop.example/g00897/impl.isAmplifier -/
set_option maxHeartbeats 1000000 in
theorem impl_isAmplifier_ok {fu : Nat} {w0 : World} {S : Nat → Prop} {v0_ : Value} {a' : Amplifier} {r : Bool} (h0 : VR w0 S v0_ a') (hF : impl_isAmplifier fu a' = some r) :
    Calls Try.prog 142 [v0_].toArray w0 fun e w' => ∃ v, e = .returned v ∧ (Below w0.heap.size w0 w' ∧ VR w' (St ⟨w0, []⟩ S [] [] [] true) v r) := by
  obtain rfl := Amplifier_open h0
  have H := Mem.start ⟨w0, []⟩ S
  refine enter Try.func142 rfl rfl (nle rfl) rfl fun a hf => ?_
  rw [impl_isAmplifier] at hF
  refine sq ?_
  refine reg ?_
  refine wl0 rfl (op_box hf H rfl rfl (by decide) fun b' a w hf H => ?_)
  refine pRun_ok (tb := tab) (n := 16) tabOk 1 _ _ hf rfl rfl fun a hf => ?_
  refine wl_end ?_
  refine then_n ?_
  refine sq ?_
  obtain ⟨c, hGc, hF⟩ := bind_some hF
  refine mid (fun a w => Fr a 16 [(2, (.bool c))] ∧ Mem ⟨w0, []⟩ S [] [] [] [] w) ?_ ?_
  · refine reg ?_
    refine pRun_ok (tb := tab) (n := 16) tabOk 1 _ _ hf rfl rfl fun a hf => ?_
    refine wl0 rfl (op_q hf (rq_loadB hf H TF.ls3 0 rfl rfl rfl) rfl (by decide) fun a hf => ?_)
    obtain ⟨y, hy, hGc⟩ := bind_some hGc
    refine wl0 rfl (op_call hf TF.cl98 rfl (by decide) (impl_within_ok (S := fun _ => True) mk_int mk_int mk_int hy) fun v w a hp hf => ?_)
    obtain ⟨hb, hp⟩ := hp
    obtain rfl := VR_bool hp
    have H := H.keep hb
    refine pRun_ok (tb := tab) (n := 16) tabOk 1 _ _ hf rfl rfl fun a hf => ?_
    refine (Bool.eq_false_or_eq_true (y)).elim (fun hc => ?_) (fun hc => ?_)
    · rw [if_pos hc] at hGc
      have hf := hf.lit 6 rfl hc
      refine pRun_ok (tb := tab) (n := 16) tabOk 1 _ _ hf rfl rfl fun a hf => ?_
      refine wlg hf rfl rfl rfl (op_q hf (rq_loadB hf H TF.ls3 0 rfl rfl rfl) rfl (by decide) fun a hf => ?_)
      obtain ⟨y2, hy2, hGc⟩ := bind_some hGc
      refine wlg hf rfl rfl rfl (op_call hf TF.cl107 rfl (by decide) (impl_isLevel_ok (S := fun _ => True) mk_int hy2) fun v2 w a hp2 hf => ?_)
      obtain ⟨hb2, hp2⟩ := hp2
      obtain rfl := VR_bool hp2
      have H := H.keep hb2
      refine pRun_ok (tb := tab) (n := 16) tabOk 2 _ _ hf rfl rfl fun a hf => ?_
      refine (Bool.eq_false_or_eq_true (y2)).elim (fun hc2 => ?_) (fun hc2 => ?_)
      · rw [if_pos hc2] at hGc
        have hf := hf.lit 11 rfl hc2
        refine pRun_ok (tb := tab) (n := 16) tabOk 1 _ _ hf rfl rfl fun a hf => ?_
        refine wlg hf rfl rfl rfl (op_q hf (rq_loadB hf H TF.ls3 0 rfl rfl rfl) rfl (by decide) fun a hf => ?_)
        obtain ⟨y3, hy3, hGc⟩ := bind_some hGc
        refine wlg hf rfl rfl rfl (op_call hf TF.cl98 rfl (by decide) (impl_within_ok (S := fun _ => True) mk_int mk_int mk_int hy3) fun v3 w a hp3 hf => ?_)
        obtain ⟨hb3, hp3⟩ := hp3
        obtain rfl := VR_bool hp3
        have H := H.keep hb3
        refine pRun_ok (tb := tab) (n := 16) tabOk 2 _ _ hf rfl rfl fun a hf => ?_
        obtain rfl := Option.some.inj hGc
        have hf := hf.prune [2] rfl
        have H := H.let [false] [] [] []
        exact wl_end ⟨hf, H⟩
      · rw [if_neg (nt hc2)] at hGc
        have hf := hf.lit 11 rfl hc2
        refine pRun_ok (tb := tab) (n := 16) tabOk 5 _ _ hf rfl rfl fun a hf => ?_
        obtain rfl := Option.some.inj hGc
        have hf := hf.prune [2] rfl
        have H := H.let [false] [] [] []
        exact wl_end ⟨hf, H⟩
    · rw [if_neg (nt hc)] at hGc
      have hf := hf.lit 6 rfl hc
      refine pRun_ok (tb := tab) (n := 16) tabOk 10 _ _ hf rfl rfl fun a hf => ?_
      obtain rfl := Option.some.inj hGc
      have hf := hf.prune [2] rfl
      have H := H.let [false] [] [] []
      exact wl_end ⟨hf, H⟩
  rintro a w ⟨hf, H⟩
  refine then_n ?_
  refine wp_ret (?_)
  obtain rfl := Option.some.inj hF
  refine ret_1 (fn := Try.f142) (r := .tmp 2) hf rfl (rv_tmp hf rfl) ?_
  exact ⟨_, rfl, H.bel, mk_bool⟩

/- loop.example/g00897/impl.areAmplifiers -/
set_option maxHeartbeats 1000000 in
theorem impl_areAmplifiers_ok {fu : Nat} {w0 : World} {S : Nat → Prop} {v0_ : Value} {v1_ : Value} {list : List Amplifier} {spans : Int} {r : Bool} (h0 : VR w0 S v0_ list) (h1 : VR w0 S v1_ spans) (hF : impl_areAmplifiers fu list spans = some r) :
    Calls Try.prog 121 [v0_, v1_].toArray w0 fun e w' => ∃ v, e = .returned v ∧ (Below w0.heap.size w0 w' ∧ VR w' (St ⟨w0, []⟩ S [] [] [] true) v r) := by
  obtain ⟨A, c, rfl, hl⟩ := VR_list h0
  obtain rfl := VR_int h1
  have H := Mem.start ⟨w0, []⟩ S
  have H := H.pushArg (MP.val [(.slice A list.length c)] list) hl
  refine enter Try.func121 rfl rfl (nle rfl) rfl fun a hf => ?_
  rw [impl_areAmplifiers] at hF
  refine sq ?_
  refine reg ?_
  refine pRun_ok (tb := tab) (n := 41) tabOk 1 _ _ hf rfl rfl fun a hf => ?_
  refine wl_end ?_
  refine then_n ?_
  refine sq ?_
  refine sq ?_
  refine reg ?_
  refine pRun_ok (tb := tab) (n := 41) tabOk 3 _ _ hf rfl rfl fun a hf => ?_
  refine wl_end ?_
  refine then_n ?_
  obtain ⟨out', hB1, hF⟩ := bind_some hF
  have hf := hf.prune [0, 1, 7, 8, 9] rfl
  have H := H.let [] [] [] [0]
  have hI : (fun (s : Int) (a : Act) (w : World) => match s with | i => Fr a 41 [(0, (.slice A list.length c)), (1, (.int .i64 spans)), (7, (.slice A list.length c)), (8, (.int .i64 (list.length : Int))), (9, (.int .i64 i))] ∧ Mem ⟨w0, []⟩ S [] [] [] [(false, MP.val [(.slice A list.length c)] (list : List Amplifier))] w) 0 a w0 := ⟨hf, H⟩
  refine mid (fun a w => ∃ s : Int, out' = Out.next s ∧ (fun (s : Int) (a : Act) (w : World) => match s with | i => Fr a 41 [(0, (.slice A list.length c)), (1, (.int .i64 spans)), (7, (.slice A list.length c)), (8, (.int .i64 (list.length : Int))), (9, (.int .i64 i))] ∧ Mem ⟨w0, []⟩ S [] [] [] [(false, MP.val [(.slice A list.length c)] (list : List Amplifier))] w) s a w) ?_ ?_
  · refine wp_block ?_
    refine loop_rule (fun k (s : Int) => impl_areAmplifiers_L1 fu list spans k s = some out') (fun (s : Int) (a : Act) (w : World) => match s with | i => Fr a 41 [(0, (.slice A list.length c)), (1, (.int .i64 spans)), (7, (.slice A list.length c)), (8, (.int .i64 (list.length : Int))), (9, (.int .i64 i))] ∧ Mem ⟨w0, []⟩ S [] [] [] [(false, MP.val [(.slice A list.length c)] (list : List Amplifier))] w) (fun s h => by cases h) ?_ fu 0 a w0 hB1 hI
    rintro fk i a w hR1 hI
    replace hR1 : impl_areAmplifiers_L1 fu list spans (fk + 1) i = some out' := hR1
    rw [impl_areAmplifiers_L1] at hR1
    obtain ⟨hf, H⟩ := hI
    refine sq ?_
    refine reg ?_
    refine pRun_ok (tb := tab) (n := 41) tabOk 1 _ _ hf rfl rfl fun a hf => ?_
    refine wl_end ?_
    refine then_n ?_
    refine sq ?_
    refine (Bool.eq_false_or_eq_true (decide (i < (list.length : Int)))).elim (fun hc => ?_) (fun hc => ?_)
    · rw [if_pos hc] at hR1
      refine cd_t hf rfl hc ?_
      refine wp_skip ?_
      refine then_n ?_
      refine sq ?_
      refine wp_block ?_
      refine sq ?_
      refine reg ?_
      refine pRun_ok (tb := tab) (n := 41) tabOk 1 _ _ hf rfl rfl fun a hf => ?_
      obtain ⟨e, he, hR1⟩ := bind_some hR1
      refine wl0 rfl (op_iaddr hf H Try.underlying63 TF.sz88 0 rfl rfl rfl he (by decide) fun p o cs a hf hr H => ?_)
      obtain rfl := Amplifier_cells hr
      refine wl0 rfl (op_q hf (rq_loadIN hf H TF.la88 0 0 rfl rfl rfl rfl) rfl (by decide) fun a hf => ?_)
      refine wl0 rfl (op_alloc hf H TF.zv88 rfl (by decide) fun b' a w hf H => ?_)
      refine pRun_ok (tb := tab) (n := 41) tabOk 1 _ _ hf rfl rfl fun a hf => ?_
      refine wl0 rfl (op_storeB hf H 0 TF.sz88 rfl rfl rfl rfl rfl rfl (nle rfl) fun w H => ?_)
      refine wl_end ?_
      refine then_n ?_
      refine sq ?_
      refine drawn [] (bs := [false, false, false, false, false, false, false, false, false, false, false, false, false, false, false, false, false, false, false, false, false, false, false, false, false, false]) (fuel := 26) (Checked.mixed Try.checked) rfl rfl fun w hb => ?_
      have H := H.keep hb
      refine str (fun w => Mem ⟨w0, []⟩ S [⟨b', 88, [(.int .i64 e.After), (.int .i64 e.Gain), (.int .i64 e.Output), (.int .i64 e.Noise)]⟩] [] [] [(false, MP.cells ⟨p, o, none⟩ [(.int .i64 e.After), (.int .i64 e.Gain), (.int .i64 e.Output), (.int .i64 e.Noise)]), (false, MP.val [(.slice A list.length c)] (list : List Amplifier))] w) (fun w H => trivial) ?_
      have hS : Mem ⟨w0, []⟩ S [⟨b', 88, [(.int .i64 e.After), (.int .i64 e.Gain), (.int .i64 e.Output), (.int .i64 e.Noise)]⟩] [] [] [(false, MP.cells ⟨p, o, none⟩ [(.int .i64 e.After), (.int .i64 e.Gain), (.int .i64 e.Output), (.int .i64 e.Noise)]), (false, MP.val [(.slice A list.length c)] (list : List Amplifier))] w := H.let [true] [] [] [0, 1]
      refine tkS (i := 0) (bs' := [true, false, false, false, false, false, false, false, false, false, false, false, false, false, false, false, false, false, false, false, false, false, false, false, false, false]) [] rfl rfl rfl (by decide) hf (by kernel_rfl) (by kernel_rfl) hS (fun w H => rq_loadBN hf H TF.la88 0 rfl rfl rfl rfl) rfl fun a hf => ?_
      obtain ⟨y, hy, hR1⟩ := bind_some hR1
      refine on1 (i := 1) (bs' := [true, true, false, false, false, false, false, false, false, false, false, false, false, false, false, false, false, false, false, false, false, false, false, false, false, false]) (by kernel_rfl) rfl rfl rfl (op_call hf TF.cl142 rfl (by decide) (impl_isAmplifier_ok (S := fun _ => True) Amplifier_mkv hy) fun v w a hp hf => ?_)
      obtain ⟨hb, hp⟩ := hp
      obtain rfl := VR_bool hp
      have H := H.keep hb
      have hS : Mem ⟨w0, []⟩ S [⟨b', 88, [(.int .i64 e.After), (.int .i64 e.Gain), (.int .i64 e.Output), (.int .i64 e.Noise)]⟩] [] [] [(false, MP.cells ⟨p, o, none⟩ [(.int .i64 e.After), (.int .i64 e.Gain), (.int .i64 e.Output), (.int .i64 e.Noise)]), (false, MP.val [(.slice A list.length c)] (list : List Amplifier))] w := H.let [true] [] [] [0, 1]
      refine ⟨fun _ => hS, ?_⟩
      refine tkP (i := 2) (bs' := [true, true, true, false, false, false, false, false, false, false, false, false, false, false, false, false, false, false, false, false, false, false, false, false, false, false]) rfl rfl rfl (by decide) hf (by kernel_rfl) (fun _ => hS) (fun w => pOp_ok (tb := tab) tabOk hf rfl) rfl fun a hf => ?_
      refine tkP (i := 3) (bs' := [true, true, true, true, false, false, false, false, false, false, false, false, false, false, false, false, false, false, false, false, false, false, false, false, false, false]) rfl rfl rfl (by decide) hf (by kernel_rfl) (fun _ => hS) (fun w => pOp_ok (tb := tab) tabOk hf rfl) rfl fun a hf => ?_
      refine (Bool.eq_false_or_eq_true (!y)).elim (fun hc2 => ?_) (fun hc2 => ?_)
      · rw [if_pos hc2] at hR1
        have hf := hf.lit 17 rfl hc2
        refine tkU (i := 4) (bs' := [true, true, true, true, true, false, false, false, false, false, false, false, false, false, false, false, false, false, false, false, false, false, false, false, false, false]) rfl rfl rfl rfl rfl rfl (by decide) hf (by kernel_rfl) (fun _ => hS) rfl fun a hf => ?_
        refine tkU (i := 5) (bs' := [true, true, true, true, true, true, false, false, false, false, false, false, false, false, false, false, false, false, false, false, false, false, false, false, false, false]) rfl rfl rfl rfl rfl rfl (by decide) hf (by kernel_rfl) (fun _ => hS) rfl fun a hf => ?_
        refine tkU (i := 6) (bs' := [true, true, true, true, true, true, true, false, false, false, false, false, false, false, false, false, false, false, false, false, false, false, false, false, false, false]) rfl rfl rfl rfl rfl rfl (by decide) hf (by kernel_rfl) (fun _ => hS) rfl fun a hf => ?_
        refine tkU (i := 7) (bs' := [true, true, true, true, true, true, true, true, false, false, false, false, false, false, false, false, false, false, false, false, false, false, false, false, false, false]) rfl rfl rfl rfl rfl rfl (by decide) hf (by kernel_rfl) (fun _ => hS) rfl fun a hf => ?_
        refine tkU (i := 8) (bs' := [true, true, true, true, true, true, true, true, true, false, false, false, false, false, false, false, false, false, false, false, false, false, false, false, false, false]) rfl rfl rfl rfl rfl rfl (by decide) hf (by kernel_rfl) (fun _ => hS) rfl fun a hf => ?_
        refine tkU (i := 9) (bs' := [true, true, true, true, true, true, true, true, true, true, false, false, false, false, false, false, false, false, false, false, false, false, false, false, false, false]) rfl rfl rfl rfl rfl rfl (by decide) hf (by kernel_rfl) (fun _ => hS) rfl fun a hf => ?_
        refine tkP (i := 10) (bs' := [true, true, true, true, true, true, true, true, true, true, true, false, false, false, false, false, false, false, false, false, false, false, false, false, false, false]) rfl rfl rfl (by decide) hf (by kernel_rfl) (fun _ => hS) (fun w => pOp_ok (tb := tab) tabOk hf rfl) rfl fun a hf => ?_
        refine tkP (i := 11) (bs' := [true, true, true, true, true, true, true, true, true, true, true, true, false, false, false, false, false, false, false, false, false, false, false, false, false, false]) rfl rfl rfl (by decide) hf (by kernel_rfl) (fun _ => hS) (fun w => pOp_ok (tb := tab) tabOk hf rfl) rfl fun a hf => ?_
        refine tkU (i := 12) (bs' := [true, true, true, true, true, true, true, true, true, true, true, true, true, false, false, false, false, false, false, false, false, false, false, false, false, false]) rfl rfl rfl rfl rfl rfl (by decide) hf (by kernel_rfl) (fun _ => hS) rfl fun a hf => ?_
        refine tkU (i := 13) (bs' := [true, true, true, true, true, true, true, true, true, true, true, true, true, true, false, false, false, false, false, false, false, false, false, false, false, false]) rfl rfl rfl rfl rfl rfl (by decide) hf (by kernel_rfl) (fun _ => hS) rfl fun a hf => ?_
        refine tkU (i := 14) (bs' := [true, true, true, true, true, true, true, true, true, true, true, true, true, true, true, false, false, false, false, false, false, false, false, false, false, false]) rfl rfl rfl rfl rfl rfl (by decide) hf (by kernel_rfl) (fun _ => hS) rfl fun a hf => ?_
        refine tkUU (i := 15) (bs' := [true, true, true, true, true, true, true, true, true, true, true, true, true, true, true, true, false, false, false, false, false, false, false, false, false, false]) rfl rfl rfl rfl rfl (by decide) hf (by kernel_rfl) (fun _ => hS) rfl fun a hf => ?_
        refine tkUU (i := 16) (bs' := [true, true, true, true, true, true, true, true, true, true, true, true, true, true, true, true, true, false, false, false, false, false, false, false, false, false]) rfl rfl rfl rfl rfl (by decide) hf (by kernel_rfl) (fun _ => hS) rfl fun a hf => ?_
        refine tkUU (i := 17) (bs' := [true, true, true, true, true, true, true, true, true, true, true, true, true, true, true, true, true, true, false, false, false, false, false, false, false, false]) rfl rfl rfl rfl rfl (by decide) hf (by kernel_rfl) (fun _ => hS) rfl fun a hf => ?_
        refine tkUU (i := 18) (bs' := [true, true, true, true, true, true, true, true, true, true, true, true, true, true, true, true, true, true, true, false, false, false, false, false, false, false]) rfl rfl rfl rfl rfl (by decide) hf (by kernel_rfl) (fun _ => hS) rfl fun a hf => ?_
        refine tkUU (i := 19) (bs' := [true, true, true, true, true, true, true, true, true, true, true, true, true, true, true, true, true, true, true, true, false, false, false, false, false, false]) rfl rfl rfl rfl rfl (by decide) hf (by kernel_rfl) (fun _ => hS) rfl fun a hf => ?_
        refine tkUU (i := 20) (bs' := [true, true, true, true, true, true, true, true, true, true, true, true, true, true, true, true, true, true, true, true, true, false, false, false, false, false]) rfl rfl rfl rfl rfl (by decide) hf (by kernel_rfl) (fun _ => hS) rfl fun a hf => ?_
        refine tkUU (i := 21) (bs' := [true, true, true, true, true, true, true, true, true, true, true, true, true, true, true, true, true, true, true, true, true, true, false, false, false, false]) rfl rfl rfl rfl rfl (by decide) hf (by kernel_rfl) (fun _ => hS) rfl fun a hf => ?_
        refine tkUU (i := 22) (bs' := [true, true, true, true, true, true, true, true, true, true, true, true, true, true, true, true, true, true, true, true, true, true, true, false, false, false]) rfl rfl rfl rfl rfl (by decide) hf (by kernel_rfl) (fun _ => hS) rfl fun a hf => ?_
        refine tkUU (i := 23) (bs' := [true, true, true, true, true, true, true, true, true, true, true, true, true, true, true, true, true, true, true, true, true, true, true, true, false, false]) rfl rfl rfl rfl rfl (by decide) hf (by kernel_rfl) (fun _ => hS) rfl fun a hf => ?_
        refine tkU (i := 24) (bs' := [true, true, true, true, true, true, true, true, true, true, true, true, true, true, true, true, true, true, true, true, true, true, true, true, true, false]) rfl rfl rfl rfl rfl rfl (by decide) hf (by kernel_rfl) (fun _ => hS) rfl fun a hf => ?_
        refine tkP (i := 25) (bs' := [true, true, true, true, true, true, true, true, true, true, true, true, true, true, true, true, true, true, true, true, true, true, true, true, true, true]) rfl rfl rfl (by decide) hf (by kernel_rfl) (fun _ => hS) (fun w => pOp_ok (tb := tab) tabOk hf rfl) rfl fun a hf => ?_
        refine dn (by kernel_rfl) ?_
        have hf := hf.prune [0, 1, 7, 8, 9, 39] rfl
        refine then_n ?_
        refine cd_t hf rfl rfl ?_
        refine sq ?_
        refine reg ?_
        refine pRun_ok (tb := tab) (n := 41) tabOk 1 _ _ hf rfl rfl fun a hf => ?_
        refine wl_end ?_
        refine then_n ?_
        refine wp_ret (blk_r (then_r (then_r (blk_r (then_r (then_r (?_)))))))
        obtain rfl := Option.some.inj hR1
        replace hF := on_ret hF
        obtain rfl := Option.some.inj hF
        refine ret_1 (fn := Try.f121) (r := .tmp 4) hf rfl (rv_tmp hf rfl) ?_
        exact ⟨_, rfl, H.bel, mk_bool⟩
      · rw [if_neg (nt hc2)] at hR1
        have hf := hf.lit 17 rfl hc2
        refine tkPg (i := 4) (bs' := [true, true, true, true, true, false, false, false, false, false, false, false, false, false, false, false, false, false, false, false, false, false, false, false, false, false]) rfl rfl rfl rfl rfl (by decide) hf (by kernel_rfl) (fun _ => hS) (fun w => pOp_ok (tb := tab) tabOk hf rfl) rfl fun a hf => ?_
        refine tkSg (i := 5) (bs' := [true, true, true, true, true, true, false, false, false, false, false, false, false, false, false, false, false, false, false, false, false, false, false, false, false, false]) [] rfl rfl rfl rfl rfl (by decide) hf (by kernel_rfl) (by kernel_rfl) hS (fun w H => rq_loadB hf H TF.ls3 0 rfl rfl rfl) rfl fun a hf => ?_
        refine tkPg (i := 6) (bs' := [true, true, true, true, true, true, true, false, false, false, false, false, false, false, false, false, false, false, false, false, false, false, false, false, false, false]) rfl rfl rfl rfl rfl (by decide) hf (by kernel_rfl) (fun _ => hS) (fun w => pOp_ok (tb := tab) tabOk hf rfl) rfl fun a hf => ?_
        refine tkPg (i := 7) (bs' := [true, true, true, true, true, true, true, true, false, false, false, false, false, false, false, false, false, false, false, false, false, false, false, false, false, false]) rfl rfl rfl rfl rfl (by decide) hf (by kernel_rfl) (fun _ => hS) (fun w => pOp_ok (tb := tab) tabOk hf rfl) rfl fun a hf => ?_
        obtain ⟨y2, hy2, hR1⟩ := bind_some hR1
        refine on1g (i := 8) (bs' := [true, true, true, true, true, true, true, true, true, false, false, false, false, false, false, false, false, false, false, false, false, false, false, false, false, false]) (by kernel_rfl) rfl rfl rfl rfl hf rfl (op_call hf TF.cl98 rfl (by decide) (impl_within_ok (S := fun _ => True) mk_int mk_int mk_int hy2) fun v2 w a hp2 hf => ?_)
        obtain ⟨hb2, hp2⟩ := hp2
        obtain rfl := VR_bool hp2
        have H := H.keep hb2
        have hS : Mem ⟨w0, []⟩ S [⟨b', 88, [(.int .i64 e.After), (.int .i64 e.Gain), (.int .i64 e.Output), (.int .i64 e.Noise)]⟩] [] [] [(false, MP.cells ⟨p, o, none⟩ [(.int .i64 e.After), (.int .i64 e.Gain), (.int .i64 e.Output), (.int .i64 e.Noise)]), (false, MP.val [(.slice A list.length c)] (list : List Amplifier))] w := H.let [true] [] [] [0, 1]
        refine ⟨fun _ => hS, ?_⟩
        refine tkPg (i := 9) (bs' := [true, true, true, true, true, true, true, true, true, true, false, false, false, false, false, false, false, false, false, false, false, false, false, false, false, false]) rfl rfl rfl rfl rfl (by decide) hf (by kernel_rfl) (fun _ => hS) (fun w => pOp_ok (tb := tab) tabOk hf rfl) rfl fun a hf => ?_
        refine tkP (i := 10) (bs' := [true, true, true, true, true, true, true, true, true, true, true, false, false, false, false, false, false, false, false, false, false, false, false, false, false, false]) rfl rfl rfl (by decide) hf (by kernel_rfl) (fun _ => hS) (fun w => pOp_ok (tb := tab) tabOk hf rfl) rfl fun a hf => ?_
        refine tkP (i := 11) (bs' := [true, true, true, true, true, true, true, true, true, true, true, true, false, false, false, false, false, false, false, false, false, false, false, false, false, false]) rfl rfl rfl (by decide) hf (by kernel_rfl) (fun _ => hS) (fun w => pOp_ok (tb := tab) tabOk hf rfl) rfl fun a hf => ?_
        refine (Bool.eq_false_or_eq_true (!y2)).elim (fun hc3 => ?_) (fun hc3 => ?_)
        · rw [if_pos hc3] at hR1
          have hf := hf.lit 25 rfl hc3
          refine tkU (i := 12) (bs' := [true, true, true, true, true, true, true, true, true, true, true, true, true, false, false, false, false, false, false, false, false, false, false, false, false, false]) rfl rfl rfl rfl rfl rfl (by decide) hf (by kernel_rfl) (fun _ => hS) rfl fun a hf => ?_
          refine tkU (i := 13) (bs' := [true, true, true, true, true, true, true, true, true, true, true, true, true, true, false, false, false, false, false, false, false, false, false, false, false, false]) rfl rfl rfl rfl rfl rfl (by decide) hf (by kernel_rfl) (fun _ => hS) rfl fun a hf => ?_
          refine tkU (i := 14) (bs' := [true, true, true, true, true, true, true, true, true, true, true, true, true, true, true, false, false, false, false, false, false, false, false, false, false, false]) rfl rfl rfl rfl rfl rfl (by decide) hf (by kernel_rfl) (fun _ => hS) rfl fun a hf => ?_
          refine tkUU (i := 15) (bs' := [true, true, true, true, true, true, true, true, true, true, true, true, true, true, true, true, false, false, false, false, false, false, false, false, false, false]) rfl rfl rfl rfl rfl (by decide) hf (by kernel_rfl) (fun _ => hS) rfl fun a hf => ?_
          refine tkUU (i := 16) (bs' := [true, true, true, true, true, true, true, true, true, true, true, true, true, true, true, true, true, false, false, false, false, false, false, false, false, false]) rfl rfl rfl rfl rfl (by decide) hf (by kernel_rfl) (fun _ => hS) rfl fun a hf => ?_
          refine tkUU (i := 17) (bs' := [true, true, true, true, true, true, true, true, true, true, true, true, true, true, true, true, true, true, false, false, false, false, false, false, false, false]) rfl rfl rfl rfl rfl (by decide) hf (by kernel_rfl) (fun _ => hS) rfl fun a hf => ?_
          refine tkUU (i := 18) (bs' := [true, true, true, true, true, true, true, true, true, true, true, true, true, true, true, true, true, true, true, false, false, false, false, false, false, false]) rfl rfl rfl rfl rfl (by decide) hf (by kernel_rfl) (fun _ => hS) rfl fun a hf => ?_
          refine tkUU (i := 19) (bs' := [true, true, true, true, true, true, true, true, true, true, true, true, true, true, true, true, true, true, true, true, false, false, false, false, false, false]) rfl rfl rfl rfl rfl (by decide) hf (by kernel_rfl) (fun _ => hS) rfl fun a hf => ?_
          refine tkUU (i := 20) (bs' := [true, true, true, true, true, true, true, true, true, true, true, true, true, true, true, true, true, true, true, true, true, false, false, false, false, false]) rfl rfl rfl rfl rfl (by decide) hf (by kernel_rfl) (fun _ => hS) rfl fun a hf => ?_
          refine tkUU (i := 21) (bs' := [true, true, true, true, true, true, true, true, true, true, true, true, true, true, true, true, true, true, true, true, true, true, false, false, false, false]) rfl rfl rfl rfl rfl (by decide) hf (by kernel_rfl) (fun _ => hS) rfl fun a hf => ?_
          refine tkUU (i := 22) (bs' := [true, true, true, true, true, true, true, true, true, true, true, true, true, true, true, true, true, true, true, true, true, true, true, false, false, false]) rfl rfl rfl rfl rfl (by decide) hf (by kernel_rfl) (fun _ => hS) rfl fun a hf => ?_
          refine tkUU (i := 23) (bs' := [true, true, true, true, true, true, true, true, true, true, true, true, true, true, true, true, true, true, true, true, true, true, true, true, false, false]) rfl rfl rfl rfl rfl (by decide) hf (by kernel_rfl) (fun _ => hS) rfl fun a hf => ?_
          refine tkU (i := 24) (bs' := [true, true, true, true, true, true, true, true, true, true, true, true, true, true, true, true, true, true, true, true, true, true, true, true, true, false]) rfl rfl rfl rfl rfl rfl (by decide) hf (by kernel_rfl) (fun _ => hS) rfl fun a hf => ?_
          refine tkP (i := 25) (bs' := [true, true, true, true, true, true, true, true, true, true, true, true, true, true, true, true, true, true, true, true, true, true, true, true, true, true]) rfl rfl rfl (by decide) hf (by kernel_rfl) (fun _ => hS) (fun w => pOp_ok (tb := tab) tabOk hf rfl) rfl fun a hf => ?_
          refine dn (by kernel_rfl) ?_
          have hf := hf.prune [0, 1, 7, 8, 9, 18, 19, 20, 21, 22, 23, 39] rfl
          refine then_n ?_
          refine cd_t hf rfl rfl ?_
          refine sq ?_
          refine reg ?_
          refine pRun_ok (tb := tab) (n := 41) tabOk 1 _ _ hf rfl rfl fun a hf => ?_
          refine wl_end ?_
          refine then_n ?_
          refine wp_ret (blk_r (then_r (then_r (blk_r (then_r (then_r (?_)))))))
          obtain rfl := Option.some.inj hR1
          replace hF := on_ret hF
          obtain rfl := Option.some.inj hF
          refine ret_1 (fn := Try.f121) (r := .tmp 4) hf rfl (rv_tmp hf rfl) ?_
          exact ⟨_, rfl, H.bel, mk_bool⟩
        · rw [if_neg (nt hc3)] at hR1
          have hf := hf.lit 25 rfl hc3
          refine tkPg (i := 12) (bs' := [true, true, true, true, true, true, true, true, true, true, true, true, true, false, false, false, false, false, false, false, false, false, false, false, false, false]) rfl rfl rfl rfl rfl (by decide) hf (by kernel_rfl) (fun _ => hS) (fun w => pOp_ok (tb := tab) tabOk hf rfl) rfl fun a hf => ?_
          refine tkPg (i := 13) (bs' := [true, true, true, true, true, true, true, true, true, true, true, true, true, true, false, false, false, false, false, false, false, false, false, false, false, false]) rfl rfl rfl rfl rfl (by decide) hf (by kernel_rfl) (fun _ => hS) (fun w => pOp_ok (tb := tab) tabOk hf rfl) rfl fun a hf => ?_
          refine tkPg (i := 14) (bs' := [true, true, true, true, true, true, true, true, true, true, true, true, true, true, true, false, false, false, false, false, false, false, false, false, false, false]) rfl rfl rfl rfl rfl (by decide) hf (by kernel_rfl) (fun _ => hS) (fun w => pOp_ok (tb := tab) tabOk hf rfl) rfl fun a hf => ?_
          refine (Bool.eq_false_or_eq_true (decide (i > 0))).elim (fun hc4 => ?_) (fun hc4 => ?_)
          · rw [if_pos hc4] at hR1
            have hf := hf.lit 28 rfl hc4
            refine tkPg (i := 15) (bs' := [true, true, true, true, true, true, true, true, true, true, true, true, true, true, true, true, false, false, false, false, false, false, false, false, false, false]) rfl rfl rfl rfl rfl (by decide) hf (by kernel_rfl) (fun _ => hS) (fun w => pOp_ok (tb := tab) tabOk hf rfl) rfl fun a hf => ?_
            refine tkPg (i := 16) (bs' := [true, true, true, true, true, true, true, true, true, true, true, true, true, true, true, true, true, false, false, false, false, false, false, false, false, false]) rfl rfl rfl rfl rfl (by decide) hf (by kernel_rfl) (fun _ => hS) (fun w => pOp_ok (tb := tab) tabOk hf rfl) rfl fun a hf => ?_
            refine tkPg (i := 17) (bs' := [true, true, true, true, true, true, true, true, true, true, true, true, true, true, true, true, true, true, false, false, false, false, false, false, false, false]) rfl rfl rfl rfl rfl (by decide) hf (by kernel_rfl) (fun _ => hS) (fun w => pOp_ok (tb := tab) tabOk hf rfl) rfl fun a hf => ?_
            obtain ⟨e2, he2, hR1⟩ := bind_some hR1
            obtain ⟨p2, o2, cs2, hx, hr2, H⟩ := pre_iaddr H Try.underlying63 TF.sz88 1 rfl he2
            refine tkPg (i := 18) (bs' := [true, true, true, true, true, true, true, true, true, true, true, true, true, true, true, true, true, true, true, false, false, false, false, false, false, false]) rfl rfl rfl rfl rfl (by decide) hf (by kernel_rfl) (fun _ => hS) (fun w => rq_iaddrE hf rfl rfl rfl hx w) rfl fun a hf => ?_
            obtain rfl := Amplifier_cells hr2
            refine tkPg (i := 19) (bs' := [true, true, true, true, true, true, true, true, true, true, true, true, true, true, true, true, true, true, true, true, false, false, false, false, false, false]) rfl rfl rfl rfl rfl (by decide) hf (by kernel_rfl) (fun _ => hS) (fun w => pOp_ok (tb := tab) tabOk hf rfl) rfl fun a hf => ?_
            refine str (fun w => Mem ⟨w0, []⟩ S [⟨b', 88, [(.int .i64 e.After), (.int .i64 e.Gain), (.int .i64 e.Output), (.int .i64 e.Noise)]⟩] [] [] [(false, MP.cells ⟨p2, o2, none⟩ [(.int .i64 e2.After), (.int .i64 e2.Gain), (.int .i64 e2.Output), (.int .i64 e2.Noise)]), (false, MP.cells ⟨p, o, none⟩ [(.int .i64 e.After), (.int .i64 e.Gain), (.int .i64 e.Output), (.int .i64 e.Noise)]), (false, MP.val [(.slice A list.length c)] (list : List Amplifier))] w) (fun w H => H.let [true] [] [] [1, 2]) ?_
            have hS : Mem ⟨w0, []⟩ S [⟨b', 88, [(.int .i64 e.After), (.int .i64 e.Gain), (.int .i64 e.Output), (.int .i64 e.Noise)]⟩] [] [] [(false, MP.cells ⟨p2, o2, none⟩ [(.int .i64 e2.After), (.int .i64 e2.Gain), (.int .i64 e2.Output), (.int .i64 e2.Noise)]), (false, MP.cells ⟨p, o, none⟩ [(.int .i64 e.After), (.int .i64 e.Gain), (.int .i64 e.Output), (.int .i64 e.Noise)]), (false, MP.val [(.slice A list.length c)] (list : List Amplifier))] w := H.let [true] [] [] [0, 1, 2]
            refine tkSg (i := 20) (bs' := [true, true, true, true, true, true, true, true, true, true, true, true, true, true, true, true, true, true, true, true, true, false, false, false, false, false]) [] rfl rfl rfl rfl rfl (by decide) hf (by kernel_rfl) (by kernel_rfl) hS (fun w H => rq_loadI hf H TF.ls3 0 0 rfl rfl rfl) rfl fun a hf => ?_
            refine tkPg (i := 21) (bs' := [true, true, true, true, true, true, true, true, true, true, true, true, true, true, true, true, true, true, true, true, true, true, false, false, false, false]) rfl rfl rfl rfl rfl (by decide) hf (by kernel_rfl) (fun _ => hS) (fun w => pOp_ok (tb := tab) tabOk hf rfl) rfl fun a hf => ?_
            refine tkSg (i := 22) (bs' := [true, true, true, true, true, true, true, true, true, true, true, true, true, true, true, true, true, true, true, true, true, true, true, false, false, false]) [] rfl rfl rfl rfl rfl (by decide) hf (by kernel_rfl) (by kernel_rfl) hS (fun w H => rq_loadB hf H TF.ls3 0 rfl rfl rfl) rfl fun a hf => ?_
            refine tkPg (i := 23) (bs' := [true, true, true, true, true, true, true, true, true, true, true, true, true, true, true, true, true, true, true, true, true, true, true, true, false, false]) rfl rfl rfl rfl rfl (by decide) hf (by kernel_rfl) (fun _ => hS) (fun w => pOp_ok (tb := tab) tabOk hf rfl) rfl fun a hf => ?_
            refine tkPg (i := 24) (bs' := [true, true, true, true, true, true, true, true, true, true, true, true, true, true, true, true, true, true, true, true, true, true, true, true, true, false]) rfl rfl rfl rfl rfl (by decide) hf (by kernel_rfl) (fun _ => hS) (fun w => pOp_ok (tb := tab) tabOk hf rfl) rfl fun a hf => ?_
            refine tkP (i := 25) (bs' := [true, true, true, true, true, true, true, true, true, true, true, true, true, true, true, true, true, true, true, true, true, true, true, true, true, true]) rfl rfl rfl (by decide) hf (by kernel_rfl) (fun _ => hS) (fun w => pOp_ok (tb := tab) tabOk hf rfl) rfl fun a hf => ?_
            refine dn (by kernel_rfl) ?_
            refine then_n ?_
            refine (Bool.eq_false_or_eq_true (decide (e2.After ≥ e.After))).elim (fun hc5 => ?_) (fun hc5 => ?_)
            · rw [if_pos hc5] at hR1
              refine cd_t hf rfl hc5 ?_
              refine sq ?_
              refine reg ?_
              refine pRun_ok (tb := tab) (n := 41) tabOk 1 _ _ hf rfl rfl fun a hf => ?_
              have hf := hf.prune [4] rfl
              refine wl_end ?_
              refine then_n ?_
              refine wp_ret (blk_r (then_r (then_r (blk_r (then_r (then_r (?_)))))))
              obtain rfl := Option.some.inj hR1
              replace hF := on_ret hF
              obtain rfl := Option.some.inj hF
              refine ret_1 (fn := Try.f121) (r := .tmp 4) hf rfl (rv_tmp hf rfl) ?_
              exact ⟨_, rfl, H.bel, mk_bool⟩
            · rw [if_neg (nt hc5)] at hR1
              refine cd_f hf rfl hc5 ?_
              refine wp_skip ?_
              refine blk_n ?_
              refine then_n ?_
              refine reg ?_
              refine pRun_ok (tb := tab) (n := 41) tabOk 2 _ _ hf rfl rfl fun a hf => ?_
              have hf := hf.prune [0, 1, 7, 8, 9, 18, 19, 20, 21, 22, 23, 26, 27, 28, 29, 30, 31, 32, 33, 34, 35, 36, 37, 38] rfl
              refine wl_end ?_
              have hf := hf.prune [0, 1, 7, 8, 9] rfl
              have H := H.let [false] [] [] [2]
              exact then_n ⟨w64 (i + 1), hR1, hf, H⟩
          · rw [if_neg (nt hc4)] at hR1
            have hf := hf.lit 28 rfl hc4
            refine tkU (i := 15) (bs' := [true, true, true, true, true, true, true, true, true, true, true, true, true, true, true, true, false, false, false, false, false, false, false, false, false, false]) rfl rfl rfl rfl rfl rfl (by decide) hf (by kernel_rfl) (fun _ => hS) rfl fun a hf => ?_
            refine tkU (i := 16) (bs' := [true, true, true, true, true, true, true, true, true, true, true, true, true, true, true, true, true, false, false, false, false, false, false, false, false, false]) rfl rfl rfl rfl rfl rfl (by decide) hf (by kernel_rfl) (fun _ => hS) rfl fun a hf => ?_
            refine tkU (i := 17) (bs' := [true, true, true, true, true, true, true, true, true, true, true, true, true, true, true, true, true, true, false, false, false, false, false, false, false, false]) rfl rfl rfl rfl rfl rfl (by decide) hf (by kernel_rfl) (fun _ => hS) rfl fun a hf => ?_
            refine tkU (i := 18) (bs' := [true, true, true, true, true, true, true, true, true, true, true, true, true, true, true, true, true, true, true, false, false, false, false, false, false, false]) rfl rfl rfl rfl rfl rfl (by decide) hf (by kernel_rfl) (fun _ => hS) rfl fun a hf => ?_
            refine tkU (i := 19) (bs' := [true, true, true, true, true, true, true, true, true, true, true, true, true, true, true, true, true, true, true, true, false, false, false, false, false, false]) rfl rfl rfl rfl rfl rfl (by decide) hf (by kernel_rfl) (fun _ => hS) rfl fun a hf => ?_
            refine tkU (i := 20) (bs' := [true, true, true, true, true, true, true, true, true, true, true, true, true, true, true, true, true, true, true, true, true, false, false, false, false, false]) rfl rfl rfl rfl rfl rfl (by decide) hf (by kernel_rfl) (fun _ => hS) rfl fun a hf => ?_
            refine tkU (i := 21) (bs' := [true, true, true, true, true, true, true, true, true, true, true, true, true, true, true, true, true, true, true, true, true, true, false, false, false, false]) rfl rfl rfl rfl rfl rfl (by decide) hf (by kernel_rfl) (fun _ => hS) rfl fun a hf => ?_
            refine tkU (i := 22) (bs' := [true, true, true, true, true, true, true, true, true, true, true, true, true, true, true, true, true, true, true, true, true, true, true, false, false, false]) rfl rfl rfl rfl rfl rfl (by decide) hf (by kernel_rfl) (fun _ => hS) rfl fun a hf => ?_
            refine tkU (i := 23) (bs' := [true, true, true, true, true, true, true, true, true, true, true, true, true, true, true, true, true, true, true, true, true, true, true, true, false, false]) rfl rfl rfl rfl rfl rfl (by decide) hf (by kernel_rfl) (fun _ => hS) rfl fun a hf => ?_
            refine tkPg (i := 24) (bs' := [true, true, true, true, true, true, true, true, true, true, true, true, true, true, true, true, true, true, true, true, true, true, true, true, true, false]) rfl rfl rfl rfl rfl (by decide) hf (by kernel_rfl) (fun _ => hS) (fun w => pOp_ok (tb := tab) tabOk hf rfl) rfl fun a hf => ?_
            refine tkP (i := 25) (bs' := [true, true, true, true, true, true, true, true, true, true, true, true, true, true, true, true, true, true, true, true, true, true, true, true, true, true]) rfl rfl rfl (by decide) hf (by kernel_rfl) (fun _ => hS) (fun w => pOp_ok (tb := tab) tabOk hf rfl) rfl fun a hf => ?_
            refine dn (by kernel_rfl) ?_
            have hf := hf.prune [0, 1, 7, 8, 9, 18, 19, 20, 21, 22, 23, 26, 27, 28, 38, 39] rfl
            refine then_n ?_
            refine cd_f hf rfl rfl ?_
            refine wp_skip ?_
            refine blk_n ?_
            refine then_n ?_
            refine reg ?_
            refine pRun_ok (tb := tab) (n := 41) tabOk 2 _ _ hf rfl rfl fun a hf => ?_
            refine wl_end ?_
            have hf := hf.prune [0, 1, 7, 8, 9] rfl
            have H := H.let [false] [] [] [1]
            exact then_n ⟨w64 (i + 1), hR1, hf, H⟩
    · rw [if_neg (nt hc)] at hR1
      refine cd_f hf rfl hc ?_
      refine wp_exit (then_x (then_x (blk_e (?_))))
      have hf := hf.prune [0, 1, 7, 8, 9] rfl
      have H := H.let [] [] [] [0]
      exact ⟨i, (Option.some.inj hR1).symm, hf, H⟩
  rintro a w ⟨i2, rfl, hf, H⟩
  replace hF := on_next hF
  refine then_n ?_
  refine sq ?_
  refine reg ?_
  refine pRun_ok (tb := tab) (n := 41) tabOk 1 _ _ hf rfl rfl fun a hf => ?_
  refine wl_end ?_
  refine then_n ?_
  refine wp_ret (?_)
  obtain rfl := Option.some.inj hF
  refine ret_1 (fn := Try.f121) (r := .tmp 4) hf rfl (rv_tmp hf rfl) ?_
  exact ⟨_, rfl, H.bel, mk_bool⟩

/- loop.example/g00897/impl.NoiseSum -/
set_option maxHeartbeats 1000000 in
theorem impl_NoiseSum_ok {fu : Nat} {w0 : World} {S : Nat → Prop} {v0_ : Value} {list : List Amplifier} {r : Int × Bool} (h0 : VR w0 S v0_ list) (hF : impl_NoiseSum fu list = some r) :
    Calls Try.prog 57 [v0_].toArray w0 fun e w' => ∃ v, e = .returned v ∧ (Below w0.heap.size w0 w' ∧ ∃ u0 u1, v = .tuple #[u0, u1] ∧ VR w' (St ⟨w0, []⟩ S [] [] [] true) u0 r.1 ∧ VR w' (St ⟨w0, []⟩ S [] [] [] true) u1 r.2) := by
  obtain ⟨A, c, rfl, hl⟩ := VR_list h0
  have H := Mem.start ⟨w0, []⟩ S
  have H := H.pushArg (MP.val [(.slice A list.length c)] list) hl
  refine enter Try.func57 rfl rfl (nle rfl) rfl fun a hf => ?_
  rw [impl_NoiseSum] at hF
  refine sq ?_
  refine reg ?_
  refine pRun_ok (tb := tab) (n := 35) tabOk 2 _ _ hf rfl rfl fun a hf => ?_
  refine wl_end ?_
  refine then_n ?_
  refine sq ?_
  refine sq ?_
  obtain ⟨c2, hGc2, hF⟩ := bind_some hF
  refine mid (fun a w => Fr a 35 [(0, (.slice A list.length c)), (14, (.bool c2))] ∧ Mem ⟨w0, []⟩ S [] [] [] [(false, MP.val [(.slice A list.length c)] (list : List Amplifier))] w) ?_ ?_
  · refine reg ?_
    refine pRun_ok (tb := tab) (n := 35) tabOk 4 _ _ hf rfl rfl fun a hf => ?_
    refine (Bool.eq_false_or_eq_true ((list.length : Int) == 0)).elim (fun hc => ?_) (fun hc => ?_)
    · rw [if_pos hc] at hGc2
      have hf := hf.lit 10 rfl hc
      refine pRun_ok (tb := tab) (n := 35) tabOk 4 _ _ hf rfl rfl fun a hf => ?_
      obtain rfl := Option.some.inj hGc2
      have hf := hf.prune [0, 14] rfl
      have H := H.let [] [] [] [0]
      exact wl_end ⟨hf, H⟩
    · rw [if_neg (nt hc)] at hGc2
      have hf := hf.lit 10 rfl hc
      refine pRun_ok (tb := tab) (n := 35) tabOk 1 _ _ hf rfl rfl fun a hf => ?_
      obtain ⟨y, hy, hGc2⟩ := bind_some hGc2
      refine wlg hf rfl rfl rfl (op_call hf TF.cl121 rfl (by decide) (impl_areAmplifiers_ok (S := fun _ => True) (mk_list (rep_true (α := List Amplifier) (H.get 0 rfl))) mk_int hy) fun v w a hp hf => ?_)
      obtain ⟨hb, hp⟩ := hp
      obtain rfl := VR_bool hp
      have H := H.keep hb
      refine pRun_ok (tb := tab) (n := 35) tabOk 2 _ _ hf rfl rfl fun a hf => ?_
      obtain rfl := Option.some.inj hGc2
      have hf := hf.prune [0, 14] rfl
      have H := H.let [] [] [] [0]
      exact wl_end ⟨hf, H⟩
  rintro a w ⟨hf, H⟩
  refine then_n ?_
  refine (Bool.eq_false_or_eq_true (c2)).elim (fun hc2 => ?_) (fun hc2 => ?_)
  · rw [if_pos hc2] at hF
    refine cd_t hf rfl hc2 ?_
    refine sq ?_
    refine reg ?_
    refine pRun_ok (tb := tab) (n := 35) tabOk 2 _ _ hf rfl rfl fun a hf => ?_
    refine wl_end ?_
    refine then_n ?_
    refine wp_ret (then_r (?_))
    obtain rfl := Option.some.inj hF
    refine ret_2 (fn := Try.f57) (r := .tmp 2) (s := .tmp 3) hf rfl (rv_tmp hf rfl) (rv_tmp hf rfl) ?_
    exact ⟨_, rfl, H.bel, _, _, rfl, mk_int, mk_bool⟩
  · rw [if_neg (nt hc2)] at hF
    refine cd_f hf rfl hc2 ?_
    refine wp_skip ?_
    refine then_n ?_
    refine sq ?_
    refine reg ?_
    refine pRun_ok (tb := tab) (n := 35) tabOk 1 _ _ hf rfl rfl fun a hf => ?_
    refine wl_end ?_
    refine then_n ?_
    refine sq ?_
    refine sq ?_
    refine reg ?_
    refine pRun_ok (tb := tab) (n := 35) tabOk 3 _ _ hf rfl rfl fun a hf => ?_
    refine wl_end ?_
    refine then_n ?_
    obtain ⟨out', hB1, hF⟩ := bind_some hF
    have hf := hf.prune [4, 15, 16, 17] rfl
    have H := H.let [] [] [] [0]
    have hI : (fun (s : Int × Int) (a : Act) (w : World) => match s with | (sum, i) => Fr a 35 [(4, (.int .i64 sum)), (15, (.slice A list.length c)), (16, (.int .i64 (list.length : Int))), (17, (.int .i64 i))] ∧ Mem ⟨w0, []⟩ S [] [] [] [(false, MP.val [(.slice A list.length c)] (list : List Amplifier))] w) (0, 0) a w := ⟨hf, H⟩
    refine mid (fun a w => ∃ s : Int × Int, out' = Out.next s ∧ (fun (s : Int × Int) (a : Act) (w : World) => match s with | (sum, i) => Fr a 35 [(4, (.int .i64 sum)), (15, (.slice A list.length c)), (16, (.int .i64 (list.length : Int))), (17, (.int .i64 i))] ∧ Mem ⟨w0, []⟩ S [] [] [] [(false, MP.val [(.slice A list.length c)] (list : List Amplifier))] w) s a w) ?_ ?_
    · refine wp_block ?_
      refine loop_rule (fun k (s : Int × Int) => impl_NoiseSum_L1 fu list k s.1 s.2 = some out') (fun (s : Int × Int) (a : Act) (w : World) => match s with | (sum, i) => Fr a 35 [(4, (.int .i64 sum)), (15, (.slice A list.length c)), (16, (.int .i64 (list.length : Int))), (17, (.int .i64 i))] ∧ Mem ⟨w0, []⟩ S [] [] [] [(false, MP.val [(.slice A list.length c)] (list : List Amplifier))] w) (fun s h => by cases h) ?_ fu (0, 0) a w hB1 hI
      rintro fk ⟨sum, i⟩ a w hR1 hI
      replace hR1 : impl_NoiseSum_L1 fu list (fk + 1) sum i = some out' := hR1
      rw [impl_NoiseSum_L1] at hR1
      obtain ⟨hf, H⟩ := hI
      refine sq ?_
      refine reg ?_
      refine pRun_ok (tb := tab) (n := 35) tabOk 1 _ _ hf rfl rfl fun a hf => ?_
      refine wl_end ?_
      refine then_n ?_
      refine sq ?_
      refine (Bool.eq_false_or_eq_true (decide (i < (list.length : Int)))).elim (fun hc3 => ?_) (fun hc3 => ?_)
      · rw [if_pos hc3] at hR1
        refine cd_t hf rfl hc3 ?_
        refine wp_skip ?_
        refine then_n ?_
        refine sq ?_
        refine wp_block ?_
        refine sq ?_
        refine reg ?_
        obtain ⟨e, he, hR1⟩ := bind_some hR1
        refine wl0 rfl (op_iaddr hf H Try.underlying63 TF.sz88 0 rfl rfl rfl he (by decide) fun p o cs a hf hr H => ?_)
        obtain rfl := Amplifier_cells hr
        refine wl0 rfl (op_q hf (rq_loadIN hf H TF.la88 0 0 rfl rfl rfl rfl) rfl (by decide) fun a hf => ?_)
        refine wl0 rfl (op_alloc hf H TF.zv88 rfl (by decide) fun b' a w hf H => ?_)
        refine wl0 rfl (op_storeB hf H 0 TF.sz88 rfl rfl rfl rfl rfl rfl (nle rfl) fun w H => ?_)
        refine wl_end ?_
        refine then_n ?_
        refine sq ?_
        refine sq ?_
        refine reg ?_
        refine pRun_ok (tb := tab) (n := 35) tabOk 1 _ _ hf rfl rfl fun a hf => ?_
        refine wl0 rfl (op_q hf (rq_loadB hf H TF.ls3 0 rfl rfl rfl) rfl (by decide) fun a hf => ?_)
        obtain ⟨y2, hy2, hR1⟩ := bind_some hR1
        refine wl0 rfl (op_call hf TF.cl104 rfl (by decide) (impl_hasLinear_ok (S := fun _ => True) mk_int hy2) fun v2 w a hp2 hf => ?_)
        obtain ⟨hb2, hp2⟩ := hp2
        obtain rfl := VR_bool hp2
        have H := H.keep hb2
        refine pRun_ok (tb := tab) (n := 35) tabOk 1 _ _ hf rfl rfl fun a hf => ?_
        refine wl_end ?_
        refine then_n ?_
        refine (Bool.eq_false_or_eq_true (!y2)).elim (fun hc4 => ?_) (fun hc4 => ?_)
        · rw [if_pos hc4] at hR1
          refine cd_t hf rfl hc4 ?_
          refine sq ?_
          refine reg ?_
          refine pRun_ok (tb := tab) (n := 35) tabOk 2 _ _ hf rfl rfl fun a hf => ?_
          refine wl_end ?_
          refine then_n ?_
          refine wp_ret (then_r (blk_r (then_r (then_r (blk_r (then_r (then_r (?_))))))))
          obtain rfl := Option.some.inj hR1
          replace hF := on_ret hF
          obtain rfl := Option.some.inj hF
          refine ret_2 (fn := Try.f57) (r := .tmp 2) (s := .tmp 3) hf rfl (rv_tmp hf rfl) (rv_tmp hf rfl) ?_
          exact ⟨_, rfl, H.bel, _, _, rfl, mk_int, mk_bool⟩
        · rw [if_neg (nt hc4)] at hR1
          refine cd_f hf rfl hc4 ?_
          refine wp_skip ?_
          refine then_n ?_
          refine reg ?_
          refine pRun_ok (tb := tab) (n := 35) tabOk 2 _ _ hf rfl rfl fun a hf => ?_
          refine wl0 rfl (op_q hf (rq_loadB hf H TF.ls3 0 rfl rfl rfl) rfl (by decide) fun a hf => ?_)
          obtain ⟨y3, hy3, hR1⟩ := bind_some hR1
          refine wl0 rfl (op_call hf TF.cl105 rfl (by decide) (impl_linear_ok (S := fun _ => True) mk_int hy3) fun v3 w a hp3 hf => ?_)
          obtain ⟨hb3, hp3⟩ := hp3
          obtain rfl := VR_int hp3
          have H := H.keep hb3
          refine pRun_ok (tb := tab) (n := 35) tabOk 2 _ _ hf rfl rfl fun a hf => ?_
          have hf := hf.prune [4, 15, 16, 17] rfl
          refine wl_end ?_
          refine blk_n ?_
          refine then_n ?_
          refine reg ?_
          refine pRun_ok (tb := tab) (n := 35) tabOk 2 _ _ hf rfl rfl fun a hf => ?_
          refine wl_end ?_
          have hf := hf.prune [4, 15, 16, 17] rfl
          have H := H.let [false] [] [] [1]
          exact then_n ⟨(w64 (sum + y3), w64 (i + 1)), hR1, hf, H⟩
      · rw [if_neg (nt hc3)] at hR1
        refine cd_f hf rfl hc3 ?_
        refine wp_exit (then_x (then_x (blk_e (?_))))
        have hf := hf.prune [4, 15, 16, 17] rfl
        have H := H.let [] [] [] [0]
        exact ⟨(sum, i), (Option.some.inj hR1).symm, hf, H⟩
    rintro a w ⟨⟨sum2, i2⟩, rfl, hf, H⟩
    replace hF := on_next hF
    dsimp only at hF
    refine then_n ?_
    refine sq ?_
    refine reg ?_
    refine pRun_ok (tb := tab) (n := 35) tabOk 1 _ _ hf rfl rfl fun a hf => ?_
    obtain ⟨y4, hy4, hF⟩ := bind_some hF
    refine wl0 rfl (op_call hf TF.cl34 rfl (by decide) (impl_LevelOf_ok (S := fun _ => True) mk_int hy4) fun v4 w a hp4 hf => ?_)
    obtain ⟨hb4, v5, v6, rfl, hp5, hp6⟩ := hp4
    obtain rfl := VR_int hp5
    obtain rfl := VR_bool hp6
    have H := H.keep hb4
    refine pRun_ok (tb := tab) (n := 35) tabOk 4 _ _ hf rfl rfl fun a hf => ?_
    refine wl_end ?_
    refine then_n ?_
    refine wp_ret (?_)
    obtain rfl := Option.some.inj hF
    refine ret_2 (fn := Try.f57) (r := .tmp 2) (s := .tmp 3) hf rfl (rv_tmp hf rfl) (rv_tmp hf rfl) ?_
    exact ⟨_, rfl, H.bel, _, _, rfl, mk_int, mk_bool⟩

/- loop.example/g00897/spec.l22Level -/
set_option maxHeartbeats 1000000 in
theorem spec_l22Level_ok {fu : Nat} {w0 : World} {S : Nat → Prop} {v0_ : Value} {x1 : Int} {r : Bool} (h0 : VR w0 S v0_ x1) (hF : spec_l22Level fu x1 = some r) :
    Calls Try.prog 106 [v0_].toArray w0 fun e w' => ∃ v, e = .returned v ∧ (Below w0.heap.size w0 w' ∧ VR w' (St ⟨w0, []⟩ S [] [] [] true) v r) := by
  obtain rfl := VR_int h0
  have H := Mem.start ⟨w0, []⟩ S
  refine enter Try.func106 rfl rfl (nle rfl) rfl fun a hf => ?_
  rw [spec_l22Level] at hF
  refine sq ?_
  refine reg ?_
  refine pRun_ok (tb := tab) (n := 5) tabOk 1 _ _ hf rfl rfl fun a hf => ?_
  refine wl_end ?_
  refine then_n ?_
  refine sq ?_
  refine reg ?_
  refine pRun_ok (tb := tab) (n := 5) tabOk 1 _ _ hf rfl rfl fun a hf => ?_
  obtain ⟨y, hy, hF⟩ := bind_some hF
  refine wl0 rfl (op_call hf TF.cl97 rfl (by decide) (spec_l1In_ok (S := fun _ => True) mk_int mk_int mk_int hy) fun v w a hp hf => ?_)
  obtain ⟨hb, hp⟩ := hp
  obtain rfl := VR_bool hp
  have H := H.keep hb
  refine pRun_ok (tb := tab) (n := 5) tabOk 1 _ _ hf rfl rfl fun a hf => ?_
  refine wl_end ?_
  refine then_n ?_
  refine wp_ret (?_)
  obtain rfl := Option.some.inj hF
  refine ret_1 (fn := Try.f106) (r := .tmp 2) hf rfl (rv_tmp hf rfl) ?_
  exact ⟨_, rfl, H.bel, mk_bool⟩

/- loop.example/g00897/spec.l22Kind -/
set_option maxHeartbeats 1000000 in
theorem spec_l22Kind_ok {fu : Nat} {w0 : World} {S : Nat → Prop} {v0_ : Value} {a' : Amplifier} {r : Bool} (h0 : VR w0 S v0_ a') (hF : spec_l22Kind fu a' = some r) :
    Calls Try.prog 139 [v0_].toArray w0 fun e w' => ∃ v, e = .returned v ∧ (Below w0.heap.size w0 w' ∧ VR w' (St ⟨w0, []⟩ S [] [] [] true) v r) := by
  obtain rfl := Amplifier_open h0
  have H := Mem.start ⟨w0, []⟩ S
  refine enter Try.func139 rfl rfl (nle rfl) rfl fun a hf => ?_
  rw [spec_l22Kind] at hF
  refine sq ?_
  refine reg ?_
  refine wl0 rfl (op_box hf H rfl rfl (by decide) fun b' a w hf H => ?_)
  refine pRun_ok (tb := tab) (n := 16) tabOk 1 _ _ hf rfl rfl fun a hf => ?_
  refine wl_end ?_
  refine then_n ?_
  refine sq ?_
  obtain ⟨c, hGc, hF⟩ := bind_some hF
  refine mid (fun a w => Fr a 16 [(2, (.bool c))] ∧ Mem ⟨w0, []⟩ S [] [] [] [] w) ?_ ?_
  · refine reg ?_
    refine pRun_ok (tb := tab) (n := 16) tabOk 1 _ _ hf rfl rfl fun a hf => ?_
    refine wl0 rfl (op_q hf (rq_loadB hf H TF.ls3 0 rfl rfl rfl) rfl (by decide) fun a hf => ?_)
    obtain ⟨y, hy, hGc⟩ := bind_some hGc
    refine wl0 rfl (op_call hf TF.cl97 rfl (by decide) (spec_l1In_ok (S := fun _ => True) mk_int mk_int mk_int hy) fun v w a hp hf => ?_)
    obtain ⟨hb, hp⟩ := hp
    obtain rfl := VR_bool hp
    have H := H.keep hb
    refine pRun_ok (tb := tab) (n := 16) tabOk 1 _ _ hf rfl rfl fun a hf => ?_
    refine (Bool.eq_false_or_eq_true (y)).elim (fun hc => ?_) (fun hc => ?_)
    · rw [if_pos hc] at hGc
      have hf := hf.lit 6 rfl hc
      refine pRun_ok (tb := tab) (n := 16) tabOk 1 _ _ hf rfl rfl fun a hf => ?_
      refine wlg hf rfl rfl rfl (op_q hf (rq_loadB hf H TF.ls3 0 rfl rfl rfl) rfl (by decide) fun a hf => ?_)
      obtain ⟨y2, hy2, hGc⟩ := bind_some hGc
      refine wlg hf rfl rfl rfl (op_call hf TF.cl106 rfl (by decide) (spec_l22Level_ok (S := fun _ => True) mk_int hy2) fun v2 w a hp2 hf => ?_)
      obtain ⟨hb2, hp2⟩ := hp2
      obtain rfl := VR_bool hp2
      have H := H.keep hb2
      refine pRun_ok (tb := tab) (n := 16) tabOk 2 _ _ hf rfl rfl fun a hf => ?_
      refine (Bool.eq_false_or_eq_true (y2)).elim (fun hc2 => ?_) (fun hc2 => ?_)
      · rw [if_pos hc2] at hGc
        have hf := hf.lit 11 rfl hc2
        refine pRun_ok (tb := tab) (n := 16) tabOk 1 _ _ hf rfl rfl fun a hf => ?_
        refine wlg hf rfl rfl rfl (op_q hf (rq_loadB hf H TF.ls3 0 rfl rfl rfl) rfl (by decide) fun a hf => ?_)
        obtain ⟨y3, hy3, hGc⟩ := bind_some hGc
        refine wlg hf rfl rfl rfl (op_call hf TF.cl97 rfl (by decide) (spec_l1In_ok (S := fun _ => True) mk_int mk_int mk_int hy3) fun v3 w a hp3 hf => ?_)
        obtain ⟨hb3, hp3⟩ := hp3
        obtain rfl := VR_bool hp3
        have H := H.keep hb3
        refine pRun_ok (tb := tab) (n := 16) tabOk 2 _ _ hf rfl rfl fun a hf => ?_
        obtain rfl := Option.some.inj hGc
        have hf := hf.prune [2] rfl
        have H := H.let [false] [] [] []
        exact wl_end ⟨hf, H⟩
      · rw [if_neg (nt hc2)] at hGc
        have hf := hf.lit 11 rfl hc2
        refine pRun_ok (tb := tab) (n := 16) tabOk 5 _ _ hf rfl rfl fun a hf => ?_
        obtain rfl := Option.some.inj hGc
        have hf := hf.prune [2] rfl
        have H := H.let [false] [] [] []
        exact wl_end ⟨hf, H⟩
    · rw [if_neg (nt hc)] at hGc
      have hf := hf.lit 6 rfl hc
      refine pRun_ok (tb := tab) (n := 16) tabOk 10 _ _ hf rfl rfl fun a hf => ?_
      obtain rfl := Option.some.inj hGc
      have hf := hf.prune [2] rfl
      have H := H.let [false] [] [] []
      exact wl_end ⟨hf, H⟩
  rintro a w ⟨hf, H⟩
  refine then_n ?_
  refine wp_ret (?_)
  obtain rfl := Option.some.inj hF
  refine ret_1 (fn := Try.f139) (r := .tmp 2) hf rfl (rv_tmp hf rfl) ?_
  exact ⟨_, rfl, H.bel, mk_bool⟩

/- loop.example/g00897/spec.l22List -/
set_option maxHeartbeats 1000000 in
theorem spec_l22List_ok {fu : Nat} {w0 : World} {S : Nat → Prop} {v0_ : Value} {v1_ : Value} {list : List Amplifier} {spans : Int} {r : Bool} (h0 : VR w0 S v0_ list) (h1 : VR w0 S v1_ spans) (hF : spec_l22List fu list spans = some r) :
    Calls Try.prog 120 [v0_, v1_].toArray w0 fun e w' => ∃ v, e = .returned v ∧ (Below w0.heap.size w0 w' ∧ VR w' (St ⟨w0, []⟩ S [] [] [] true) v r) := by
  obtain ⟨A, c, rfl, hl⟩ := VR_list h0
  obtain rfl := VR_int h1
  have H := Mem.start ⟨w0, []⟩ S
  have H := H.pushArg (MP.val [(.slice A list.length c)] list) hl
  refine enter Try.func120 rfl rfl (nle rfl) rfl fun a hf => ?_
  rw [spec_l22List] at hF
  refine sq ?_
  refine reg ?_
  refine pRun_ok (tb := tab) (n := 47) tabOk 1 _ _ hf rfl rfl fun a hf => ?_
  refine wl_end ?_
  refine then_n ?_
  refine sq ?_
  refine sq ?_
  refine reg ?_
  refine pRun_ok (tb := tab) (n := 47) tabOk 1 _ _ hf rfl rfl fun a hf => ?_
  refine wl_end ?_
  refine then_n ?_
  obtain ⟨out', hB1, hF⟩ := bind_some hF
  have hf := hf.prune [0, 1, 5] rfl
  have H := H.let [] [] [] [0]
  have hI : (fun (s : Int) (a : Act) (w : World) => match s with | i => Fr a 47 [(0, (.slice A list.length c)), (1, (.int .i64 spans)), (5, (.int .i64 i))] ∧ Mem ⟨w0, []⟩ S [] [] [] [(false, MP.val [(.slice A list.length c)] (list : List Amplifier))] w) 0 a w0 := ⟨hf, H⟩
  refine mid (fun a w => ∃ s : Int, out' = Out.next s ∧ (fun (s : Int) (a : Act) (w : World) => match s with | i => Fr a 47 [(0, (.slice A list.length c)), (1, (.int .i64 spans)), (5, (.int .i64 i))] ∧ Mem ⟨w0, []⟩ S [] [] [] [(false, MP.val [(.slice A list.length c)] (list : List Amplifier))] w) s a w) ?_ ?_
  · refine wp_block ?_
    refine loop_rule (fun k (s : Int) => spec_l22List_L1 fu list spans k s = some out') (fun (s : Int) (a : Act) (w : World) => match s with | i => Fr a 47 [(0, (.slice A list.length c)), (1, (.int .i64 spans)), (5, (.int .i64 i))] ∧ Mem ⟨w0, []⟩ S [] [] [] [(false, MP.val [(.slice A list.length c)] (list : List Amplifier))] w) (fun s h => by cases h) ?_ fu 0 a w0 hB1 hI
    rintro fk i a w hR1 hI
    replace hR1 : spec_l22List_L1 fu list spans (fk + 1) i = some out' := hR1
    rw [spec_l22List_L1] at hR1
    obtain ⟨hf, H⟩ := hI
    refine sq ?_
    refine sq ?_
    refine reg ?_
    refine pRun_ok (tb := tab) (n := 47) tabOk 4 _ _ hf rfl rfl fun a hf => ?_
    refine wl_end ?_
    refine then_n ?_
    refine (Bool.eq_false_or_eq_true (decide (i < (list.length : Int)))).elim (fun hc => ?_) (fun hc => ?_)
    · rw [if_pos hc] at hR1
      refine cd_t hf rfl hc ?_
      refine wp_skip ?_
      refine then_n ?_
      refine sq ?_
      refine wp_block ?_
      refine sq ?_
      refine drawn [] (bs := [false, false, false, false, false, false, false, false, false, false, false, false, false, false, false, false, false, false, false, false, false, false, false, false, false, false, false, false, false, false, false, false, false, false, false]) (fuel := 35) (Checked.mixed Try.checked) rfl rfl fun w hb => ?_
      have H := H.keep hb
      refine tkP (i := 0) (bs' := [true, false, false, false, false, false, false, false, false, false, false, false, false, false, false, false, false, false, false, false, false, false, false, false, false, false, false, false, false, false, false, false, false, false, false]) rfl rfl rfl (by decide) hf (by kernel_rfl) (fun _ => trivial) (fun w => pOp_ok (tb := tab) tabOk hf rfl) rfl fun a hf => ?_
      refine tkP (i := 1) (bs' := [true, true, false, false, false, false, false, false, false, false, false, false, false, false, false, false, false, false, false, false, false, false, false, false, false, false, false, false, false, false, false, false, false, false, false]) rfl rfl rfl (by decide) hf (by kernel_rfl) (fun _ => trivial) (fun w => pOp_ok (tb := tab) tabOk hf rfl) rfl fun a hf => ?_
      obtain ⟨e, he, hR1⟩ := bind_some hR1
      obtain ⟨p, o, cs, hx, hr, H⟩ := pre_iaddr H Try.underlying63 TF.sz88 0 rfl he
      refine tkP (i := 2) (bs' := [true, true, true, false, false, false, false, false, false, false, false, false, false, false, false, false, false, false, false, false, false, false, false, false, false, false, false, false, false, false, false, false, false, false, false]) rfl rfl rfl (by decide) hf (by kernel_rfl) (fun _ => trivial) (fun w => rq_iaddrE hf rfl rfl rfl hx w) rfl fun a hf => ?_
      obtain rfl := Amplifier_cells hr
      refine str (fun w => Mem ⟨w0, []⟩ S [] [] [] [(false, MP.cells ⟨p, o, none⟩ [(.int .i64 e.After), (.int .i64 e.Gain), (.int .i64 e.Output), (.int .i64 e.Noise)]), (false, MP.val [(.slice A list.length c)] (list : List Amplifier))] w) (fun w H => trivial) ?_
      have hS : Mem ⟨w0, []⟩ S [] [] [] [(false, MP.cells ⟨p, o, none⟩ [(.int .i64 e.After), (.int .i64 e.Gain), (.int .i64 e.Output), (.int .i64 e.Noise)]), (false, MP.val [(.slice A list.length c)] (list : List Amplifier))] w := H.let [] [] [] [0, 1]
      refine tkS (i := 3) (bs' := [true, true, true, true, false, false, false, false, false, false, false, false, false, false, false, false, false, false, false, false, false, false, false, false, false, false, false, false, false, false, false, false, false, false, false]) [] rfl rfl rfl (by decide) hf (by kernel_rfl) (by kernel_rfl) hS (fun w H => rq_loadIN hf H TF.la88 0 0 rfl rfl rfl rfl) rfl fun a hf => ?_
      obtain ⟨y, hy, hR1⟩ := bind_some hR1
      refine on1 (i := 4) (bs' := [true, true, true, true, true, false, false, false, false, false, false, false, false, false, false, false, false, false, false, false, false, false, false, false, false, false, false, false, false, false, false, false, false, false, false]) (by kernel_rfl) rfl rfl rfl (op_call hf TF.cl139 rfl (by decide) (spec_l22Kind_ok (S := fun _ => True) Amplifier_mkv hy) fun v w a hp hf => ?_)
      obtain ⟨hb, hp⟩ := hp
      obtain rfl := VR_bool hp
      have H := H.keep hb
      have hS : Mem ⟨w0, []⟩ S [] [] [] [(false, MP.cells ⟨p, o, none⟩ [(.int .i64 e.After), (.int .i64 e.Gain), (.int .i64 e.Output), (.int .i64 e.Noise)]), (false, MP.val [(.slice A list.length c)] (list : List Amplifier))] w := H.let [] [] [] [0, 1]
      refine ⟨fun _ => hS, ?_⟩
      refine tkP (i := 5) (bs' := [true, true, true, true, true, true, false, false, false, false, false, false, false, false, false, false, false, false, false, false, false, false, false, false, false, false, false, false, false, false, false, false, false, false, false]) rfl rfl rfl (by decide) hf (by kernel_rfl) (fun _ => hS) (fun w => pOp_ok (tb := tab) tabOk hf rfl) rfl fun a hf => ?_
      refine tkP (i := 6) (bs' := [true, true, true, true, true, true, true, false, false, false, false, false, false, false, false, false, false, false, false, false, false, false, false, false, false, false, false, false, false, false, false, false, false, false, false]) rfl rfl rfl (by decide) hf (by kernel_rfl) (fun _ => hS) (fun w => pOp_ok (tb := tab) tabOk hf rfl) rfl fun a hf => ?_
      refine (Bool.eq_false_or_eq_true (!y)).elim (fun hc2 => ?_) (fun hc2 => ?_)
      · rw [if_pos hc2] at hR1
        have hf := hf.lit 18 rfl hc2
        refine tkU (i := 7) (bs' := [true, true, true, true, true, true, true, true, false, false, false, false, false, false, false, false, false, false, false, false, false, false, false, false, false, false, false, false, false, false, false, false, false, false, false]) rfl rfl rfl rfl rfl rfl (by decide) hf (by kernel_rfl) (fun _ => hS) rfl fun a hf => ?_
        refine tkU (i := 8) (bs' := [true, true, true, true, true, true, true, true, true, false, false, false, false, false, false, false, false, false, false, false, false, false, false, false, false, false, false, false, false, false, false, false, false, false, false]) rfl rfl rfl rfl rfl rfl (by decide) hf (by kernel_rfl) (fun _ => hS) rfl fun a hf => ?_
        refine tkU (i := 9) (bs' := [true, true, true, true, true, true, true, true, true, true, false, false, false, false, false, false, false, false, false, false, false, false, false, false, false, false, false, false, false, false, false, false, false, false, false]) rfl rfl rfl rfl rfl rfl (by decide) hf (by kernel_rfl) (fun _ => hS) rfl fun a hf => ?_
        refine tkU (i := 10) (bs' := [true, true, true, true, true, true, true, true, true, true, true, false, false, false, false, false, false, false, false, false, false, false, false, false, false, false, false, false, false, false, false, false, false, false, false]) rfl rfl rfl rfl rfl rfl (by decide) hf (by kernel_rfl) (fun _ => hS) rfl fun a hf => ?_
        refine tkU (i := 11) (bs' := [true, true, true, true, true, true, true, true, true, true, true, true, false, false, false, false, false, false, false, false, false, false, false, false, false, false, false, false, false, false, false, false, false, false, false]) rfl rfl rfl rfl rfl rfl (by decide) hf (by kernel_rfl) (fun _ => hS) rfl fun a hf => ?_
        refine tkU (i := 12) (bs' := [true, true, true, true, true, true, true, true, true, true, true, true, true, false, false, false, false, false, false, false, false, false, false, false, false, false, false, false, false, false, false, false, false, false, false]) rfl rfl rfl rfl rfl rfl (by decide) hf (by kernel_rfl) (fun _ => hS) rfl fun a hf => ?_
        refine tkU (i := 13) (bs' := [true, true, true, true, true, true, true, true, true, true, true, true, true, true, false, false, false, false, false, false, false, false, false, false, false, false, false, false, false, false, false, false, false, false, false]) rfl rfl rfl rfl rfl rfl (by decide) hf (by kernel_rfl) (fun _ => hS) rfl fun a hf => ?_
        refine tkU (i := 14) (bs' := [true, true, true, true, true, true, true, true, true, true, true, true, true, true, true, false, false, false, false, false, false, false, false, false, false, false, false, false, false, false, false, false, false, false, false]) rfl rfl rfl rfl rfl rfl (by decide) hf (by kernel_rfl) (fun _ => hS) rfl fun a hf => ?_
        refine tkU (i := 15) (bs' := [true, true, true, true, true, true, true, true, true, true, true, true, true, true, true, true, false, false, false, false, false, false, false, false, false, false, false, false, false, false, false, false, false, false, false]) rfl rfl rfl rfl rfl rfl (by decide) hf (by kernel_rfl) (fun _ => hS) rfl fun a hf => ?_
        refine tkP (i := 16) (bs' := [true, true, true, true, true, true, true, true, true, true, true, true, true, true, true, true, true, false, false, false, false, false, false, false, false, false, false, false, false, false, false, false, false, false, false]) rfl rfl rfl (by decide) hf (by kernel_rfl) (fun _ => hS) (fun w => pOp_ok (tb := tab) tabOk hf rfl) rfl fun a hf => ?_
        refine tkP (i := 17) (bs' := [true, true, true, true, true, true, true, true, true, true, true, true, true, true, true, true, true, true, false, false, false, false, false, false, false, false, false, false, false, false, false, false, false, false, false]) rfl rfl rfl (by decide) hf (by kernel_rfl) (fun _ => hS) (fun w => pOp_ok (tb := tab) tabOk hf rfl) rfl fun a hf => ?_
        refine tkU (i := 18) (bs' := [true, true, true, true, true, true, true, true, true, true, true, true, true, true, true, true, true, true, true, false, false, false, false, false, false, false, false, false, false, false, false, false, false, false, false]) rfl rfl rfl rfl rfl rfl (by decide) hf (by kernel_rfl) (fun _ => hS) rfl fun a hf => ?_
        refine tkU (i := 19) (bs' := [true, true, true, true, true, true, true, true, true, true, true, true, true, true, true, true, true, true, true, true, false, false, false, false, false, false, false, false, false, false, false, false, false, false, false]) rfl rfl rfl rfl rfl rfl (by decide) hf (by kernel_rfl) (fun _ => hS) rfl fun a hf => ?_
        refine tkU (i := 20) (bs' := [true, true, true, true, true, true, true, true, true, true, true, true, true, true, true, true, true, true, true, true, true, false, false, false, false, false, false, false, false, false, false, false, false, false, false]) rfl rfl rfl rfl rfl rfl (by decide) hf (by kernel_rfl) (fun _ => hS) rfl fun a hf => ?_
        refine tkUU (i := 21) (bs' := [true, true, true, true, true, true, true, true, true, true, true, true, true, true, true, true, true, true, true, true, true, true, false, false, false, false, false, false, false, false, false, false, false, false, false]) rfl rfl rfl rfl rfl (by decide) hf (by kernel_rfl) (fun _ => hS) rfl fun a hf => ?_
        refine tkUU (i := 22) (bs' := [true, true, true, true, true, true, true, true, true, true, true, true, true, true, true, true, true, true, true, true, true, true, true, false, false, false, false, false, false, false, false, false, false, false, false]) rfl rfl rfl rfl rfl (by decide) hf (by kernel_rfl) (fun _ => hS) rfl fun a hf => ?_
        refine tkUU (i := 23) (bs' := [true, true, true, true, true, true, true, true, true, true, true, true, true, true, true, true, true, true, true, true, true, true, true, true, false, false, false, false, false, false, false, false, false, false, false]) rfl rfl rfl rfl rfl (by decide) hf (by kernel_rfl) (fun _ => hS) rfl fun a hf => ?_
        refine tkUU (i := 24) (bs' := [true, true, true, true, true, true, true, true, true, true, true, true, true, true, true, true, true, true, true, true, true, true, true, true, true, false, false, false, false, false, false, false, false, false, false]) rfl rfl rfl rfl rfl (by decide) hf (by kernel_rfl) (fun _ => hS) rfl fun a hf => ?_
        refine tkUU (i := 25) (bs' := [true, true, true, true, true, true, true, true, true, true, true, true, true, true, true, true, true, true, true, true, true, true, true, true, true, true, false, false, false, false, false, false, false, false, false]) rfl rfl rfl rfl rfl (by decide) hf (by kernel_rfl) (fun _ => hS) rfl fun a hf => ?_
        refine tkUU (i := 26) (bs' := [true, true, true, true, true, true, true, true, true, true, true, true, true, true, true, true, true, true, true, true, true, true, true, true, true, true, true, false, false, false, false, false, false, false, false]) rfl rfl rfl rfl rfl (by decide) hf (by kernel_rfl) (fun _ => hS) rfl fun a hf => ?_
        refine tkUU (i := 27) (bs' := [true, true, true, true, true, true, true, true, true, true, true, true, true, true, true, true, true, true, true, true, true, true, true, true, true, true, true, true, false, false, false, false, false, false, false]) rfl rfl rfl rfl rfl (by decide) hf (by kernel_rfl) (fun _ => hS) rfl fun a hf => ?_
        refine tkUU (i := 28) (bs' := [true, true, true, true, true, true, true, true, true, true, true, true, true, true, true, true, true, true, true, true, true, true, true, true, true, true, true, true, true, false, false, false, false, false, false]) rfl rfl rfl rfl rfl (by decide) hf (by kernel_rfl) (fun _ => hS) rfl fun a hf => ?_
        refine tkUU (i := 29) (bs' := [true, true, true, true, true, true, true, true, true, true, true, true, true, true, true, true, true, true, true, true, true, true, true, true, true, true, true, true, true, true, false, false, false, false, false]) rfl rfl rfl rfl rfl (by decide) hf (by kernel_rfl) (fun _ => hS) rfl fun a hf => ?_
        refine tkUU (i := 30) (bs' := [true, true, true, true, true, true, true, true, true, true, true, true, true, true, true, true, true, true, true, true, true, true, true, true, true, true, true, true, true, true, true, false, false, false, false]) rfl rfl rfl rfl rfl (by decide) hf (by kernel_rfl) (fun _ => hS) rfl fun a hf => ?_
        refine tkUU (i := 31) (bs' := [true, true, true, true, true, true, true, true, true, true, true, true, true, true, true, true, true, true, true, true, true, true, true, true, true, true, true, true, true, true, true, true, false, false, false]) rfl rfl rfl rfl rfl (by decide) hf (by kernel_rfl) (fun _ => hS) rfl fun a hf => ?_
        refine tkUU (i := 32) (bs' := [true, true, true, true, true, true, true, true, true, true, true, true, true, true, true, true, true, true, true, true, true, true, true, true, true, true, true, true, true, true, true, true, true, false, false]) rfl rfl rfl rfl rfl (by decide) hf (by kernel_rfl) (fun _ => hS) rfl fun a hf => ?_
        refine tkU (i := 33) (bs' := [true, true, true, true, true, true, true, true, true, true, true, true, true, true, true, true, true, true, true, true, true, true, true, true, true, true, true, true, true, true, true, true, true, true, false]) rfl rfl rfl rfl rfl rfl (by decide) hf (by kernel_rfl) (fun _ => hS) rfl fun a hf => ?_
        refine tkP (i := 34) (bs' := [true, true, true, true, true, true, true, true, true, true, true, true, true, true, true, true, true, true, true, true, true, true, true, true, true, true, true, true, true, true, true, true, true, true, true]) rfl rfl rfl (by decide) hf (by kernel_rfl) (fun _ => hS) (fun w => pOp_ok (tb := tab) tabOk hf rfl) rfl fun a hf => ?_
        refine dn (by kernel_rfl) ?_
        have hf := hf.prune [0, 1, 5, 46] rfl
        refine then_n ?_
        refine cd_t hf rfl rfl ?_
        refine sq ?_
        refine reg ?_
        refine pRun_ok (tb := tab) (n := 47) tabOk 1 _ _ hf rfl rfl fun a hf => ?_
        refine wl_end ?_
        refine then_n ?_
        refine wp_ret (blk_r (then_r (then_r (blk_r (then_r (then_r (?_)))))))
        obtain rfl := Option.some.inj hR1
        replace hF := on_ret hF
        obtain rfl := Option.some.inj hF
        refine ret_1 (fn := Try.f120) (r := .tmp 4) hf rfl (rv_tmp hf rfl) ?_
        exact ⟨_, rfl, H.bel, mk_bool⟩
      · rw [if_neg (nt hc2)] at hR1
        have hf := hf.lit 18 rfl hc2
        refine tkPg (i := 7) (bs' := [true, true, true, true, true, true, true, true, false, false, false, false, false, false, false, false, false, false, false, false, false, false, false, false, false, false, false, false, false, false, false, false, false, false, false]) rfl rfl rfl rfl rfl (by decide) hf (by kernel_rfl) (fun _ => hS) (fun w => pOp_ok (tb := tab) tabOk hf rfl) rfl fun a hf => ?_
        refine tkPg (i := 8) (bs' := [true, true, true, true, true, true, true, true, true, false, false, false, false, false, false, false, false, false, false, false, false, false, false, false, false, false, false, false, false, false, false, false, false, false, false]) rfl rfl rfl rfl rfl (by decide) hf (by kernel_rfl) (fun _ => hS) (fun w => pOp_ok (tb := tab) tabOk hf rfl) rfl fun a hf => ?_
        obtain ⟨e2, he2, hR1⟩ := bind_some hR1
        obtain ⟨p2, o2, cs2, hx2, hr2, H⟩ := pre_iaddr H Try.underlying63 TF.sz88 1 rfl he2
        refine tkPg (i := 9) (bs' := [true, true, true, true, true, true, true, true, true, true, false, false, false, false, false, false, false, false, false, false, false, false, false, false, false, false, false, false, false, false, false, false, false, false, false]) rfl rfl rfl rfl rfl (by decide) hf (by kernel_rfl) (fun _ => hS) (fun w => rq_iaddrE hf rfl rfl rfl hx2 w) rfl fun a hf => ?_
        obtain rfl := Amplifier_cells hr2
        refine tkPg (i := 10) (bs' := [true, true, true, true, true, true, true, true, true, true, true, false, false, false, false, false, false, false, false, false, false, false, false, false, false, false, false, false, false, false, false, false, false, false, false]) rfl rfl rfl rfl rfl (by decide) hf (by kernel_rfl) (fun _ => hS) (fun w => pOp_ok (tb := tab) tabOk hf rfl) rfl fun a hf => ?_
        refine str (fun w => Mem ⟨w0, []⟩ S [] [] [] [(false, MP.cells ⟨p2, o2, none⟩ [(.int .i64 e2.After), (.int .i64 e2.Gain), (.int .i64 e2.Output), (.int .i64 e2.Noise)]), (false, MP.cells ⟨p, o, none⟩ [(.int .i64 e.After), (.int .i64 e.Gain), (.int .i64 e.Output), (.int .i64 e.Noise)]), (false, MP.val [(.slice A list.length c)] (list : List Amplifier))] w) (fun w H => H.let [] [] [] [1, 2]) ?_
        have hS : Mem ⟨w0, []⟩ S [] [] [] [(false, MP.cells ⟨p2, o2, none⟩ [(.int .i64 e2.After), (.int .i64 e2.Gain), (.int .i64 e2.Output), (.int .i64 e2.Noise)]), (false, MP.cells ⟨p, o, none⟩ [(.int .i64 e.After), (.int .i64 e.Gain), (.int .i64 e.Output), (.int .i64 e.Noise)]), (false, MP.val [(.slice A list.length c)] (list : List Amplifier))] w := H.let [] [] [] [0, 1, 2]
        refine tkSg (i := 11) (bs' := [true, true, true, true, true, true, true, true, true, true, true, true, false, false, false, false, false, false, false, false, false, false, false, false, false, false, false, false, false, false, false, false, false, false, false]) [] rfl rfl rfl rfl rfl (by decide) hf (by kernel_rfl) (by kernel_rfl) hS (fun w H => rq_loadI hf H TF.ls3 0 0 rfl rfl rfl) rfl fun a hf => ?_
        refine tkPg (i := 12) (bs' := [true, true, true, true, true, true, true, true, true, true, true, true, true, false, false, false, false, false, false, false, false, false, false, false, false, false, false, false, false, false, false, false, false, false, false]) rfl rfl rfl rfl rfl (by decide) hf (by kernel_rfl) (fun _ => hS) (fun w => pOp_ok (tb := tab) tabOk hf rfl) rfl fun a hf => ?_
        refine tkPg (i := 13) (bs' := [true, true, true, true, true, true, true, true, true, true, true, true, true, true, false, false, false, false, false, false, false, false, false, false, false, false, false, false, false, false, false, false, false, false, false]) rfl rfl rfl rfl rfl (by decide) hf (by kernel_rfl) (fun _ => hS) (fun w => pOp_ok (tb := tab) tabOk hf rfl) rfl fun a hf => ?_
        obtain ⟨y2, hy2, hR1⟩ := bind_some hR1
        refine on1g (i := 14) (bs' := [true, true, true, true, true, true, true, true, true, true, true, true, true, true, true, false, false, false, false, false, false, false, false, false, false, false, false, false, false, false, false, false, false, false, false]) (by kernel_rfl) rfl rfl rfl rfl hf rfl (op_call hf TF.cl97 rfl (by decide) (spec_l1In_ok (S := fun _ => True) mk_int mk_int mk_int hy2) fun v2 w a hp2 hf => ?_)
        obtain ⟨hb2, hp2⟩ := hp2
        obtain rfl := VR_bool hp2
        have H := H.keep hb2
        have hS : Mem ⟨w0, []⟩ S [] [] [] [(false, MP.cells ⟨p2, o2, none⟩ [(.int .i64 e2.After), (.int .i64 e2.Gain), (.int .i64 e2.Output), (.int .i64 e2.Noise)]), (false, MP.cells ⟨p, o, none⟩ [(.int .i64 e.After), (.int .i64 e.Gain), (.int .i64 e.Output), (.int .i64 e.Noise)]), (false, MP.val [(.slice A list.length c)] (list : List Amplifier))] w := H.let [] [] [] [0, 1, 2]
        refine ⟨fun _ => hS, ?_⟩
        refine tkPg (i := 15) (bs' := [true, true, true, true, true, true, true, true, true, true, true, true, true, true, true, true, false, false, false, false, false, false, false, false, false, false, false, false, false, false, false, false, false, false, false]) rfl rfl rfl rfl rfl (by decide) hf (by kernel_rfl) (fun _ => hS) (fun w => pOp_ok (tb := tab) tabOk hf rfl) rfl fun a hf => ?_
        refine tkP (i := 16) (bs' := [true, true, true, true, true, true, true, true, true, true, true, true, true, true, true, true, true, false, false, false, false, false, false, false, false, false, false, false, false, false, false, false, false, false, false]) rfl rfl rfl (by decide) hf (by kernel_rfl) (fun _ => hS) (fun w => pOp_ok (tb := tab) tabOk hf rfl) rfl fun a hf => ?_
        refine tkP (i := 17) (bs' := [true, true, true, true, true, true, true, true, true, true, true, true, true, true, true, true, true, true, false, false, false, false, false, false, false, false, false, false, false, false, false, false, false, false, false]) rfl rfl rfl (by decide) hf (by kernel_rfl) (fun _ => hS) (fun w => pOp_ok (tb := tab) tabOk hf rfl) rfl fun a hf => ?_
        refine (Bool.eq_false_or_eq_true (!y2)).elim (fun hc3 => ?_) (fun hc3 => ?_)
        · rw [if_pos hc3] at hR1
          have hf := hf.lit 29 rfl hc3
          refine tkU (i := 18) (bs' := [true, true, true, true, true, true, true, true, true, true, true, true, true, true, true, true, true, true, true, false, false, false, false, false, false, false, false, false, false, false, false, false, false, false, false]) rfl rfl rfl rfl rfl rfl (by decide) hf (by kernel_rfl) (fun _ => hS) rfl fun a hf => ?_
          refine tkU (i := 19) (bs' := [true, true, true, true, true, true, true, true, true, true, true, true, true, true, true, true, true, true, true, true, false, false, false, false, false, false, false, false, false, false, false, false, false, false, false]) rfl rfl rfl rfl rfl rfl (by decide) hf (by kernel_rfl) (fun _ => hS) rfl fun a hf => ?_
          refine tkU (i := 20) (bs' := [true, true, true, true, true, true, true, true, true, true, true, true, true, true, true, true, true, true, true, true, true, false, false, false, false, false, false, false, false, false, false, false, false, false, false]) rfl rfl rfl rfl rfl rfl (by decide) hf (by kernel_rfl) (fun _ => hS) rfl fun a hf => ?_
          refine tkUU (i := 21) (bs' := [true, true, true, true, true, true, true, true, true, true, true, true, true, true, true, true, true, true, true, true, true, true, false, false, false, false, false, false, false, false, false, false, false, false, false]) rfl rfl rfl rfl rfl (by decide) hf (by kernel_rfl) (fun _ => hS) rfl fun a hf => ?_
          refine tkUU (i := 22) (bs' := [true, true, true, true, true, true, true, true, true, true, true, true, true, true, true, true, true, true, true, true, true, true, true, false, false, false, false, false, false, false, false, false, false, false, false]) rfl rfl rfl rfl rfl (by decide) hf (by kernel_rfl) (fun _ => hS) rfl fun a hf => ?_
          refine tkUU (i := 23) (bs' := [true, true, true, true, true, true, true, true, true, true, true, true, true, true, true, true, true, true, true, true, true, true, true, true, false, false, false, false, false, false, false, false, false, false, false]) rfl rfl rfl rfl rfl (by decide) hf (by kernel_rfl) (fun _ => hS) rfl fun a hf => ?_
          refine tkUU (i := 24) (bs' := [true, true, true, true, true, true, true, true, true, true, true, true, true, true, true, true, true, true, true, true, true, true, true, true, true, false, false, false, false, false, false, false, false, false, false]) rfl rfl rfl rfl rfl (by decide) hf (by kernel_rfl) (fun _ => hS) rfl fun a hf => ?_
          refine tkUU (i := 25) (bs' := [true, true, true, true, true, true, true, true, true, true, true, true, true, true, true, true, true, true, true, true, true, true, true, true, true, true, false, false, false, false, false, false, false, false, false]) rfl rfl rfl rfl rfl (by decide) hf (by kernel_rfl) (fun _ => hS) rfl fun a hf => ?_
          refine tkUU (i := 26) (bs' := [true, true, true, true, true, true, true, true, true, true, true, true, true, true, true, true, true, true, true, true, true, true, true, true, true, true, true, false, false, false, false, false, false, false, false]) rfl rfl rfl rfl rfl (by decide) hf (by kernel_rfl) (fun _ => hS) rfl fun a hf => ?_
          refine tkUU (i := 27) (bs' := [true, true, true, true, true, true, true, true, true, true, true, true, true, true, true, true, true, true, true, true, true, true, true, true, true, true, true, true, false, false, false, false, false, false, false]) rfl rfl rfl rfl rfl (by decide) hf (by kernel_rfl) (fun _ => hS) rfl fun a hf => ?_
          refine tkUU (i := 28) (bs' := [true, true, true, true, true, true, true, true, true, true, true, true, true, true, true, true, true, true, true, true, true, true, true, true, true, true, true, true, true, false, false, false, false, false, false]) rfl rfl rfl rfl rfl (by decide) hf (by kernel_rfl) (fun _ => hS) rfl fun a hf => ?_
          refine tkUU (i := 29) (bs' := [true, true, true, true, true, true, true, true, true, true, true, true, true, true, true, true, true, true, true, true, true, true, true, true, true, true, true, true, true, true, false, false, false, false, false]) rfl rfl rfl rfl rfl (by decide) hf (by kernel_rfl) (fun _ => hS) rfl fun a hf => ?_
          refine tkUU (i := 30) (bs' := [true, true, true, true, true, true, true, true, true, true, true, true, true, true, true, true, true, true, true, true, true, true, true, true, true, true, true, true, true, true, true, false, false, false, false]) rfl rfl rfl rfl rfl (by decide) hf (by kernel_rfl) (fun _ => hS) rfl fun a hf => ?_
          refine tkUU (i := 31) (bs' := [true, true, true, true, true, true, true, true, true, true, true, true, true, true, true, true, true, true, true, true, true, true, true, true, true, true, true, true, true, true, true, true, false, false, false]) rfl rfl rfl rfl rfl (by decide) hf (by kernel_rfl) (fun _ => hS) rfl fun a hf => ?_
          refine tkUU (i := 32) (bs' := [true, true, true, true, true, true, true, true, true, true, true, true, true, true, true, true, true, true, true, true, true, true, true, true, true, true, true, true, true, true, true, true, true, false, false]) rfl rfl rfl rfl rfl (by decide) hf (by kernel_rfl) (fun _ => hS) rfl fun a hf => ?_
          refine tkU (i := 33) (bs' := [true, true, true, true, true, true, true, true, true, true, true, true, true, true, true, true, true, true, true, true, true, true, true, true, true, true, true, true, true, true, true, true, true, true, false]) rfl rfl rfl rfl rfl rfl (by decide) hf (by kernel_rfl) (fun _ => hS) rfl fun a hf => ?_
          refine tkP (i := 34) (bs' := [true, true, true, true, true, true, true, true, true, true, true, true, true, true, true, true, true, true, true, true, true, true, true, true, true, true, true, true, true, true, true, true, true, true, true]) rfl rfl rfl (by decide) hf (by kernel_rfl) (fun _ => hS) (fun w => pOp_ok (tb := tab) tabOk hf rfl) rfl fun a hf => ?_
          refine dn (by kernel_rfl) ?_
          have hf := hf.prune [0, 1, 5, 19, 20, 21, 22, 23, 24, 25, 26, 27, 46] rfl
          refine then_n ?_
          refine cd_t hf rfl rfl ?_
          refine sq ?_
          refine reg ?_
          refine pRun_ok (tb := tab) (n := 47) tabOk 1 _ _ hf rfl rfl fun a hf => ?_
          have hf := hf.prune [4] rfl
          refine wl_end ?_
          refine then_n ?_
          refine wp_ret (blk_r (then_r (then_r (blk_r (then_r (then_r (?_)))))))
          obtain rfl := Option.some.inj hR1
          replace hF := on_ret hF
          obtain rfl := Option.some.inj hF
          refine ret_1 (fn := Try.f120) (r := .tmp 4) hf rfl (rv_tmp hf rfl) ?_
          exact ⟨_, rfl, H.bel, mk_bool⟩
        · rw [if_neg (nt hc3)] at hR1
          have hf := hf.lit 29 rfl hc3
          refine tkPg (i := 18) (bs' := [true, true, true, true, true, true, true, true, true, true, true, true, true, true, true, true, true, true, true, false, false, false, false, false, false, false, false, false, false, false, false, false, false, false, false]) rfl rfl rfl rfl rfl (by decide) hf (by kernel_rfl) (fun _ => hS) (fun w => pOp_ok (tb := tab) tabOk hf rfl) rfl fun a hf => ?_
          refine tkPg (i := 19) (bs' := [true, true, true, true, true, true, true, true, true, true, true, true, true, true, true, true, true, true, true, true, false, false, false, false, false, false, false, false, false, false, false, false, false, false, false]) rfl rfl rfl rfl rfl (by decide) hf (by kernel_rfl) (fun _ => hS) (fun w => pOp_ok (tb := tab) tabOk hf rfl) rfl fun a hf => ?_
          refine tkPg (i := 20) (bs' := [true, true, true, true, true, true, true, true, true, true, true, true, true, true, true, true, true, true, true, true, true, false, false, false, false, false, false, false, false, false, false, false, false, false, false]) rfl rfl rfl rfl rfl (by decide) hf (by kernel_rfl) (fun _ => hS) (fun w => pOp_ok (tb := tab) tabOk hf rfl) rfl fun a hf => ?_
          refine (Bool.eq_false_or_eq_true (decide (i > 0))).elim (fun hc4 => ?_) (fun hc4 => ?_)
          · rw [if_pos hc4] at hR1
            have hf := hf.lit 32 rfl hc4
            refine tkPg (i := 21) (bs' := [true, true, true, true, true, true, true, true, true, true, true, true, true, true, true, true, true, true, true, true, true, true, false, false, false, false, false, false, false, false, false, false, false, false, false]) rfl rfl rfl rfl rfl (by decide) hf (by kernel_rfl) (fun _ => hS) (fun w => pOp_ok (tb := tab) tabOk hf rfl) rfl fun a hf => ?_
            refine tkPg (i := 22) (bs' := [true, true, true, true, true, true, true, true, true, true, true, true, true, true, true, true, true, true, true, true, true, true, true, false, false, false, false, false, false, false, false, false, false, false, false]) rfl rfl rfl rfl rfl (by decide) hf (by kernel_rfl) (fun _ => hS) (fun w => pOp_ok (tb := tab) tabOk hf rfl) rfl fun a hf => ?_
            refine tkPg (i := 23) (bs' := [true, true, true, true, true, true, true, true, true, true, true, true, true, true, true, true, true, true, true, true, true, true, true, true, false, false, false, false, false, false, false, false, false, false, false]) rfl rfl rfl rfl rfl (by decide) hf (by kernel_rfl) (fun _ => hS) (fun w => pOp_ok (tb := tab) tabOk hf rfl) rfl fun a hf => ?_
            obtain ⟨e3, he3, hR1⟩ := bind_some hR1
            obtain ⟨p3, o3, cs3, hx3, hr3, H⟩ := pre_iaddr H Try.underlying63 TF.sz88 2 rfl he3
            refine tkPg (i := 24) (bs' := [true, true, true, true, true, true, true, true, true, true, true, true, true, true, true, true, true, true, true, true, true, true, true, true, true, false, false, false, false, false, false, false, false, false, false]) rfl rfl rfl rfl rfl (by decide) hf (by kernel_rfl) (fun _ => hS) (fun w => rq_iaddrE hf rfl rfl rfl hx3 w) rfl fun a hf => ?_
            obtain rfl := Amplifier_cells hr3
            refine tkPg (i := 25) (bs' := [true, true, true, true, true, true, true, true, true, true, true, true, true, true, true, true, true, true, true, true, true, true, true, true, true, true, false, false, false, false, false, false, false, false, false]) rfl rfl rfl rfl rfl (by decide) hf (by kernel_rfl) (fun _ => hS) (fun w => pOp_ok (tb := tab) tabOk hf rfl) rfl fun a hf => ?_
            refine str (fun w => Mem ⟨w0, []⟩ S [] [] [] [(false, MP.cells ⟨p3, o3, none⟩ [(.int .i64 e3.After), (.int .i64 e3.Gain), (.int .i64 e3.Output), (.int .i64 e3.Noise)]), (false, MP.cells ⟨p2, o2, none⟩ [(.int .i64 e2.After), (.int .i64 e2.Gain), (.int .i64 e2.Output), (.int .i64 e2.Noise)]), (false, MP.cells ⟨p, o, none⟩ [(.int .i64 e.After), (.int .i64 e.Gain), (.int .i64 e.Output), (.int .i64 e.Noise)]), (false, MP.val [(.slice A list.length c)] (list : List Amplifier))] w) (fun w H => H.let [] [] [] [1, 2, 3]) ?_
            have hS : Mem ⟨w0, []⟩ S [] [] [] [(false, MP.cells ⟨p3, o3, none⟩ [(.int .i64 e3.After), (.int .i64 e3.Gain), (.int .i64 e3.Output), (.int .i64 e3.Noise)]), (false, MP.cells ⟨p2, o2, none⟩ [(.int .i64 e2.After), (.int .i64 e2.Gain), (.int .i64 e2.Output), (.int .i64 e2.Noise)]), (false, MP.cells ⟨p, o, none⟩ [(.int .i64 e.After), (.int .i64 e.Gain), (.int .i64 e.Output), (.int .i64 e.Noise)]), (false, MP.val [(.slice A list.length c)] (list : List Amplifier))] w := H.let [] [] [] [0, 1, 2, 3]
            refine tkSg (i := 26) (bs' := [true, true, true, true, true, true, true, true, true, true, true, true, true, true, true, true, true, true, true, true, true, true, true, true, true, true, true, false, false, false, false, false, false, false, false]) [] rfl rfl rfl rfl rfl (by decide) hf (by kernel_rfl) (by kernel_rfl) hS (fun w H => rq_loadI hf H TF.ls3 0 0 rfl rfl rfl) rfl fun a hf => ?_
            refine tkPg (i := 27) (bs' := [true, true, true, true, true, true, true, true, true, true, true, true, true, true, true, true, true, true, true, true, true, true, true, true, true, true, true, true, false, false, false, false, false, false, false]) rfl rfl rfl rfl rfl (by decide) hf (by kernel_rfl) (fun _ => hS) (fun w => pOp_ok (tb := tab) tabOk hf rfl) rfl fun a hf => ?_
            refine tkPg (i := 28) (bs' := [true, true, true, true, true, true, true, true, true, true, true, true, true, true, true, true, true, true, true, true, true, true, true, true, true, true, true, true, true, false, false, false, false, false, false]) rfl rfl rfl rfl rfl (by decide) hf (by kernel_rfl) (fun _ => hS) (fun w => pOp_ok (tb := tab) tabOk hf rfl) rfl fun a hf => ?_
            obtain ⟨e4, he4, hR1⟩ := bind_some hR1
            obtain ⟨p4, o4, cs4, hx4, hr4, H⟩ := pre_iaddr H Try.underlying63 TF.sz88 3 rfl he4
            refine tkPg (i := 29) (bs' := [true, true, true, true, true, true, true, true, true, true, true, true, true, true, true, true, true, true, true, true, true, true, true, true, true, true, true, true, true, true, false, false, false, false, false]) rfl rfl rfl rfl rfl (by decide) hf (by kernel_rfl) (fun _ => hS) (fun w => rq_iaddrE hf rfl rfl rfl hx4 w) rfl fun a hf => ?_
            obtain rfl := Amplifier_cells hr4
            refine tkPg (i := 30) (bs' := [true, true, true, true, true, true, true, true, true, true, true, true, true, true, true, true, true, true, true, true, true, true, true, true, true, true, true, true, true, true, true, false, false, false, false]) rfl rfl rfl rfl rfl (by decide) hf (by kernel_rfl) (fun _ => hS) (fun w => pOp_ok (tb := tab) tabOk hf rfl) rfl fun a hf => ?_
            refine str (fun w => Mem ⟨w0, []⟩ S [] [] [] [(false, MP.cells ⟨p4, o4, none⟩ [(.int .i64 e4.After), (.int .i64 e4.Gain), (.int .i64 e4.Output), (.int .i64 e4.Noise)]), (false, MP.cells ⟨p3, o3, none⟩ [(.int .i64 e3.After), (.int .i64 e3.Gain), (.int .i64 e3.Output), (.int .i64 e3.Noise)]), (false, MP.cells ⟨p2, o2, none⟩ [(.int .i64 e2.After), (.int .i64 e2.Gain), (.int .i64 e2.Output), (.int .i64 e2.Noise)]), (false, MP.cells ⟨p, o, none⟩ [(.int .i64 e.After), (.int .i64 e.Gain), (.int .i64 e.Output), (.int .i64 e.Noise)]), (false, MP.val [(.slice A list.length c)] (list : List Amplifier))] w) (fun w H => H.let [] [] [] [1, 2, 3, 4]) ?_
            have hS : Mem ⟨w0, []⟩ S [] [] [] [(false, MP.cells ⟨p4, o4, none⟩ [(.int .i64 e4.After), (.int .i64 e4.Gain), (.int .i64 e4.Output), (.int .i64 e4.Noise)]), (false, MP.cells ⟨p3, o3, none⟩ [(.int .i64 e3.After), (.int .i64 e3.Gain), (.int .i64 e3.Output), (.int .i64 e3.Noise)]), (false, MP.cells ⟨p2, o2, none⟩ [(.int .i64 e2.After), (.int .i64 e2.Gain), (.int .i64 e2.Output), (.int .i64 e2.Noise)]), (false, MP.cells ⟨p, o, none⟩ [(.int .i64 e.After), (.int .i64 e.Gain), (.int .i64 e.Output), (.int .i64 e.Noise)]), (false, MP.val [(.slice A list.length c)] (list : List Amplifier))] w := H.let [] [] [] [0, 1, 2, 3, 4]
            refine tkSg (i := 31) (bs' := [true, true, true, true, true, true, true, true, true, true, true, true, true, true, true, true, true, true, true, true, true, true, true, true, true, true, true, true, true, true, true, true, false, false, false]) [] rfl rfl rfl rfl rfl (by decide) hf (by kernel_rfl) (by kernel_rfl) hS (fun w H => rq_loadI hf H TF.ls3 0 0 rfl rfl rfl) rfl fun a hf => ?_
            refine tkPg (i := 32) (bs' := [true, true, true, true, true, true, true, true, true, true, true, true, true, true, true, true, true, true, true, true, true, true, true, true, true, true, true, true, true, true, true, true, true, false, false]) rfl rfl rfl rfl rfl (by decide) hf (by kernel_rfl) (fun _ => hS) (fun w => pOp_ok (tb := tab) tabOk hf rfl) rfl fun a hf => ?_
            refine tkPg (i := 33) (bs' := [true, true, true, true, true, true, true, true, true, true, true, true, true, true, true, true, true, true, true, true, true, true, true, true, true, true, true, true, true, true, true, true, true, true, false]) rfl rfl rfl rfl rfl (by decide) hf (by kernel_rfl) (fun _ => hS) (fun w => pOp_ok (tb := tab) tabOk hf rfl) rfl fun a hf => ?_
            refine tkP (i := 34) (bs' := [true, true, true, true, true, true, true, true, true, true, true, true, true, true, true, true, true, true, true, true, true, true, true, true, true, true, true, true, true, true, true, true, true, true, true]) rfl rfl rfl (by decide) hf (by kernel_rfl) (fun _ => hS) (fun w => pOp_ok (tb := tab) tabOk hf rfl) rfl fun a hf => ?_
            refine dn (by kernel_rfl) ?_
            have hf := hf.prune [0, 1, 5, 19, 20, 21, 22, 23, 24, 25, 26, 27, 30, 31, 32, 33, 34, 35, 36, 37, 38, 39, 40, 41, 42, 43, 44, 45, 46] rfl
            refine then_n ?_
            refine (Bool.eq_false_or_eq_true (decide (e3.After ≥ e4.After))).elim (fun hc5 => ?_) (fun hc5 => ?_)
            · rw [if_pos hc5] at hR1
              refine cd_t hf rfl hc5 ?_
              refine sq ?_
              refine reg ?_
              refine pRun_ok (tb := tab) (n := 47) tabOk 1 _ _ hf rfl rfl fun a hf => ?_
              have hf := hf.prune [4] rfl
              refine wl_end ?_
              refine then_n ?_
              refine wp_ret (blk_r (then_r (then_r (blk_r (then_r (then_r (?_)))))))
              obtain rfl := Option.some.inj hR1
              replace hF := on_ret hF
              obtain rfl := Option.some.inj hF
              refine ret_1 (fn := Try.f120) (r := .tmp 4) hf rfl (rv_tmp hf rfl) ?_
              exact ⟨_, rfl, H.bel, mk_bool⟩
            · rw [if_neg (nt hc5)] at hR1
              refine cd_f hf rfl hc5 ?_
              refine wp_skip ?_
              refine blk_n ?_
              refine then_n ?_
              refine reg ?_
              refine pRun_ok (tb := tab) (n := 47) tabOk 3 _ _ hf rfl rfl fun a hf => ?_
              refine wl_end ?_
              have hf := hf.prune [0, 1, 5] rfl
              have H := H.let [] [] [] [4]
              exact then_n ⟨w64 (i + 1), hR1, hf, H⟩
          · rw [if_neg (nt hc4)] at hR1
            have hf := hf.lit 32 rfl hc4
            refine tkU (i := 21) (bs' := [true, true, true, true, true, true, true, true, true, true, true, true, true, true, true, true, true, true, true, true, true, true, false, false, false, false, false, false, false, false, false, false, false, false, false]) rfl rfl rfl rfl rfl rfl (by decide) hf (by kernel_rfl) (fun _ => hS) rfl fun a hf => ?_
            refine tkU (i := 22) (bs' := [true, true, true, true, true, true, true, true, true, true, true, true, true, true, true, true, true, true, true, true, true, true, true, false, false, false, false, false, false, false, false, false, false, false, false]) rfl rfl rfl rfl rfl rfl (by decide) hf (by kernel_rfl) (fun _ => hS) rfl fun a hf => ?_
            refine tkU (i := 23) (bs' := [true, true, true, true, true, true, true, true, true, true, true, true, true, true, true, true, true, true, true, true, true, true, true, true, false, false, false, false, false, false, false, false, false, false, false]) rfl rfl rfl rfl rfl rfl (by decide) hf (by kernel_rfl) (fun _ => hS) rfl fun a hf => ?_
            refine tkU (i := 24) (bs' := [true, true, true, true, true, true, true, true, true, true, true, true, true, true, true, true, true, true, true, true, true, true, true, true, true, false, false, false, false, false, false, false, false, false, false]) rfl rfl rfl rfl rfl rfl (by decide) hf (by kernel_rfl) (fun _ => hS) rfl fun a hf => ?_
            refine tkU (i := 25) (bs' := [true, true, true, true, true, true, true, true, true, true, true, true, true, true, true, true, true, true, true, true, true, true, true, true, true, true, false, false, false, false, false, false, false, false, false]) rfl rfl rfl rfl rfl rfl (by decide) hf (by kernel_rfl) (fun _ => hS) rfl fun a hf => ?_
            refine tkU (i := 26) (bs' := [true, true, true, true, true, true, true, true, true, true, true, true, true, true, true, true, true, true, true, true, true, true, true, true, true, true, true, false, false, false, false, false, false, false, false]) rfl rfl rfl rfl rfl rfl (by decide) hf (by kernel_rfl) (fun _ => hS) rfl fun a hf => ?_
            refine tkU (i := 27) (bs' := [true, true, true, true, true, true, true, true, true, true, true, true, true, true, true, true, true, true, true, true, true, true, true, true, true, true, true, true, false, false, false, false, false, false, false]) rfl rfl rfl rfl rfl rfl (by decide) hf (by kernel_rfl) (fun _ => hS) rfl fun a hf => ?_
            refine tkU (i := 28) (bs' := [true, true, true, true, true, true, true, true, true, true, true, true, true, true, true, true, true, true, true, true, true, true, true, true, true, true, true, true, true, false, false, false, false, false, false]) rfl rfl rfl rfl rfl rfl (by decide) hf (by kernel_rfl) (fun _ => hS) rfl fun a hf => ?_
            refine tkU (i := 29) (bs' := [true, true, true, true, true, true, true, true, true, true, true, true, true, true, true, true, true, true, true, true, true, true, true, true, true, true, true, true, true, true, false, false, false, false, false]) rfl rfl rfl rfl rfl rfl (by decide) hf (by kernel_rfl) (fun _ => hS) rfl fun a hf => ?_
            refine tkU (i := 30) (bs' := [true, true, true, true, true, true, true, true, true, true, true, true, true, true, true, true, true, true, true, true, true, true, true, true, true, true, true, true, true, true, true, false, false, false, false]) rfl rfl rfl rfl rfl rfl (by decide) hf (by kernel_rfl) (fun _ => hS) rfl fun a hf => ?_
            refine tkU (i := 31) (bs' := [true, true, true, true, true, true, true, true, true, true, true, true, true, true, true, true, true, true, true, true, true, true, true, true, true, true, true, true, true, true, true, true, false, false, false]) rfl rfl rfl rfl rfl rfl (by decide) hf (by kernel_rfl) (fun _ => hS) rfl fun a hf => ?_
            refine tkU (i := 32) (bs' := [true, true, true, true, true, true, true, true, true, true, true, true, true, true, true, true, true, true, true, true, true, true, true, true, true, true, true, true, true, true, true, true, true, false, false]) rfl rfl rfl rfl rfl rfl (by decide) hf (by kernel_rfl) (fun _ => hS) rfl fun a hf => ?_
            refine tkPg (i := 33) (bs' := [true, true, true, true, true, true, true, true, true, true, true, true, true, true, true, true, true, true, true, true, true, true, true, true, true, true, true, true, true, true, true, true, true, true, false]) rfl rfl rfl rfl rfl (by decide) hf (by kernel_rfl) (fun _ => hS) (fun w => pOp_ok (tb := tab) tabOk hf rfl) rfl fun a hf => ?_
            refine tkP (i := 34) (bs' := [true, true, true, true, true, true, true, true, true, true, true, true, true, true, true, true, true, true, true, true, true, true, true, true, true, true, true, true, true, true, true, true, true, true, true]) rfl rfl rfl (by decide) hf (by kernel_rfl) (fun _ => hS) (fun w => pOp_ok (tb := tab) tabOk hf rfl) rfl fun a hf => ?_
            refine dn (by kernel_rfl) ?_
            have hf := hf.prune [0, 1, 5, 19, 20, 21, 22, 23, 24, 25, 26, 27, 30, 31, 32, 45, 46] rfl
            refine then_n ?_
            refine cd_f hf rfl rfl ?_
            refine wp_skip ?_
            refine blk_n ?_
            refine then_n ?_
            refine reg ?_
            refine pRun_ok (tb := tab) (n := 47) tabOk 3 _ _ hf rfl rfl fun a hf => ?_
            refine wl_end ?_
            have hf := hf.prune [0, 1, 5] rfl
            have H := H.let [] [] [] [2]
            exact then_n ⟨w64 (i + 1), hR1, hf, H⟩
    · rw [if_neg (nt hc)] at hR1
      refine cd_f hf rfl hc ?_
      refine wp_exit (then_x (then_x (blk_e (?_))))
      have hf := hf.prune [0, 1, 5] rfl
      have H := H.let [] [] [] [0]
      exact ⟨i, (Option.some.inj hR1).symm, hf, H⟩
  rintro a w ⟨i2, rfl, hf, H⟩
  replace hF := on_next hF
  refine then_n ?_
  refine sq ?_
  refine reg ?_
  refine pRun_ok (tb := tab) (n := 47) tabOk 1 _ _ hf rfl rfl fun a hf => ?_
  refine wl_end ?_
  refine then_n ?_
  refine wp_ret (?_)
  obtain rfl := Option.some.inj hF
  refine ret_1 (fn := Try.f120) (r := .tmp 4) hf rfl (rv_tmp hf rfl) ?_
  exact ⟨_, rfl, H.bel, mk_bool⟩

/- loop.example/g00897/spec.l22Of -/
set_option maxHeartbeats 1000000 in
theorem spec_l22Of_ok {fu : Nat} {w0 : World} {S : Nat → Prop} {v0_ : Value} {value : Int} {r : Int} (h0 : VR w0 S v0_ value) (hF : spec_l22Of fu value = some r) :
    Calls Try.prog 108 [v0_].toArray w0 fun e w' => ∃ v, e = .returned v ∧ (Below w0.heap.size w0 w' ∧ VR w' (St ⟨w0, []⟩ S [] [] [] true) v r) := by
  obtain rfl := VR_int h0
  have H := Mem.start ⟨w0, []⟩ S
  refine enter Try.func108 rfl rfl (nle rfl) rfl fun a hf => ?_
  rw [spec_l22Of] at hF
  refine sq ?_
  refine reg ?_
  refine pRun_ok (tb := tab) (n := 16) tabOk 1 _ _ hf rfl rfl fun a hf => ?_
  refine wl_end ?_
  refine then_n ?_
  refine sq ?_
  refine reg ?_
  refine pRun_ok (tb := tab) (n := 16) tabOk 1 _ _ hf rfl rfl fun a hf => ?_
  refine wl_end ?_
  refine then_n ?_
  refine sq ?_
  obtain ⟨out', hB1, hF⟩ := bind_some hF
  have hf := hf.prune [0, 3] rfl
  have H := H.let [] [] [] []
  have hI : (fun (s : Int) (a : Act) (w : World) => match s with | level => Fr a 16 [(0, (.int .i64 value)), (3, (.int .i64 level))] ∧ Mem ⟨w0, []⟩ S [] [] [] [] w) 0 a w0 := ⟨hf, H⟩
  refine mid (fun a w => ∃ s : Int, out' = s ∧ (fun (s : Int) (a : Act) (w : World) => match s with | level => Fr a 16 [(0, (.int .i64 value)), (3, (.int .i64 level))] ∧ Mem ⟨w0, []⟩ S [] [] [] [] w) s a w) ?_ ?_
  · refine wp_block ?_
    refine loop_rule (fun k (s : Int) => spec_l22Of_L1 fu value k s = some out') (fun (s : Int) (a : Act) (w : World) => match s with | level => Fr a 16 [(0, (.int .i64 value)), (3, (.int .i64 level))] ∧ Mem ⟨w0, []⟩ S [] [] [] [] w) (fun s h => by cases h) ?_ fu 0 a w0 hB1 hI
    rintro fk level a w hR1 hI
    replace hR1 : spec_l22Of_L1 fu value (fk + 1) level = some out' := hR1
    rw [spec_l22Of_L1] at hR1
    obtain ⟨hf, H⟩ := hI
    refine sq ?_
    refine sq ?_
    obtain ⟨c, hGc, hR1⟩ := bind_some hR1
    refine mid (fun a w => Fr a 16 [(0, (.int .i64 value)), (3, (.int .i64 level)), (12, (.bool c))] ∧ Mem ⟨w0, []⟩ S [] [] [] [] w) ?_ ?_
    · refine reg ?_
      refine pRun_ok (tb := tab) (n := 16) tabOk 3 _ _ hf rfl rfl fun a hf => ?_
      refine (Bool.eq_false_or_eq_true (decide (level < 9900))).elim (fun hc => ?_) (fun hc => ?_)
      · rw [if_pos hc] at hGc
        have hf := hf.lit 6 rfl hc
        refine pRun_ok (tb := tab) (n := 16) tabOk 2 _ _ hf rfl rfl fun a hf => ?_
        obtain ⟨y, hy, hGc⟩ := bind_some hGc
        refine wlg hf rfl rfl rfl (op_call hf TF.cl103 rfl (by decide) (spec_l22Linear_ok (S := fun _ => True) mk_int hy) fun v w a hp hf => ?_)
        obtain ⟨hb, hp⟩ := hp
        obtain rfl := VR_int hp
        have H := H.keep hb
        refine pRun_ok (tb := tab) (n := 16) tabOk 3 _ _ hf rfl rfl fun a hf => ?_
        obtain rfl := Option.some.inj hGc
        have hf := hf.prune [0, 3, 12] rfl
        have H := H.let [] [] [] []
        exact wl_end ⟨hf, H⟩
      · rw [if_neg (nt hc)] at hGc
        have hf := hf.lit 6 rfl hc
        refine pRun_ok (tb := tab) (n := 16) tabOk 6 _ _ hf rfl rfl fun a hf => ?_
        obtain rfl := Option.some.inj hGc
        have hf := hf.prune [0, 3, 12] rfl
        have H := H.let [] [] [] []
        exact wl_end ⟨hf, H⟩
    rintro a w ⟨hf, H⟩
    refine then_n ?_
    refine (Bool.eq_false_or_eq_true (c)).elim (fun hc2 => ?_) (fun hc2 => ?_)
    · rw [if_pos hc2] at hR1
      refine cd_t hf rfl hc2 ?_
      refine wp_skip ?_
      refine then_n ?_
      refine wp_block ?_
      refine reg ?_
      refine pRun_ok (tb := tab) (n := 16) tabOk 3 _ _ hf rfl rfl fun a hf => ?_
      refine wl_end ?_
      refine blk_n ?_
      have hf := hf.prune [0, 3] rfl
      have H := H.let [] [] [] []
      exact then_n ⟨w64 (level + 100), hR1, hf, H⟩
    · rw [if_neg (nt hc2)] at hR1
      refine cd_f hf rfl hc2 ?_
      refine wp_exit (then_x (then_x (blk_e (?_))))
      have hf := hf.prune [0, 3] rfl
      have H := H.let [] [] [] []
      exact ⟨level, (Option.some.inj hR1).symm, hf, H⟩
  rintro a w ⟨level2, rfl, hf, H⟩
  refine then_n ?_
  refine sq ?_
  refine reg ?_
  refine pRun_ok (tb := tab) (n := 16) tabOk 2 _ _ hf rfl rfl fun a hf => ?_
  refine wl_end ?_
  refine then_n ?_
  refine wp_ret (?_)
  obtain rfl := Option.some.inj hF
  refine ret_1 (fn := Try.f108) (r := .tmp 2) hf rfl (rv_tmp hf rfl) ?_
  exact ⟨_, rfl, H.bel, mk_int⟩

/- loop.example/g00897/spec.NoiseSum -/
set_option maxHeartbeats 1000000 in
theorem spec_NoiseSum_ok {fu : Nat} {w0 : World} {S : Nat → Prop} {v0_ : Value} {list : List Amplifier} {r : Int × Bool} (h0 : VR w0 S v0_ list) (hF : spec_NoiseSum fu list = some r) :
    Calls Try.prog 55 [v0_].toArray w0 fun e w' => ∃ v, e = .returned v ∧ (Below w0.heap.size w0 w' ∧ ∃ u0 u1, v = .tuple #[u0, u1] ∧ VR w' (St ⟨w0, []⟩ S [] [] [] true) u0 r.1 ∧ VR w' (St ⟨w0, []⟩ S [] [] [] true) u1 r.2) := by
  obtain ⟨A, c, rfl, hl⟩ := VR_list h0
  have H := Mem.start ⟨w0, []⟩ S
  have H := H.pushArg (MP.val [(.slice A list.length c)] list) hl
  refine enter Try.func55 rfl rfl (nle rfl) rfl fun a hf => ?_
  rw [spec_NoiseSum] at hF
  refine sq ?_
  refine reg ?_
  refine pRun_ok (tb := tab) (n := 37) tabOk 2 _ _ hf rfl rfl fun a hf => ?_
  refine wl_end ?_
  refine then_n ?_
  refine sq ?_
  refine sq ?_
  obtain ⟨c2, hGc2, hF⟩ := bind_some hF
  refine mid (fun a w => Fr a 37 [(0, (.slice A list.length c)), (14, (.bool c2))] ∧ Mem ⟨w0, []⟩ S [] [] [] [(false, MP.val [(.slice A list.length c)] (list : List Amplifier))] w) ?_ ?_
  · refine reg ?_
    refine pRun_ok (tb := tab) (n := 37) tabOk 4 _ _ hf rfl rfl fun a hf => ?_
    refine (Bool.eq_false_or_eq_true ((list.length : Int) == 0)).elim (fun hc => ?_) (fun hc => ?_)
    · rw [if_pos hc] at hGc2
      have hf := hf.lit 10 rfl hc
      refine pRun_ok (tb := tab) (n := 37) tabOk 4 _ _ hf rfl rfl fun a hf => ?_
      obtain rfl := Option.some.inj hGc2
      have hf := hf.prune [0, 14] rfl
      have H := H.let [] [] [] [0]
      exact wl_end ⟨hf, H⟩
    · rw [if_neg (nt hc)] at hGc2
      have hf := hf.lit 10 rfl hc
      refine pRun_ok (tb := tab) (n := 37) tabOk 1 _ _ hf rfl rfl fun a hf => ?_
      obtain ⟨y, hy, hGc2⟩ := bind_some hGc2
      refine wlg hf rfl rfl rfl (op_call hf TF.cl120 rfl (by decide) (spec_l22List_ok (S := fun _ => True) (mk_list (rep_true (α := List Amplifier) (H.get 0 rfl))) mk_int hy) fun v w a hp hf => ?_)
      obtain ⟨hb, hp⟩ := hp
      obtain rfl := VR_bool hp
      have H := H.keep hb
      refine pRun_ok (tb := tab) (n := 37) tabOk 2 _ _ hf rfl rfl fun a hf => ?_
      obtain rfl := Option.some.inj hGc2
      have hf := hf.prune [0, 14] rfl
      have H := H.let [] [] [] [0]
      exact wl_end ⟨hf, H⟩
  rintro a w ⟨hf, H⟩
  refine then_n ?_
  refine (Bool.eq_false_or_eq_true (c2)).elim (fun hc2 => ?_) (fun hc2 => ?_)
  · rw [if_pos hc2] at hF
    refine cd_t hf rfl hc2 ?_
    refine sq ?_
    refine reg ?_
    refine pRun_ok (tb := tab) (n := 37) tabOk 2 _ _ hf rfl rfl fun a hf => ?_
    refine wl_end ?_
    refine then_n ?_
    refine wp_ret (then_r (?_))
    obtain rfl := Option.some.inj hF
    refine ret_2 (fn := Try.f55) (r := .tmp 2) (s := .tmp 3) hf rfl (rv_tmp hf rfl) (rv_tmp hf rfl) ?_
    exact ⟨_, rfl, H.bel, _, _, rfl, mk_int, mk_bool⟩
  · rw [if_neg (nt hc2)] at hF
    refine cd_f hf rfl hc2 ?_
    refine wp_skip ?_
    refine then_n ?_
    refine sq ?_
    refine reg ?_
    refine pRun_ok (tb := tab) (n := 37) tabOk 1 _ _ hf rfl rfl fun a hf => ?_
    refine wl_end ?_
    refine then_n ?_
    refine sq ?_
    refine sq ?_
    refine reg ?_
    refine pRun_ok (tb := tab) (n := 37) tabOk 1 _ _ hf rfl rfl fun a hf => ?_
    refine wl_end ?_
    refine then_n ?_
    obtain ⟨out', hB1, hF⟩ := bind_some hF
    have hf := hf.prune [0, 4, 5] rfl
    have H := H.let [] [] [] [0]
    have hI : (fun (s : Int × Int) (a : Act) (w : World) => match s with | (sum, i) => Fr a 37 [(0, (.slice A list.length c)), (4, (.int .i64 sum)), (5, (.int .i64 i))] ∧ Mem ⟨w0, []⟩ S [] [] [] [(false, MP.val [(.slice A list.length c)] (list : List Amplifier))] w) (0, 0) a w := ⟨hf, H⟩
    refine mid (fun a w => ∃ s : Int × Int, out' = Out.next s ∧ (fun (s : Int × Int) (a : Act) (w : World) => match s with | (sum, i) => Fr a 37 [(0, (.slice A list.length c)), (4, (.int .i64 sum)), (5, (.int .i64 i))] ∧ Mem ⟨w0, []⟩ S [] [] [] [(false, MP.val [(.slice A list.length c)] (list : List Amplifier))] w) s a w) ?_ ?_
    · refine wp_block ?_
      refine loop_rule (fun k (s : Int × Int) => spec_NoiseSum_L1 fu list k s.1 s.2 = some out') (fun (s : Int × Int) (a : Act) (w : World) => match s with | (sum, i) => Fr a 37 [(0, (.slice A list.length c)), (4, (.int .i64 sum)), (5, (.int .i64 i))] ∧ Mem ⟨w0, []⟩ S [] [] [] [(false, MP.val [(.slice A list.length c)] (list : List Amplifier))] w) (fun s h => by cases h) ?_ fu (0, 0) a w hB1 hI
      rintro fk ⟨sum, i⟩ a w hR1 hI
      replace hR1 : spec_NoiseSum_L1 fu list (fk + 1) sum i = some out' := hR1
      rw [spec_NoiseSum_L1] at hR1
      obtain ⟨hf, H⟩ := hI
      refine sq ?_
      refine sq ?_
      refine reg ?_
      refine pRun_ok (tb := tab) (n := 37) tabOk 4 _ _ hf rfl rfl fun a hf => ?_
      refine wl_end ?_
      refine then_n ?_
      refine (Bool.eq_false_or_eq_true (decide (i < (list.length : Int)))).elim (fun hc3 => ?_) (fun hc3 => ?_)
      · rw [if_pos hc3] at hR1
        refine cd_t hf rfl hc3 ?_
        refine wp_skip ?_
        refine then_n ?_
        refine sq ?_
        refine wp_block ?_
        refine sq ?_
        refine reg ?_
        refine pRun_ok (tb := tab) (n := 37) tabOk 2 _ _ hf rfl rfl fun a hf => ?_
        obtain ⟨e, he, hR1⟩ := bind_some hR1
        refine wl0 rfl (op_iaddr hf H Try.underlying63 TF.sz88 0 rfl rfl rfl he (by decide) fun p o cs a hf hr H => ?_)
        obtain rfl := Amplifier_cells hr
        refine pRun_ok (tb := tab) (n := 37) tabOk 1 _ _ hf rfl rfl fun a hf => ?_
        refine wl0 rfl (op_q hf (rq_loadI hf H TF.ls3 0 3 rfl rfl rfl) rfl (by decide) fun a hf => ?_)
        obtain ⟨y2, hy2, hR1⟩ := bind_some hR1
        refine wl0 rfl (op_call hf TF.cl103 rfl (by decide) (spec_l22Linear_ok (S := fun _ => True) mk_int hy2) fun v2 w a hp2 hf => ?_)
        obtain ⟨hb2, hp2⟩ := hp2
        obtain rfl := VR_int hp2
        have H := H.keep hb2
        refine pRun_ok (tb := tab) (n := 37) tabOk 1 _ _ hf rfl rfl fun a hf => ?_
        refine wl_end ?_
        refine then_n ?_
        refine sq ?_
        refine sq ?_
        refine reg ?_
        refine pRun_ok (tb := tab) (n := 37) tabOk 2 _ _ hf rfl rfl fun a hf => ?_
        refine wl_end ?_
        refine then_n ?_
        refine (Bool.eq_false_or_eq_true (y2 == 0)).elim (fun hc4 => ?_) (fun hc4 => ?_)
        · rw [if_pos hc4] at hR1
          refine cd_t hf rfl hc4 ?_
          refine sq ?_
          refine reg ?_
          refine pRun_ok (tb := tab) (n := 37) tabOk 2 _ _ hf rfl rfl fun a hf => ?_
          have hf := hf.prune [2, 3] rfl
          refine wl_end ?_
          refine then_n ?_
          refine wp_ret (then_r (blk_r (then_r (then_r (blk_r (then_r (then_r (?_))))))))
          obtain rfl := Option.some.inj hR1
          replace hF := on_ret hF
          obtain rfl := Option.some.inj hF
          refine ret_2 (fn := Try.f55) (r := .tmp 2) (s := .tmp 3) hf rfl (rv_tmp hf rfl) (rv_tmp hf rfl) ?_
          exact ⟨_, rfl, H.bel, _, _, rfl, mk_int, mk_bool⟩
        · rw [if_neg (nt hc4)] at hR1
          refine cd_f hf rfl hc4 ?_
          refine wp_skip ?_
          refine then_n ?_
          refine reg ?_
          refine pRun_ok (tb := tab) (n := 37) tabOk 4 _ _ hf rfl rfl fun a hf => ?_
          have hf := hf.prune [0, 4, 5] rfl
          refine wl_end ?_
          refine blk_n ?_
          refine then_n ?_
          refine reg ?_
          refine pRun_ok (tb := tab) (n := 37) tabOk 3 _ _ hf rfl rfl fun a hf => ?_
          refine wl_end ?_
          have hf := hf.prune [0, 4, 5] rfl
          have H := H.let [] [] [] [1]
          exact then_n ⟨(w64 (sum + y2), w64 (i + 1)), hR1, hf, H⟩
      · rw [if_neg (nt hc3)] at hR1
        refine cd_f hf rfl hc3 ?_
        refine wp_exit (then_x (then_x (blk_e (?_))))
        have hf := hf.prune [0, 4, 5] rfl
        have H := H.let [] [] [] [0]
        exact ⟨(sum, i), (Option.some.inj hR1).symm, hf, H⟩
    rintro a w ⟨⟨sum2, i2⟩, rfl, hf, H⟩
    replace hF := on_next hF
    dsimp only at hF
    refine then_n ?_
    refine sq ?_
    refine sq ?_
    refine reg ?_
    refine pRun_ok (tb := tab) (n := 37) tabOk 1 _ _ hf rfl rfl fun a hf => ?_
    obtain ⟨y3, hy3, hF⟩ := bind_some hF
    refine wl0 rfl (op_call hf TF.cl97 rfl (by decide) (spec_l1In_ok (S := fun _ => True) mk_int mk_int mk_int hy3) fun v3 w a hp3 hf => ?_)
    obtain ⟨hb3, hp3⟩ := hp3
    obtain rfl := VR_bool hp3
    have H := H.keep hb3
    refine pRun_ok (tb := tab) (n := 37) tabOk 1 _ _ hf rfl rfl fun a hf => ?_
    refine wl_end ?_
    refine then_n ?_
    refine (Bool.eq_false_or_eq_true (!y3)).elim (fun hc5 => ?_) (fun hc5 => ?_)
    · rw [if_pos hc5] at hF
      refine cd_t hf rfl hc5 ?_
      refine sq ?_
      refine reg ?_
      refine pRun_ok (tb := tab) (n := 37) tabOk 2 _ _ hf rfl rfl fun a hf => ?_
      refine wl_end ?_
      refine then_n ?_
      refine wp_ret (then_r (?_))
      obtain rfl := Option.some.inj hF
      refine ret_2 (fn := Try.f55) (r := .tmp 2) (s := .tmp 3) hf rfl (rv_tmp hf rfl) (rv_tmp hf rfl) ?_
      exact ⟨_, rfl, H.bel, _, _, rfl, mk_int, mk_bool⟩
    · rw [if_neg (nt hc5)] at hF
      refine cd_f hf rfl hc5 ?_
      refine wp_skip ?_
      refine then_n ?_
      refine sq ?_
      refine reg ?_
      refine pRun_ok (tb := tab) (n := 37) tabOk 1 _ _ hf rfl rfl fun a hf => ?_
      obtain ⟨y4, hy4, hF⟩ := bind_some hF
      refine wl0 rfl (op_call hf TF.cl108 rfl (by decide) (spec_l22Of_ok (S := fun _ => True) mk_int hy4) fun v4 w a hp4 hf => ?_)
      obtain ⟨hb4, hp4⟩ := hp4
      obtain rfl := VR_int hp4
      have H := H.keep hb4
      refine pRun_ok (tb := tab) (n := 37) tabOk 2 _ _ hf rfl rfl fun a hf => ?_
      refine wl_end ?_
      refine then_n ?_
      refine wp_ret (?_)
      obtain rfl := Option.some.inj hF
      refine ret_2 (fn := Try.f55) (r := .tmp 2) (s := .tmp 3) hf rfl (rv_tmp hf rfl) (rv_tmp hf rfl) ?_
      exact ⟨_, rfl, H.bel, _, _, rfl, mk_int, mk_bool⟩

/- (*loop.example/g00897/spec.l1Cur).level -/
set_option maxHeartbeats 1000000 in
theorem spec_l1Cur_level_ok {fu : Nat} {w0 : World} {S : Nat → Prop} {b0 : Nat} {cs0 : List Value} {c : L1CurP} {r : Int × L1CurP} (hp0 : w0.heap[b0]? = some (.cells cs0.toArray 138 (0, 0))) (hr0 : GoTy.rep w0 S cs0 c) (hS0 : ¬ S b0) (hF : spec_l1Cur_level fu c = some r) :
    Calls Try.prog 136 [(.pointer (some ⟨b0, 0, none⟩))].toArray w0 fun e w' => ∃ v, e = .returned v ∧ (Chg w0 w' [b0] ∧ ∃ cs', w'.heap[b0]? = some (.cells cs'.toArray 138 (0, 0)) ∧ GoTy.rep w' (St ⟨w0, [b0]⟩ S [⟨b0, 138, cs'⟩] [] [] false) cs' r.2 ∧ VR w' (St ⟨w0, [b0]⟩ S [⟨b0, 138, cs'⟩] [] [] true) v r.1) := by
  obtain ⟨A, c2, rfl, hl⟩ := L1CurP_cells hr0
  have H := Mem.startB S hp0
  have H := H.argB (by simpa using hS0) (p := MP.val [(.slice A c.code.length c2)] c.code) hl
  refine enter Try.func136 rfl rfl (nle rfl) rfl fun a hf => ?_
  rw [spec_l1Cur_level] at hF
  refine sq ?_
  refine reg ?_
  refine pRun_ok (tb := tab) (n := 11) tabOk 1 _ _ hf rfl rfl fun a hf => ?_
  refine wl_end ?_
  refine then_n ?_
  refine sq ?_
  refine reg ?_
  refine pRun_ok (tb := tab) (n := 11) tabOk 1 _ _ hf rfl rfl fun a hf => ?_
  refine wl0 rfl (op_bslice hf H (.sh true) rfl 3 ([0, 100, 300, (-500), 2000, (-2000), 10000, (-10000), 10001] : List Int) [(.int .i64 0), (.int .i64 100), (.int .i64 300), (.int .i64 (-500)), (.int .i64 2000), (.int .i64 (-2000)), (.int .i64 10000), (.int .i64 (-10000)), (.int .i64 10001)] rfl (fun w => by kernel_rfl) rfl (by decide) rfl trivial (elI [0, 100, 300, (-500), 2000, (-2000), 10000, (-10000), 10001]) (by decide) fun A2 a w hf H => ?_)
  refine pRun_ok (tb := tab) (n := 11) tabOk 1 _ _ hf rfl rfl fun a hf => ?_
  obtain ⟨y, hy, hF⟩ := bind_some hF
  refine wl0 rfl (op_call hf TF.cl134 rfl (by decide) (spec_l1Cur_pick_ok (S := St ⟨w0, [b0]⟩ S [⟨b0, 138, [(.slice A c.code.length c2), (.int .i64 c.at_), (.int .u64 c.seed.n)]⟩] [⟨.sh true, 3, A2, 9, ([0, 100, 300, (-500), 2000, (-2000), 10000, (-10000), 10001] : List Int)⟩] [] false) (H.boxAt 0 rfl) (L1CurP_mk (x := c) (H.get 0 rfl)) (H.notSt 0 rfl _) mk_int hy) fun v w a hp hf => ?_)
  obtain ⟨hch, cs, hbx, hr, hs⟩ := hp
  replace hr := GoTy.mono hr (H.movesB 0 rfl false)
  obtain rfl := VR_int hs
  obtain ⟨A3, c3, rfl, hl2⟩ := L1CurP_cells hr
  have H := H.wroteBox 0 rfl hch hbx
  have H := H.push (false, MP.val [(.slice A3 y.2.code.length c3)] y.2.code) hl2
  obtain ⟨q, hq, hF⟩ := bind_some hF
  refine wl0 rfl (op_q hf (rq_quo hf rfl rfl hq) rfl (by decide) fun a hf => ?_)
  refine pRun_ok (tb := tab) (n := 11) tabOk 1 _ _ hf rfl rfl fun a hf => ?_
  obtain ⟨l, hl, hF⟩ := bind_some hF
  refine wl0 rfl (op_sliceR hf H Try.underlying35 TF.sz3 0 rfl rfl rfl (.inl rfl) (.inr rfl) rfl hl (by decide) fun a hf H => ?_)
  have H := H.freeze 0 rfl
  obtain ⟨y2, hy2, hF⟩ := bind_some hF
  refine wl0 rfl (op_call hf TF.cl133 rfl (by decide) (spec_l1Cur_among_ok (S := St ⟨w0, [b0]⟩ S [⟨b0, 138, [(.slice A3 y.2.code.length c3), (.int .i64 y.2.at_), (.int .u64 y.2.seed.n)]⟩] [] [] false) (H.boxAt 0 rfl) (L1CurP_mk (x := y.2) (H.get 1 rfl)) (H.notSt 0 rfl _) (mk_list (rep_weak (α := List Int) (H.get 0 rfl))) hy2) fun v2 w a hp2 hf => ?_)
  obtain ⟨hch2, cs2, hbx2, hr2, hs2⟩ := hp2
  replace hr2 := GoTy.mono hr2 (H.movesB 0 rfl false)
  obtain rfl := VR_int hs2
  obtain ⟨A4, c4, rfl, hl3⟩ := L1CurP_cells hr2
  have H := H.wroteBox 0 rfl hch2 hbx2
  have H := H.push (false, MP.val [(.slice A4 y2.2.code.length c4)] y2.2.code) hl3
  refine pRun_ok (tb := tab) (n := 11) tabOk 1 _ _ hf rfl rfl fun a hf => ?_
  refine wl_end ?_
  refine then_n ?_
  refine wp_ret (?_)
  obtain rfl := Option.some.inj hF
  refine ret_1 (fn := Try.f136) (r := .tmp 2) hf rfl (rv_tmp hf rfl) ?_
  exact ⟨_, rfl, H.chg, _, H.boxAt 0 rfl, (L1CurP_mk (x := y2.2) (rep_endB (M := _) (i := 0) rfl (α := List By) (H.get 0 rfl))), mk_int⟩

/- (*loop.example/g00897/spec.l1Cur).span -/
set_option maxHeartbeats 1000000 in
theorem spec_l1Cur_span_ok {fu : Nat} {w0 : World} {S : Nat → Prop} {b0 : Nat} {cs0 : List Value} {c : L1CurP} {r : Span × L1CurP} (hp0 : w0.heap[b0]? = some (.cells cs0.toArray 138 (0, 0))) (hr0 : GoTy.rep w0 S cs0 c) (hS0 : ¬ S b0) (hF : spec_l1Cur_span fu c = some r) :
    Calls Try.prog 137 [(.pointer (some ⟨b0, 0, none⟩))].toArray w0 fun e w' => ∃ v, e = .returned v ∧ (Chg w0 w' [b0] ∧ ∃ cs', w'.heap[b0]? = some (.cells cs'.toArray 138 (0, 0)) ∧ GoTy.rep w' (St ⟨w0, [b0]⟩ S [⟨b0, 138, cs'⟩] [] [] false) cs' r.2 ∧ VR w' (St ⟨w0, [b0]⟩ S [⟨b0, 138, cs'⟩] [] [] true) v r.1) := by
  obtain ⟨A, c2, rfl, hl⟩ := L1CurP_cells hr0
  have H := Mem.startB S hp0
  have H := H.argB (by simpa using hS0) (p := MP.val [(.slice A c.code.length c2)] c.code) hl
  refine enter Try.func137 rfl rfl (nle rfl) rfl fun a hf => ?_
  rw [spec_l1Cur_span] at hF
  refine sq ?_
  refine reg ?_
  refine wl0 rfl (op_alloc hf H TF.zv28 rfl (by decide) fun b' a w hf H => ?_)
  refine wl_end ?_
  refine then_n ?_
  refine sq ?_
  refine reg ?_
  refine pRun_ok (tb := tab) (n := 34) tabOk 1 _ _ hf rfl rfl fun a hf => ?_
  refine wl0 rfl (op_bslice hf H (.sh true) rfl 3 ([0, 10, 40, 80, 100, 1000] : List Int) [(.int .i64 0), (.int .i64 10), (.int .i64 40), (.int .i64 80), (.int .i64 100), (.int .i64 1000)] rfl (fun w => by kernel_rfl) rfl (by decide) rfl trivial (elI [0, 10, 40, 80, 100, 1000]) (by decide) fun A2 a w hf H => ?_)
  have H := H.freeze 0 rfl
  obtain ⟨y, hy, hF⟩ := bind_some hF
  refine wl0 rfl (op_call hf TF.cl133 rfl (by decide) (spec_l1Cur_among_ok (S := St ⟨w0, [b0]⟩ S [⟨b', 28, [(.int .i64 0), (.int .i64 0), (.int .i64 0)]⟩, ⟨b0, 138, [(.slice A c.code.length c2), (.int .i64 c.at_), (.int .u64 c.seed.n)]⟩] [] [] false) (H.boxAt 1 rfl) (L1CurP_mk (x := c) (H.get 1 rfl)) (H.notSt 1 rfl _) (mk_list (rep_weak (α := List Int) (H.get 0 rfl))) hy) fun v w a hp hf => ?_)
  obtain ⟨hch, cs, hbx, hr, hs⟩ := hp
  replace hr := GoTy.mono hr (H.movesB 1 rfl false)
  obtain rfl := VR_int hs
  obtain ⟨A3, c3, rfl, hl2⟩ := L1CurP_cells hr
  have H := H.wroteBox 1 rfl hch hbx
  have H := H.push (false, MP.val [(.slice A3 y.2.code.length c3)] y.2.code) hl2
  refine pRun_ok (tb := tab) (n := 34) tabOk 1 _ _ hf rfl rfl fun a hf => ?_
  refine wl0 rfl (op_bslice hf H (.sh true) rfl 3 ([0, 200, 220, 250, 1000] : List Int) [(.int .i64 0), (.int .i64 200), (.int .i64 220), (.int .i64 250), (.int .i64 1000)] rfl (fun w => by kernel_rfl) rfl (by decide) rfl trivial (elI [0, 200, 220, 250, 1000]) (by decide) fun A4 a w hf H => ?_)
  have H := H.freeze 0 rfl
  obtain ⟨y2, hy2, hF⟩ := bind_some hF
  refine wl0 rfl (op_call hf TF.cl133 rfl (by decide) (spec_l1Cur_among_ok (S := St ⟨w0, [b0]⟩ S [⟨b', 28, [(.int .i64 0), (.int .i64 0), (.int .i64 0)]⟩, ⟨b0, 138, [(.slice A3 y.2.code.length c3), (.int .i64 y.2.at_), (.int .u64 y.2.seed.n)]⟩] [] [] false) (H.boxAt 1 rfl) (L1CurP_mk (x := y.2) (H.get 1 rfl)) (H.notSt 1 rfl _) (mk_list (rep_weak (α := List Int) (H.get 0 rfl))) hy2) fun v2 w a hp2 hf => ?_)
  obtain ⟨hch2, cs2, hbx2, hr2, hs2⟩ := hp2
  replace hr2 := GoTy.mono hr2 (H.movesB 1 rfl false)
  obtain rfl := VR_int hs2
  obtain ⟨A5, c4, rfl, hl3⟩ := L1CurP_cells hr2
  have H := H.wroteBox 1 rfl hch2 hbx2
  have H := H.push (false, MP.val [(.slice A5 y2.2.code.length c4)] y2.2.code) hl3
  refine pRun_ok (tb := tab) (n := 34) tabOk 1 _ _ hf rfl rfl fun a hf => ?_
  obtain ⟨y3, hy3, hF⟩ := bind_some hF
  refine wl0 rfl (op_call hf TF.cl134 rfl (by decide) (spec_l1Cur_pick_ok (S := St ⟨w0, [b0]⟩ S [⟨b', 28, [(.int .i64 0), (.int .i64 0), (.int .i64 0)]⟩, ⟨b0, 138, [(.slice A5 y2.2.code.length c4), (.int .i64 y2.2.at_), (.int .u64 y2.2.seed.n)]⟩] [] [] false) (H.boxAt 1 rfl) (L1CurP_mk (x := y2.2) (H.get 0 rfl)) (H.notSt 1 rfl _) mk_int hy3) fun v3 w a hp3 hf => ?_)
  obtain ⟨hch3, cs3, hbx3, hr3, hs3⟩ := hp3
  replace hr3 := GoTy.mono hr3 (H.movesB 1 rfl false)
  obtain rfl := VR_int hs3
  obtain ⟨A6, c5, rfl, hl4⟩ := L1CurP_cells hr3
  have H := H.wroteBox 1 rfl hch3 hbx3
  have H := H.push (false, MP.val [(.slice A6 y3.2.code.length c5)] y3.2.code) hl4
  refine wl0 rfl (op_q hf (rq_build hf (cs := [(.int .i64 y.1), (.int .i64 y2.1), (.int .i64 y3.1)]) rfl (fun w => by kernel_rfl)) rfl (by decide) fun a hf => ?_)
  refine wl0 rfl (op_alloc hf H TF.zv28 rfl (by decide) fun b2 a w hf H => ?_)
  refine wl0 rfl (op_storeB hf H 0 TF.sz28 rfl rfl rfl rfl rfl rfl (nle rfl) fun w H => ?_)
  refine wl_end ?_
  refine then_n ?_
  refine sq ?_
  refine sq ?_
  refine reg ?_
  refine pRun_ok (tb := tab) (n := 34) tabOk 1 _ _ hf rfl rfl fun a hf => ?_
  obtain ⟨y4, hy4, hF⟩ := bind_some hF
  refine wl0 rfl (op_call hf TF.cl134 rfl (by decide) (spec_l1Cur_pick_ok (S := St ⟨w0, [b0]⟩ S [⟨b2, 28, [(.int .i64 y.1), (.int .i64 y2.1), (.int .i64 y3.1)]⟩, ⟨b', 28, [(.int .i64 0), (.int .i64 0), (.int .i64 0)]⟩, ⟨b0, 138, [(.slice A6 y3.2.code.length c5), (.int .i64 y3.2.at_), (.int .u64 y3.2.seed.n)]⟩] [] [] false) (H.boxAt 2 rfl) (L1CurP_mk (x := y3.2) (H.get 0 rfl)) (H.notSt 2 rfl _) mk_int hy4) fun v4 w a hp4 hf => ?_)
  obtain ⟨hch4, cs4, hbx4, hr4, hs4⟩ := hp4
  replace hr4 := GoTy.mono hr4 (H.movesB 2 rfl false)
  obtain rfl := VR_int hs4
  obtain ⟨A7, c6, rfl, hl5⟩ := L1CurP_cells hr4
  have H := H.wroteBox 2 rfl hch4 hbx4
  have H := H.push (false, MP.val [(.slice A7 y4.2.code.length c6)] y4.2.code) hl5
  refine wl_end ?_
  refine then_n ?_
  refine wp_block ?_
  refine sq ?_
  refine reg ?_
  refine pRun_ok (tb := tab) (n := 34) tabOk 2 _ _ hf rfl rfl fun a hf => ?_
  refine wl_end ?_
  refine then_n ?_
  refine (Bool.eq_false_or_eq_true (y4.1 == 0)).elim (fun hc => ?_) (fun hc => ?_)
  · rw [if_pos hc] at hF
    refine cd_t hf rfl hc ?_
    refine reg ?_
    refine pRun_ok (tb := tab) (n := 34) tabOk 1 _ _ hf rfl rfl fun a hf => ?_
    refine wl0 rfl (op_bslice hf H (.sh true) rfl 3 ([(-1), 1001] : List Int) [(.int .i64 (-1)), (.int .i64 1001)] rfl (fun w => by kernel_rfl) rfl (by decide) rfl trivial (elI [(-1), 1001]) (by decide) fun A8 a w hf H => ?_)
    have H := H.freeze 0 rfl
    obtain ⟨y5, hy5, hF⟩ := bind_some hF
    refine wl0 rfl (op_call hf TF.cl133 rfl (by decide) (spec_l1Cur_among_ok (S := St ⟨w0, [b0]⟩ S [⟨b2, 28, [(.int .i64 y.1), (.int .i64 y2.1), (.int .i64 y3.1)]⟩, ⟨b', 28, [(.int .i64 0), (.int .i64 0), (.int .i64 0)]⟩, ⟨b0, 138, [(.slice A7 y4.2.code.length c6), (.int .i64 y4.2.at_), (.int .u64 y4.2.seed.n)]⟩] [] [] false) (H.boxAt 2 rfl) (L1CurP_mk (x := y4.2) (H.get 1 rfl)) (H.notSt 2 rfl _) (mk_list (rep_weak (α := List Int) (H.get 0 rfl))) hy5) fun v5 w a hp5 hf => ?_)
    obtain ⟨hch5, cs5, hbx5, hr5, hs5⟩ := hp5
    replace hr5 := GoTy.mono hr5 (H.movesB 2 rfl false)
    obtain rfl := VR_int hs5
    obtain ⟨A9, c7, rfl, hl6⟩ := L1CurP_cells hr5
    have H := H.wroteBox 2 rfl hch5 hbx5
    have H := H.push (false, MP.val [(.slice A9 y5.2.code.length c7)] y5.2.code) hl6
    refine pRun_ok (tb := tab) (n := 34) tabOk 1 _ _ hf rfl rfl fun a hf => ?_
    refine wl0 rfl (op_storeB hf H 0 TF.sz3 rfl rfl rfl rfl rfl rfl (nle rfl) fun w H => ?_)
    have hf := hf.prune [2, 3] rfl
    refine wl_end ?_
    refine blk_n ?_
    refine then_n ?_
    refine sq ?_
    refine reg ?_
    refine wl0 rfl (op_q hf (rq_loadBN hf H TF.la28 0 rfl rfl rfl rfl) rfl (by decide) fun a hf => ?_)
    refine wl0 rfl (op_storeB hf H 1 TF.sz28 rfl rfl rfl rfl rfl rfl (nle rfl) fun w H => ?_)
    refine wl_end ?_
    refine then_n ?_
    refine wp_ret (?_)
    obtain rfl := Option.some.inj hF
    refine ret_1 (fn := Try.f137) (r := .cell 2 28) hf rfl (rv_cellN hf H 1 TF.la28 rfl rfl rfl) ?_
    exact ⟨_, rfl, H.chg, _, H.boxAt 2 rfl, (L1CurP_mk (x := y5.2) (rep_endB (M := _) (i := 2) rfl (α := List By) (H.get 0 rfl))), Span_mkv⟩
  · rw [if_neg (nt hc)] at hF
    refine cd_f hf rfl hc ?_
    refine sq ?_
    refine reg ?_
    refine pRun_ok (tb := tab) (n := 34) tabOk 2 _ _ hf rfl rfl fun a hf => ?_
    have hf := hf.prune [0, 2, 3, 14, 21] rfl
    refine wl_end ?_
    refine then_n ?_
    refine (Bool.eq_false_or_eq_true (y4.1 == 1)).elim (fun hc2 => ?_) (fun hc2 => ?_)
    · rw [if_pos hc2] at hF
      refine cd_t hf rfl hc2 ?_
      refine reg ?_
      refine pRun_ok (tb := tab) (n := 34) tabOk 1 _ _ hf rfl rfl fun a hf => ?_
      refine wl0 rfl (op_bslice hf H (.sh true) rfl 3 ([(-1), 1001] : List Int) [(.int .i64 (-1)), (.int .i64 1001)] rfl (fun w => by kernel_rfl) rfl (by decide) rfl trivial (elI [(-1), 1001]) (by decide) fun A10 a w hf H => ?_)
      have H := H.freeze 0 rfl
      obtain ⟨y6, hy6, hF⟩ := bind_some hF
      refine wl0 rfl (op_call hf TF.cl133 rfl (by decide) (spec_l1Cur_among_ok (S := St ⟨w0, [b0]⟩ S [⟨b2, 28, [(.int .i64 y.1), (.int .i64 y2.1), (.int .i64 y3.1)]⟩, ⟨b', 28, [(.int .i64 0), (.int .i64 0), (.int .i64 0)]⟩, ⟨b0, 138, [(.slice A7 y4.2.code.length c6), (.int .i64 y4.2.at_), (.int .u64 y4.2.seed.n)]⟩] [] [] false) (H.boxAt 2 rfl) (L1CurP_mk (x := y4.2) (H.get 1 rfl)) (H.notSt 2 rfl _) (mk_list (rep_weak (α := List Int) (H.get 0 rfl))) hy6) fun v6 w a hp6 hf => ?_)
      obtain ⟨hch6, cs6, hbx6, hr6, hs6⟩ := hp6
      replace hr6 := GoTy.mono hr6 (H.movesB 2 rfl false)
      obtain rfl := VR_int hs6
      obtain ⟨A11, c8, rfl, hl7⟩ := L1CurP_cells hr6
      have H := H.wroteBox 2 rfl hch6 hbx6
      have H := H.push (false, MP.val [(.slice A11 y6.2.code.length c8)] y6.2.code) hl7
      refine pRun_ok (tb := tab) (n := 34) tabOk 1 _ _ hf rfl rfl fun a hf => ?_
      refine wl0 rfl (op_storeB hf H 0 TF.sz3 rfl rfl rfl rfl rfl rfl (nle rfl) fun w H => ?_)
      refine wl_end ?_
      refine blk_n ?_
      refine then_n ?_
      refine sq ?_
      refine reg ?_
      refine wl0 rfl (op_q hf (rq_loadBN hf H TF.la28 0 rfl rfl rfl rfl) rfl (by decide) fun a hf => ?_)
      refine wl0 rfl (op_storeB hf H 1 TF.sz28 rfl rfl rfl rfl rfl rfl (nle rfl) fun w H => ?_)
      refine wl_end ?_
      refine then_n ?_
      refine wp_ret (?_)
      obtain rfl := Option.some.inj hF
      refine ret_1 (fn := Try.f137) (r := .cell 2 28) hf rfl (rv_cellN hf H 1 TF.la28 rfl rfl rfl) ?_
      exact ⟨_, rfl, H.chg, _, H.boxAt 2 rfl, (L1CurP_mk (x := y6.2) (rep_endB (M := _) (i := 2) rfl (α := List By) (H.get 0 rfl))), Span_mkv⟩
    · rw [if_neg (nt hc2)] at hF
      refine cd_f hf rfl hc2 ?_
      refine sq ?_
      refine reg ?_
      refine pRun_ok (tb := tab) (n := 34) tabOk 2 _ _ hf rfl rfl fun a hf => ?_
      refine wl_end ?_
      refine then_n ?_
      refine (Bool.eq_false_or_eq_true (y4.1 == 2)).elim (fun hc3 => ?_) (fun hc3 => ?_)
      · rw [if_pos hc3] at hF
        refine cd_t hf rfl hc3 ?_
        refine reg ?_
        refine pRun_ok (tb := tab) (n := 34) tabOk 1 _ _ hf rfl rfl fun a hf => ?_
        refine wl0 rfl (op_bslice hf H (.sh true) rfl 3 ([(-1), 51, 50] : List Int) [(.int .i64 (-1)), (.int .i64 51), (.int .i64 50)] rfl (fun w => by kernel_rfl) rfl (by decide) rfl trivial (elI [(-1), 51, 50]) (by decide) fun A12 a w hf H => ?_)
        have H := H.freeze 0 rfl
        obtain ⟨y7, hy7, hF⟩ := bind_some hF
        refine wl0 rfl (op_call hf TF.cl133 rfl (by decide) (spec_l1Cur_among_ok (S := St ⟨w0, [b0]⟩ S [⟨b2, 28, [(.int .i64 y.1), (.int .i64 y2.1), (.int .i64 y3.1)]⟩, ⟨b', 28, [(.int .i64 0), (.int .i64 0), (.int .i64 0)]⟩, ⟨b0, 138, [(.slice A7 y4.2.code.length c6), (.int .i64 y4.2.at_), (.int .u64 y4.2.seed.n)]⟩] [] [] false) (H.boxAt 2 rfl) (L1CurP_mk (x := y4.2) (H.get 1 rfl)) (H.notSt 2 rfl _) (mk_list (rep_weak (α := List Int) (H.get 0 rfl))) hy7) fun v7 w a hp7 hf => ?_)
        obtain ⟨hch7, cs7, hbx7, hr7, hs7⟩ := hp7
        replace hr7 := GoTy.mono hr7 (H.movesB 2 rfl false)
        obtain rfl := VR_int hs7
        obtain ⟨A13, c9, rfl, hl8⟩ := L1CurP_cells hr7
        have H := H.wroteBox 2 rfl hch7 hbx7
        have H := H.push (false, MP.val [(.slice A13 y7.2.code.length c9)] y7.2.code) hl8
        refine pRun_ok (tb := tab) (n := 34) tabOk 1 _ _ hf rfl rfl fun a hf => ?_
        refine wl0 rfl (op_storeB hf H 0 TF.sz3 rfl rfl rfl rfl rfl rfl (nle rfl) fun w H => ?_)
        refine wl_end ?_
        refine blk_n ?_
        refine then_n ?_
        refine sq ?_
        refine reg ?_
        refine wl0 rfl (op_q hf (rq_loadBN hf H TF.la28 0 rfl rfl rfl rfl) rfl (by decide) fun a hf => ?_)
        refine wl0 rfl (op_storeB hf H 1 TF.sz28 rfl rfl rfl rfl rfl rfl (nle rfl) fun w H => ?_)
        refine wl_end ?_
        refine then_n ?_
        refine wp_ret (?_)
        obtain rfl := Option.some.inj hF
        refine ret_1 (fn := Try.f137) (r := .cell 2 28) hf rfl (rv_cellN hf H 1 TF.la28 rfl rfl rfl) ?_
        exact ⟨_, rfl, H.chg, _, H.boxAt 2 rfl, (L1CurP_mk (x := y7.2) (rep_endB (M := _) (i := 2) rfl (α := List By) (H.get 0 rfl))), Span_mkv⟩
      · rw [if_neg (nt hc3)] at hF
        refine cd_f hf rfl hc3 ?_
        refine wp_skip ?_
        refine blk_n ?_
        refine then_n ?_
        refine sq ?_
        refine reg ?_
        refine wl0 rfl (op_q hf (rq_loadBN hf H TF.la28 0 rfl rfl rfl rfl) rfl (by decide) fun a hf => ?_)
        refine wl0 rfl (op_storeB hf H 1 TF.sz28 rfl rfl rfl rfl rfl rfl (nle rfl) fun w H => ?_)
        refine wl_end ?_
        refine then_n ?_
        refine wp_ret (?_)
        obtain rfl := Option.some.inj hF
        refine ret_1 (fn := Try.f137) (r := .cell 2 28) hf rfl (rv_cellN hf H 1 TF.la28 rfl rfl rfl) ?_
        exact ⟨_, rfl, H.chg, _, H.boxAt 2 rfl, (L1CurP_mk (x := y4.2) (rep_endB (M := _) (i := 2) rfl (α := List By) (H.get 0 rfl))), Span_mkv⟩

/- loop.example/g00897/spec.DrawMostSpans -/
set_option maxHeartbeats 1000000 in
theorem spec_DrawMostSpans_ok {fu : Nat} {w0 : World} {S : Nat → Prop} {v0_ : Value} {code : List By} {r : Span × Int × Int} (h0 : VR w0 S v0_ code) (hF : spec_DrawMostSpans fu code = some r) :
    Calls Try.prog 79 [v0_].toArray w0 fun e w' => ∃ v, e = .returned v ∧ (Below w0.heap.size w0 w' ∧ ∃ u0 u1 u2, v = .tuple #[u0, u1, u2] ∧ VR w' (St ⟨w0, []⟩ S [] [] [] true) u0 r.1 ∧ VR w' (St ⟨w0, []⟩ S [] [] [] true) u1 r.2.1 ∧ VR w' (St ⟨w0, []⟩ S [] [] [] true) u2 r.2.2) := by
  obtain ⟨A, c, rfl, hl⟩ := VR_list h0
  have H := Mem.start ⟨w0, []⟩ S
  have H := H.pushArg (MP.val [(.slice A code.length c)] code) hl
  refine enter Try.func79 rfl rfl (nle rfl) rfl fun a hf => ?_
  rw [spec_DrawMostSpans] at hF
  refine sq ?_
  refine reg ?_
  refine wl0 rfl (op_alloc hf H TF.zv28 rfl (by decide) fun b' a w hf H => ?_)
  refine pRun_ok (tb := tab) (n := 20) tabOk 2 _ _ hf rfl rfl fun a hf => ?_
  refine wl_end ?_
  refine then_n ?_
  refine sq ?_
  refine reg ?_
  refine pRun_ok (tb := tab) (n := 20) tabOk 1 _ _ hf rfl rfl fun a hf => ?_
  refine wl0 rfl (op_q hf (rq_build hf (cs := [(.slice A code.length c), (.int .i64 0), (.int .u64 0)]) rfl (fun w => by kernel_rfl)) rfl (by decide) fun a hf => ?_)
  refine wl0 rfl (op_box hf H rfl rfl (by decide) fun b2 a w hf H => ?_)
  refine pRun_ok (tb := tab) (n := 20) tabOk 1 _ _ hf rfl rfl fun a hf => ?_
  refine wl_end ?_
  refine then_n ?_
  refine sq ?_
  refine reg ?_
  refine pRun_ok (tb := tab) (n := 20) tabOk 1 _ _ hf rfl rfl fun a hf => ?_
  obtain ⟨y, hy, hF⟩ := bind_some hF
  refine wl0 rfl (op_call hf TF.cl136 rfl (by decide) (spec_l1Cur_level_ok (S := St ⟨w0, []⟩ S [⟨b2, 138, [(.slice A code.length c), (.int .i64 0), (.int .u64 0)]⟩, ⟨b', 28, [(.int .i64 0), (.int .i64 0), (.int .i64 0)]⟩] [] [] false) (H.boxAt 0 rfl) (L1CurP_mk (x := ({ code := code, at_ := 0, seed := (⟨0⟩ : U64) } : L1CurP)) (H.get 0 rfl)) (H.notSt 0 rfl _) hy) fun v w a hp hf => ?_)
  obtain ⟨hch, cs, hbx, hr, hs⟩ := hp
  replace hr := GoTy.mono hr (H.movesB 0 rfl false)
  obtain rfl := VR_int hs
  obtain ⟨A2, c2, rfl, hl2⟩ := L1CurP_cells hr
  have H := H.wroteBox 0 rfl hch hbx
  have H := H.push (false, MP.val [(.slice A2 y.2.code.length c2)] y.2.code) hl2
  refine pRun_ok (tb := tab) (n := 20) tabOk 1 _ _ hf rfl rfl fun a hf => ?_
  refine wl_end ?_
  refine then_n ?_
  refine sq ?_
  refine reg ?_
  refine pRun_ok (tb := tab) (n := 20) tabOk 1 _ _ hf rfl rfl fun a hf => ?_
  obtain ⟨y2, hy2, hF⟩ := bind_some hF
  refine wl0 rfl (op_call hf TF.cl137 rfl (by decide) (spec_l1Cur_span_ok (S := St ⟨w0, []⟩ S [⟨b2, 138, [(.slice A2 y.2.code.length c2), (.int .i64 y.2.at_), (.int .u64 y.2.seed.n)]⟩, ⟨b', 28, [(.int .i64 0), (.int .i64 0), (.int .i64 0)]⟩] [] [] false) (H.boxAt 0 rfl) (L1CurP_mk (x := y.2) (H.get 0 rfl)) (H.notSt 0 rfl _) hy2) fun v2 w a hp2 hf => ?_)
  obtain ⟨hch2, cs2, hbx2, hr2, hs2⟩ := hp2
  replace hr2 := GoTy.mono hr2 (H.movesB 0 rfl false)
  obtain rfl := Span_open hs2
  obtain ⟨A3, c3, rfl, hl3⟩ := L1CurP_cells hr2
  have H := H.wroteBox 0 rfl hch2 hbx2
  have H := H.push (false, MP.val [(.slice A3 y2.2.code.length c3)] y2.2.code) hl3
  refine pRun_ok (tb := tab) (n := 20) tabOk 3 _ _ hf rfl rfl fun a hf => ?_
  refine wl0 rfl (op_bslice hf H (.sh true) rfl 3 ([0, 10, 50, 100, 300, (-5), 2000] : List Int) [(.int .i64 0), (.int .i64 10), (.int .i64 50), (.int .i64 100), (.int .i64 300), (.int .i64 (-5)), (.int .i64 2000)] rfl (fun w => by kernel_rfl) rfl (by decide) rfl trivial (elI [0, 10, 50, 100, 300, (-5), 2000]) (by decide) fun A4 a w hf H => ?_)
  have H := H.freeze 0 rfl
  obtain ⟨y3, hy3, hF⟩ := bind_some hF
  refine wl0 rfl (op_call hf TF.cl133 rfl (by decide) (spec_l1Cur_among_ok (S := St ⟨w0, []⟩ S [⟨b2, 138, [(.slice A3 y2.2.code.length c3), (.int .i64 y2.2.at_), (.int .u64 y2.2.seed.n)]⟩, ⟨b', 28, [(.int .i64 0), (.int .i64 0), (.int .i64 0)]⟩] [] [] false) (H.boxAt 0 rfl) (L1CurP_mk (x := y2.2) (H.get 1 rfl)) (H.notSt 0 rfl _) (mk_list (rep_weak (α := List Int) (H.get 0 rfl))) hy3) fun v3 w a hp3 hf => ?_)
  obtain ⟨hch3, cs3, hbx3, hr3, hs3⟩ := hp3
  replace hr3 := GoTy.mono hr3 (H.movesB 0 rfl false)
  obtain rfl := VR_int hs3
  obtain ⟨A5, c4, rfl, hl4⟩ := L1CurP_cells hr3
  have H := H.wroteBox 0 rfl hch3 hbx3
  have H := H.push (false, MP.val [(.slice A5 y3.2.code.length c4)] y3.2.code) hl4
  refine pRun_ok (tb := tab) (n := 20) tabOk 1 _ _ hf rfl rfl fun a hf => ?_
  refine wl0 rfl (op_storeB hf H 1 TF.sz28 rfl rfl rfl rfl rfl rfl (nle rfl) fun w H => ?_)
  refine pRun_ok (tb := tab) (n := 20) tabOk 2 _ _ hf rfl rfl fun a hf => ?_
  have hf := hf.prune [2, 3, 4] rfl
  refine wl_end ?_
  refine then_n ?_
  refine wp_ret (?_)
  obtain rfl := Option.some.inj hF
  refine ret_3 (fn := Try.f79) (r := .cell 2 28) (s := .tmp 3) (t := .tmp 4) hf rfl (rv_cellN hf H 1 TF.la28 rfl rfl rfl) (rv_tmp hf rfl) (rv_tmp hf rfl) ?_
  exact ⟨_, rfl, H.bel, _, _, _, rfl, Span_mkv, mk_int, mk_int⟩

/- loop.example/g00897/impl.isSpan -/
set_option maxHeartbeats 1000000 in
theorem impl_isSpan_ok {fu : Nat} {w0 : World} {S : Nat → Prop} {v0_ : Value} {s' : Span} {r : Bool} (h0 : VR w0 S v0_ s') (hF : impl_isSpan fu s' = some r) :
    Calls Try.prog 101 [v0_].toArray w0 fun e w' => ∃ v, e = .returned v ∧ (Below w0.heap.size w0 w' ∧ VR w' (St ⟨w0, []⟩ S [] [] [] true) v r) := by
  obtain rfl := Span_open h0
  have H := Mem.start ⟨w0, []⟩ S
  refine enter Try.func101 rfl rfl (nle rfl) rfl fun a hf => ?_
  rw [impl_isSpan] at hF
  refine sq ?_
  refine reg ?_
  refine wl0 rfl (op_box hf H rfl rfl (by decide) fun b' a w hf H => ?_)
  refine pRun_ok (tb := tab) (n := 16) tabOk 1 _ _ hf rfl rfl fun a hf => ?_
  refine wl_end ?_
  refine then_n ?_
  refine sq ?_
  obtain ⟨c, hGc, hF⟩ := bind_some hF
  refine mid (fun a w => Fr a 16 [(2, (.bool c))] ∧ Mem ⟨w0, []⟩ S [] [] [] [] w) ?_ ?_
  · refine reg ?_
    refine pRun_ok (tb := tab) (n := 16) tabOk 1 _ _ hf rfl rfl fun a hf => ?_
    refine wl0 rfl (op_q hf (rq_loadB hf H TF.ls3 0 rfl rfl rfl) rfl (by decide) fun a hf => ?_)
    obtain ⟨y, hy, hGc⟩ := bind_some hGc
    refine wl0 rfl (op_call hf TF.cl98 rfl (by decide) (impl_within_ok (S := fun _ => True) mk_int mk_int mk_int hy) fun v w a hp hf => ?_)
    obtain ⟨hb, hp⟩ := hp
    obtain rfl := VR_bool hp
    have H := H.keep hb
    refine pRun_ok (tb := tab) (n := 16) tabOk 1 _ _ hf rfl rfl fun a hf => ?_
    refine (Bool.eq_false_or_eq_true (y)).elim (fun hc => ?_) (fun hc => ?_)
    · rw [if_pos hc] at hGc
      have hf := hf.lit 6 rfl hc
      refine pRun_ok (tb := tab) (n := 16) tabOk 1 _ _ hf rfl rfl fun a hf => ?_
      refine wlg hf rfl rfl rfl (op_q hf (rq_loadB hf H TF.ls3 0 rfl rfl rfl) rfl (by decide) fun a hf => ?_)
      obtain ⟨y2, hy2, hGc⟩ := bind_some hGc
      refine wlg hf rfl rfl rfl (op_call hf TF.cl98 rfl (by decide) (impl_within_ok (S := fun _ => True) mk_int mk_int mk_int hy2) fun v2 w a hp2 hf => ?_)
      obtain ⟨hb2, hp2⟩ := hp2
      obtain rfl := VR_bool hp2
      have H := H.keep hb2
      refine pRun_ok (tb := tab) (n := 16) tabOk 2 _ _ hf rfl rfl fun a hf => ?_
      refine (Bool.eq_false_or_eq_true (y2)).elim (fun hc2 => ?_) (fun hc2 => ?_)
      · rw [if_pos hc2] at hGc
        have hf := hf.lit 11 rfl hc2
        refine pRun_ok (tb := tab) (n := 16) tabOk 1 _ _ hf rfl rfl fun a hf => ?_
        refine wlg hf rfl rfl rfl (op_q hf (rq_loadB hf H TF.ls3 0 rfl rfl rfl) rfl (by decide) fun a hf => ?_)
        obtain ⟨y3, hy3, hGc⟩ := bind_some hGc
        refine wlg hf rfl rfl rfl (op_call hf TF.cl98 rfl (by decide) (impl_within_ok (S := fun _ => True) mk_int mk_int mk_int hy3) fun v3 w a hp3 hf => ?_)
        obtain ⟨hb3, hp3⟩ := hp3
        obtain rfl := VR_bool hp3
        have H := H.keep hb3
        refine pRun_ok (tb := tab) (n := 16) tabOk 2 _ _ hf rfl rfl fun a hf => ?_
        obtain rfl := Option.some.inj hGc
        have hf := hf.prune [2] rfl
        have H := H.let [false] [] [] []
        exact wl_end ⟨hf, H⟩
      · rw [if_neg (nt hc2)] at hGc
        have hf := hf.lit 11 rfl hc2
        refine pRun_ok (tb := tab) (n := 16) tabOk 5 _ _ hf rfl rfl fun a hf => ?_
        obtain rfl := Option.some.inj hGc
        have hf := hf.prune [2] rfl
        have H := H.let [false] [] [] []
        exact wl_end ⟨hf, H⟩
    · rw [if_neg (nt hc)] at hGc
      have hf := hf.lit 6 rfl hc
      refine pRun_ok (tb := tab) (n := 16) tabOk 10 _ _ hf rfl rfl fun a hf => ?_
      obtain rfl := Option.some.inj hGc
      have hf := hf.prune [2] rfl
      have H := H.let [false] [] [] []
      exact wl_end ⟨hf, H⟩
  rintro a w ⟨hf, H⟩
  refine then_n ?_
  refine wp_ret (?_)
  obtain rfl := Option.some.inj hF
  refine ret_1 (fn := Try.f101) (r := .tmp 2) hf rfl (rv_tmp hf rfl) ?_
  exact ⟨_, rfl, H.bel, mk_bool⟩

/- loop.example/g00897/impl.lossOf -/
set_option maxHeartbeats 1000000 in
theorem impl_lossOf_ok {fu : Nat} {w0 : World} {S : Nat → Prop} {v0_ : Value} {s' : Span} {r : Int} (h0 : VR w0 S v0_ s') (hF : impl_lossOf fu s' = some r) :
    Calls Try.prog 102 [v0_].toArray w0 fun e w' => ∃ v, e = .returned v ∧ (Below w0.heap.size w0 w' ∧ VR w' (St ⟨w0, []⟩ S [] [] [] true) v r) := by
  obtain rfl := Span_open h0
  have H := Mem.start ⟨w0, []⟩ S
  refine enter Try.func102 rfl rfl (nle rfl) rfl fun a hf => ?_
  rw [impl_lossOf] at hF
  refine sq ?_
  refine reg ?_
  refine wl0 rfl (op_box hf H rfl rfl (by decide) fun b' a w hf H => ?_)
  refine pRun_ok (tb := tab) (n := 14) tabOk 1 _ _ hf rfl rfl fun a hf => ?_
  refine wl_end ?_
  refine then_n ?_
  refine sq ?_
  refine reg ?_
  refine pRun_ok (tb := tab) (n := 14) tabOk 1 _ _ hf rfl rfl fun a hf => ?_
  refine wl0 rfl (op_q hf (rq_loadB hf H TF.ls3 0 rfl rfl rfl) rfl (by decide) fun a hf => ?_)
  refine pRun_ok (tb := tab) (n := 14) tabOk 1 _ _ hf rfl rfl fun a hf => ?_
  refine wl0 rfl (op_q hf (rq_loadB hf H TF.ls3 0 rfl rfl rfl) rfl (by decide) fun a hf => ?_)
  refine pRun_ok (tb := tab) (n := 14) tabOk 2 _ _ hf rfl rfl fun a hf => ?_
  obtain ⟨q, hq, hF⟩ := bind_some hF
  refine wl0 rfl (op_q hf (rq_quo hf rfl rfl hq) rfl (by decide) fun a hf => ?_)
  refine pRun_ok (tb := tab) (n := 14) tabOk 1 _ _ hf rfl rfl fun a hf => ?_
  refine wl0 rfl (op_q hf (rq_loadB hf H TF.ls3 0 rfl rfl rfl) rfl (by decide) fun a hf => ?_)
  refine pRun_ok (tb := tab) (n := 14) tabOk 3 _ _ hf rfl rfl fun a hf => ?_
  have hf := hf.prune [2] rfl
  refine wl_end ?_
  refine then_n ?_
  refine wp_ret (?_)
  obtain rfl := Option.some.inj hF
  refine ret_1 (fn := Try.f102) (r := .tmp 2) hf rfl (rv_tmp hf rfl) ?_
  exact ⟨_, rfl, H.bel, mk_int⟩
end AT
