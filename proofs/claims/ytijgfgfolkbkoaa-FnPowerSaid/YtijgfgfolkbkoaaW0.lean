/- The Go functions do what is told of them, by program (gen.py). -/
import Derived.Test.YtijgfgfolkbkoaaT
set_option linter.unusedVariables false
set_option linter.unusedSimpArgs false
set_option maxRecDepth 100000
namespace AT
open Go Go.RowKit Go.Proofs

/- loop.example/g00897/laws.vBig -/
set_option maxHeartbeats 1000000 in
theorem laws_vBig_ok {fu : Nat} {w0 : World} {S : Nat → Prop} {v0_ : Value} {code : List By} {r : Bool} (h0 : VR w0 S v0_ code) (hF : laws_vBig fu code = some r) :
    Calls Try.prog 76 [v0_].toArray w0 fun e w' => ∃ v, e = .returned v ∧ (Below w0.heap.size w0 w' ∧ VR w' (St ⟨w0, []⟩ S [] [] [] true) v r) := by
  obtain ⟨A, c, rfl, hl⟩ := VR_list h0
  have H := Mem.start ⟨w0, []⟩ S
  have H := H.pushArg (MP.val [(.slice A code.length c)] code) hl
  refine enter Try.func76 rfl rfl (nle rfl) rfl fun a hf => ?_
  rw [laws_vBig] at hF
  refine sq ?_
  refine reg ?_
  refine pRun_ok (tb := tab) (n := 6) tabOk 1 _ _ hf rfl rfl fun a hf => ?_
  refine wl_end ?_
  refine then_n ?_
  refine sq ?_
  refine reg ?_
  refine pRun_ok (tb := tab) (n := 6) tabOk 4 _ _ hf rfl rfl fun a hf => ?_
  refine wl_end ?_
  refine then_n ?_
  refine wp_ret (?_)
  obtain rfl := Option.some.inj hF
  refine ret_1 (fn := Try.f76) (r := .tmp 2) hf rfl (rv_tmp hf rfl) ?_
  exact ⟨_, rfl, H.bel, mk_bool⟩

/- (*loop.example/g00897/spec.l1Cur).next -/
set_option maxHeartbeats 1000000 in
theorem spec_l1Cur_next_ok {fu : Nat} {w0 : World} {S : Nat → Prop} {b0 : Nat} {cs0 : List Value} {c : L1CurP} {r : Int × L1CurP} (hp0 : w0.heap[b0]? = some (.cells cs0.toArray 138 (0, 0))) (hr0 : GoTy.rep w0 S cs0 c) (hS0 : ¬ S b0) (hF : spec_l1Cur_next fu c = some r) :
    Calls Try.prog 159 [(.pointer (some ⟨b0, 0, none⟩))].toArray w0 fun e w' => ∃ v, e = .returned v ∧ (Chg w0 w' [b0] ∧ ∃ cs', w'.heap[b0]? = some (.cells cs'.toArray 138 (0, 0)) ∧ GoTy.rep w' (St ⟨w0, [b0]⟩ S [⟨b0, 138, cs'⟩] [] [] false) cs' r.2 ∧ VR w' (St ⟨w0, [b0]⟩ S [⟨b0, 138, cs'⟩] [] [] true) v r.1) := by
  obtain ⟨A, c2, rfl, hl⟩ := L1CurP_cells hr0
  have H := Mem.startB S hp0
  have H := H.argB (by simpa using hS0) (p := MP.val [(.slice A c.code.length c2)] c.code) hl
  refine enter Try.func159 rfl rfl (nle rfl) rfl fun a hf => ?_
  rw [spec_l1Cur_next] at hF
  refine sq ?_
  refine reg ?_
  refine pRun_ok (tb := tab) (n := 62) tabOk 1 _ _ hf rfl rfl fun a hf => ?_
  refine wl_end ?_
  refine then_n ?_
  refine sq ?_
  refine reg ?_
  refine pRun_ok (tb := tab) (n := 62) tabOk 1 _ _ hf rfl rfl fun a hf => ?_
  refine wl_end ?_
  refine then_n ?_
  refine sq ?_
  refine sq ?_
  refine drawn [] (bs := [false, false, false, false, false, false, false, false, false, false]) (fuel := 10) (Checked.mixed Try.checked) rfl rfl fun w hb => ?_
  have H := H.keep hb
  refine tkP (i := 0) (bs' := [true, false, false, false, false, false, false, false, false, false]) rfl rfl rfl (by decide) hf (by kernel_rfl) (fun _ => trivial) (fun w => pOp_ok (tb := tab) tabOk hf rfl) rfl fun a hf => ?_
  refine tkP (i := 1) (bs' := [true, true, false, false, false, false, false, false, false, false]) rfl rfl rfl (by decide) hf (by kernel_rfl) (fun _ => trivial) (fun w => pOp_ok (tb := tab) tabOk hf rfl) rfl fun a hf => ?_
  refine tkP (i := 2) (bs' := [true, true, true, false, false, false, false, false, false, false]) rfl rfl rfl (by decide) hf (by kernel_rfl) (fun _ => trivial) (fun w => pOp_ok (tb := tab) tabOk hf rfl) rfl fun a hf => ?_
  refine str (fun w => Mem ⟨w0, [b0]⟩ S [⟨b0, 138, [(.slice A c.code.length c2), (.int .i64 c.at_), (.int .u64 c.seed.n)]⟩] [] [] [(false, MP.val [(.slice A c.code.length c2)] (c.code : List By))] w) (fun w H => trivial) ?_
  have hS : Mem ⟨w0, [b0]⟩ S [⟨b0, 138, [(.slice A c.code.length c2), (.int .i64 c.at_), (.int .u64 c.seed.n)]⟩] [] [] [(false, MP.val [(.slice A c.code.length c2)] (c.code : List By))] w := H.let [true] [] [] [0]
  refine tkS (i := 3) (bs' := [true, true, true, true, false, false, false, false, false, false]) [] rfl rfl rfl (by decide) hf (by kernel_rfl) (by kernel_rfl) hS (fun w H => rq_loadB hf H TF.ls3 0 rfl rfl rfl) rfl fun a hf => ?_
  refine tkP (i := 4) (bs' := [true, true, true, true, true, false, false, false, false, false]) rfl rfl rfl (by decide) hf (by kernel_rfl) (fun _ => hS) (fun w => pOp_ok (tb := tab) tabOk hf rfl) rfl fun a hf => ?_
  refine tkP (i := 5) (bs' := [true, true, true, true, true, true, false, false, false, false]) rfl rfl rfl (by decide) hf (by kernel_rfl) (fun _ => hS) (fun w => pOp_ok (tb := tab) tabOk hf rfl) rfl fun a hf => ?_
  refine tkP (i := 6) (bs' := [true, true, true, true, true, true, true, false, false, false]) rfl rfl rfl (by decide) hf (by kernel_rfl) (fun _ => hS) (fun w => pOp_ok (tb := tab) tabOk hf rfl) rfl fun a hf => ?_
  refine tkS (i := 7) (bs' := [true, true, true, true, true, true, true, true, false, false]) [] rfl rfl rfl (by decide) hf (by kernel_rfl) (by kernel_rfl) hS (fun w H => rq_loadB hf H TF.ls83 0 rfl rfl rfl) rfl fun a hf => ?_
  refine tkP (i := 8) (bs' := [true, true, true, true, true, true, true, true, true, false]) rfl rfl rfl (by decide) hf (by kernel_rfl) (fun _ => hS) (fun w => pOp_ok (tb := tab) tabOk hf rfl) rfl fun a hf => ?_
  refine tkP (i := 9) (bs' := [true, true, true, true, true, true, true, true, true, true]) rfl rfl rfl (by decide) hf (by kernel_rfl) (fun _ => hS) (fun w => pOp_ok (tb := tab) tabOk hf rfl) rfl fun a hf => ?_
  refine dn (by kernel_rfl) ?_
  refine then_n ?_
  refine (Bool.eq_false_or_eq_true (decide (c.at_ < (c.code.length : Int)))).elim (fun hc => ?_) (fun hc => ?_)
  · rw [if_pos hc] at hF
    refine cd_t hf rfl hc ?_
    refine drawn [] (bs := [false, false, false, false, false, false, false, false, false, false, false, false]) (fuel := 12) (Checked.mixed Try.checked) rfl rfl fun w hb => ?_
    have H := H.keep hb
    refine tkP (i := 0) (bs' := [true, false, false, false, false, false, false, false, false, false, false, false]) rfl rfl rfl (by decide) hf (by kernel_rfl) (fun _ => trivial) (fun w => pOp_ok (tb := tab) tabOk hf rfl) rfl fun a hf => ?_
    refine tkP (i := 1) (bs' := [true, true, false, false, false, false, false, false, false, false, false, false]) rfl rfl rfl (by decide) hf (by kernel_rfl) (fun _ => trivial) (fun w => pOp_ok (tb := tab) tabOk hf rfl) rfl fun a hf => ?_
    refine tkP (i := 2) (bs' := [true, true, true, false, false, false, false, false, false, false, false, false]) rfl rfl rfl (by decide) hf (by kernel_rfl) (fun _ => trivial) (fun w => pOp_ok (tb := tab) tabOk hf rfl) rfl fun a hf => ?_
    refine str (fun w => Mem ⟨w0, [b0]⟩ S [⟨b0, 138, [(.slice A c.code.length c2), (.int .i64 c.at_), (.int .u64 c.seed.n)]⟩] [] [] [(false, MP.val [(.slice A c.code.length c2)] (c.code : List By))] w) (fun w H => trivial) ?_
    have hS : Mem ⟨w0, [b0]⟩ S [⟨b0, 138, [(.slice A c.code.length c2), (.int .i64 c.at_), (.int .u64 c.seed.n)]⟩] [] [] [(false, MP.val [(.slice A c.code.length c2)] (c.code : List By))] w := H.let [true] [] [] [0]
    refine tkS (i := 3) (bs' := [true, true, true, true, false, false, false, false, false, false, false, false]) [] rfl rfl rfl (by decide) hf (by kernel_rfl) (by kernel_rfl) hS (fun w H => rq_loadB hf H TF.ls83 0 rfl rfl rfl) rfl fun a hf => ?_
    refine tkP (i := 4) (bs' := [true, true, true, true, true, false, false, false, false, false, false, false]) rfl rfl rfl (by decide) hf (by kernel_rfl) (fun _ => hS) (fun w => pOp_ok (tb := tab) tabOk hf rfl) rfl fun a hf => ?_
    refine tkP (i := 5) (bs' := [true, true, true, true, true, true, false, false, false, false, false, false]) rfl rfl rfl (by decide) hf (by kernel_rfl) (fun _ => hS) (fun w => pOp_ok (tb := tab) tabOk hf rfl) rfl fun a hf => ?_
    refine tkP (i := 6) (bs' := [true, true, true, true, true, true, true, false, false, false, false, false]) rfl rfl rfl (by decide) hf (by kernel_rfl) (fun _ => hS) (fun w => pOp_ok (tb := tab) tabOk hf rfl) rfl fun a hf => ?_
    refine tkS (i := 7) (bs' := [true, true, true, true, true, true, true, true, false, false, false, false]) [] rfl rfl rfl (by decide) hf (by kernel_rfl) (by kernel_rfl) hS (fun w H => rq_loadB hf H TF.ls3 0 rfl rfl rfl) rfl fun a hf => ?_
    obtain ⟨e, he, hF⟩ := bind_some hF
    obtain ⟨p, o, cs, hx, hr, H⟩ := pre_iaddr H Try.underlying83 TF.sz5 0 rfl he
    refine tkP (i := 8) (bs' := [true, true, true, true, true, true, true, true, true, false, false, false]) rfl rfl rfl (by decide) hf (by kernel_rfl) (fun _ => hS) (fun w => rq_iaddrE hf rfl rfl rfl hx w) rfl fun a hf => ?_
    obtain rfl := hr
    refine str (fun w => Mem ⟨w0, [b0]⟩ S [⟨b0, 138, [(.slice A c.code.length c2), (.int .i64 c.at_), (.int .u64 c.seed.n)]⟩] [] [] [(false, MP.cells ⟨p, o, none⟩ [(.int .u8 e.n)]), (false, MP.val [(.slice A c.code.length c2)] (c.code : List By))] w) (fun w H => H.let [true] [] [] [1]) ?_
    have hS : Mem ⟨w0, [b0]⟩ S [⟨b0, 138, [(.slice A c.code.length c2), (.int .i64 c.at_), (.int .u64 c.seed.n)]⟩] [] [] [(false, MP.cells ⟨p, o, none⟩ [(.int .u8 e.n)]), (false, MP.val [(.slice A c.code.length c2)] (c.code : List By))] w := H.let [true] [] [] [0, 1]
    refine tkS (i := 9) (bs' := [true, true, true, true, true, true, true, true, true, true, false, false]) [] rfl rfl rfl (by decide) hf (by kernel_rfl) (by kernel_rfl) hS (fun w H => rq_loadI hf H TF.ls5 0 0 rfl rfl rfl) rfl fun a hf => ?_
    refine on1 (i := 10) (bs' := [true, true, true, true, true, true, true, true, true, true, true, false]) (by kernel_rfl) rfl rfl rfl (op_q hf (rq_conv i64w Try.underlying5 Try.underlying3 hf rfl) rfl (by decide) fun a hf => ?_)
    have hS : Mem ⟨w0, [b0]⟩ S [⟨b0, 138, [(.slice A c.code.length c2), (.int .i64 c.at_), (.int .u64 c.seed.n)]⟩] [] [] [(false, MP.cells ⟨p, o, none⟩ [(.int .u8 e.n)]), (false, MP.val [(.slice A c.code.length c2)] (c.code : List By))] w := H.let [true] [] [] [0, 1]
    refine ⟨fun _ => hS, ?_⟩
    refine tkP (i := 11) (bs' := [true, true, true, true, true, true, true, true, true, true, true, true]) rfl rfl rfl (by decide) hf (by kernel_rfl) (fun _ => hS) (fun w => pOp_ok (tb := tab) tabOk hf rfl) rfl fun a hf => ?_
    refine dn (by kernel_rfl) ?_
    have hf := hf.prune [0, 3] rfl
    refine then_n ?_
    refine sq ?_
    refine reg ?_
    refine pRun_ok (tb := tab) (n := 62) tabOk 3 _ _ hf rfl rfl fun a hf => ?_
    refine wl0 rfl (op_q hf (rq_loadB hf H TF.ls3 0 rfl rfl rfl) rfl (by decide) fun a hf => ?_)
    refine pRun_ok (tb := tab) (n := 62) tabOk 3 _ _ hf rfl rfl fun a hf => ?_
    refine wl0 rfl (op_storeB hf H 0 TF.sz3 rfl rfl rfl rfl rfl rfl (nle rfl) fun w H => ?_)
    refine wl_end ?_
    refine then_n ?_
    refine sq ?_
    refine reg ?_
    refine pRun_ok (tb := tab) (n := 62) tabOk 4 _ _ hf rfl rfl fun a hf => ?_
    refine wl0 rfl (op_q hf (rq_loadB hf H TF.ls136 0 rfl rfl rfl) rfl (by decide) fun a hf => ?_)
    refine wl0 rfl (op_q hf (rq_mulK u64w hf rfl rfl) rfl (by decide) fun a hf => ?_)
    refine pRun_ok (tb := tab) (n := 62) tabOk 1 _ _ hf rfl rfl fun a hf => ?_
    refine wl0 rfl (op_q hf (rq_conv u64w Try.underlying3 Try.underlying136 hf rfl) rfl (by decide) fun a hf => ?_)
    refine wl0 rfl (op_q hf (rq_addK u64w hf rfl rfl) rfl (by decide) fun a hf => ?_)
    refine wl0 rfl (op_q hf (rq_addK u64w hf rfl rfl) rfl (by decide) fun a hf => ?_)
    refine pRun_ok (tb := tab) (n := 62) tabOk 2 _ _ hf rfl rfl fun a hf => ?_
    refine wl0 rfl (op_storeB hf H 0 TF.sz136 rfl rfl rfl rfl rfl rfl (nle rfl) fun w H => ?_)
    have hf := hf.prune [0, 3] rfl
    refine wl_end ?_
    refine then_n ?_
    refine sq ?_
    refine sq ?_
    refine drawn [] (bs := [false, false, false, false, false, false, false, false, false, false]) (fuel := 10) (Checked.mixed Try.checked) rfl rfl fun w hb => ?_
    have H := H.keep hb
    refine tkP (i := 0) (bs' := [true, false, false, false, false, false, false, false, false, false]) rfl rfl rfl (by decide) hf (by kernel_rfl) (fun _ => trivial) (fun w => pOp_ok (tb := tab) tabOk hf rfl) rfl fun a hf => ?_
    refine tkP (i := 1) (bs' := [true, true, false, false, false, false, false, false, false, false]) rfl rfl rfl (by decide) hf (by kernel_rfl) (fun _ => trivial) (fun w => pOp_ok (tb := tab) tabOk hf rfl) rfl fun a hf => ?_
    refine tkP (i := 2) (bs' := [true, true, true, false, false, false, false, false, false, false]) rfl rfl rfl (by decide) hf (by kernel_rfl) (fun _ => trivial) (fun w => pOp_ok (tb := tab) tabOk hf rfl) rfl fun a hf => ?_
    refine str (fun w => Mem ⟨w0, [b0]⟩ S [⟨b0, 138, [(.slice A c.code.length c2), (.int .i64 (w64 (c.at_ + 1))), (.int .u64 (wu64 ((wu64 ((wu64 (c.seed.n * 6364136223846793005)) + (wu64 (w64 e.n)))) + 897897)))]⟩] [] [] [(false, MP.cells ⟨p, o, none⟩ [(.int .u8 e.n)]), (false, MP.val [(.slice A c.code.length c2)] (c.code : List By))] w) (fun w H => trivial) ?_
    have hS : Mem ⟨w0, [b0]⟩ S [⟨b0, 138, [(.slice A c.code.length c2), (.int .i64 (w64 (c.at_ + 1))), (.int .u64 (wu64 ((wu64 ((wu64 (c.seed.n * 6364136223846793005)) + (wu64 (w64 e.n)))) + 897897)))]⟩] [] [] [(false, MP.cells ⟨p, o, none⟩ [(.int .u8 e.n)]), (false, MP.val [(.slice A c.code.length c2)] (c.code : List By))] w := H.let [true] [] [] [0, 1]
    refine tkS (i := 3) (bs' := [true, true, true, true, false, false, false, false, false, false]) [] rfl rfl rfl (by decide) hf (by kernel_rfl) (by kernel_rfl) hS (fun w H => rq_loadB hf H TF.ls3 0 rfl rfl rfl) rfl fun a hf => ?_
    refine tkP (i := 4) (bs' := [true, true, true, true, true, false, false, false, false, false]) rfl rfl rfl (by decide) hf (by kernel_rfl) (fun _ => hS) (fun w => pOp_ok (tb := tab) tabOk hf rfl) rfl fun a hf => ?_
    refine tkP (i := 5) (bs' := [true, true, true, true, true, true, false, false, false, false]) rfl rfl rfl (by decide) hf (by kernel_rfl) (fun _ => hS) (fun w => pOp_ok (tb := tab) tabOk hf rfl) rfl fun a hf => ?_
    refine tkP (i := 6) (bs' := [true, true, true, true, true, true, true, false, false, false]) rfl rfl rfl (by decide) hf (by kernel_rfl) (fun _ => hS) (fun w => pOp_ok (tb := tab) tabOk hf rfl) rfl fun a hf => ?_
    refine tkS (i := 7) (bs' := [true, true, true, true, true, true, true, true, false, false]) [] rfl rfl rfl (by decide) hf (by kernel_rfl) (by kernel_rfl) hS (fun w H => rq_loadB hf H TF.ls83 0 rfl rfl rfl) rfl fun a hf => ?_
    refine tkP (i := 8) (bs' := [true, true, true, true, true, true, true, true, true, false]) rfl rfl rfl (by decide) hf (by kernel_rfl) (fun _ => hS) (fun w => pOp_ok (tb := tab) tabOk hf rfl) rfl fun a hf => ?_
    refine tkP (i := 9) (bs' := [true, true, true, true, true, true, true, true, true, true]) rfl rfl rfl (by decide) hf (by kernel_rfl) (fun _ => hS) (fun w => pOp_ok (tb := tab) tabOk hf rfl) rfl fun a hf => ?_
    refine dn (by kernel_rfl) ?_
    refine then_n ?_
    refine (Bool.eq_false_or_eq_true (decide ((w64 (c.at_ + 1)) ≤ (c.code.length : Int)))).elim (fun hc2 => ?_) (fun hc2 => ?_)
    · rw [if_pos hc2] at hF
      refine cd_t hf rfl hc2 ?_
      refine sq ?_
      refine reg ?_
      refine pRun_ok (tb := tab) (n := 62) tabOk 2 _ _ hf rfl rfl fun a hf => ?_
      have hf := hf.prune [2] rfl
      refine wl_end ?_
      refine then_n ?_
      refine wp_ret (then_r (?_))
      obtain rfl := Option.some.inj hF
      refine ret_1 (fn := Try.f159) (r := .tmp 2) hf rfl (rv_tmp hf rfl) ?_
      exact ⟨_, rfl, H.chg, _, H.boxAt 0 rfl, (L1CurP_mk (x := ({ code := c.code, at_ := w64 (c.at_ + 1), seed := (⟨wu64 ((wu64 ((wu64 (c.seed.n * 6364136223846793005)) + (wu64 (w64 e.n)))) + 897897)⟩ : U64) } : L1CurP)) (rep_endB (M := _) (i := 0) rfl (α := List By) (H.get 1 rfl))), mk_int⟩
    · rw [if_neg (nt hc2)] at hF
      refine cd_f hf rfl hc2 ?_
      refine wp_skip ?_
      refine then_n ?_
      refine sq ?_
      refine reg ?_
      refine pRun_ok (tb := tab) (n := 62) tabOk 3 _ _ hf rfl rfl fun a hf => ?_
      refine wl0 rfl (op_q hf (rq_loadB hf H TF.ls136 0 rfl rfl rfl) rfl (by decide) fun a hf => ?_)
      obtain ⟨q, hq, hF⟩ := bind_some hF
      refine wl0 rfl (op_q hf (rq_shrK rfl hf rfl rfl hq) rfl (by decide) fun a hf => ?_)
      refine wl0 rfl (op_q hf (rq_andu64 hf rfl rfl) rfl (by decide) fun a hf => ?_)
      refine wl0 rfl (op_q hf (rq_conv i64w Try.underlying136 Try.underlying3 hf rfl) rfl (by decide) fun a hf => ?_)
      refine pRun_ok (tb := tab) (n := 62) tabOk 1 _ _ hf rfl rfl fun a hf => ?_
      have hf := hf.prune [2] rfl
      refine wl_end ?_
      refine then_n ?_
      refine wp_ret (?_)
      obtain rfl := Option.some.inj hF
      refine ret_1 (fn := Try.f159) (r := .tmp 2) hf rfl (rv_tmp hf rfl) ?_
      exact ⟨_, rfl, H.chg, _, H.boxAt 0 rfl, (L1CurP_mk (x := ({ code := c.code, at_ := w64 (c.at_ + 1), seed := (⟨wu64 ((wu64 ((wu64 (c.seed.n * 6364136223846793005)) + (wu64 (w64 e.n)))) + 897897)⟩ : U64) } : L1CurP)) (rep_endB (M := _) (i := 0) rfl (α := List By) (H.get 1 rfl))), mk_int⟩
  · rw [if_neg (nt hc)] at hF
    refine cd_f hf rfl hc ?_
    refine wp_skip ?_
    refine then_n ?_
    refine sq ?_
    refine reg ?_
    refine pRun_ok (tb := tab) (n := 62) tabOk 3 _ _ hf rfl rfl fun a hf => ?_
    refine wl0 rfl (op_q hf (rq_loadB hf H TF.ls3 0 rfl rfl rfl) rfl (by decide) fun a hf => ?_)
    refine pRun_ok (tb := tab) (n := 62) tabOk 3 _ _ hf rfl rfl fun a hf => ?_
    refine wl0 rfl (op_storeB hf H 0 TF.sz3 rfl rfl rfl rfl rfl rfl (nle rfl) fun w H => ?_)
    have hf := hf.prune [0, 3] rfl
    refine wl_end ?_
    refine then_n ?_
    refine sq ?_
    refine reg ?_
    refine pRun_ok (tb := tab) (n := 62) tabOk 4 _ _ hf rfl rfl fun a hf => ?_
    refine wl0 rfl (op_q hf (rq_loadB hf H TF.ls136 0 rfl rfl rfl) rfl (by decide) fun a hf => ?_)
    refine wl0 rfl (op_q hf (rq_mulK u64w hf rfl rfl) rfl (by decide) fun a hf => ?_)
    refine pRun_ok (tb := tab) (n := 62) tabOk 1 _ _ hf rfl rfl fun a hf => ?_
    refine wl0 rfl (op_q hf (rq_conv u64w Try.underlying3 Try.underlying136 hf rfl) rfl (by decide) fun a hf => ?_)
    refine wl0 rfl (op_q hf (rq_addK u64w hf rfl rfl) rfl (by decide) fun a hf => ?_)
    refine wl0 rfl (op_q hf (rq_addK u64w hf rfl rfl) rfl (by decide) fun a hf => ?_)
    refine pRun_ok (tb := tab) (n := 62) tabOk 2 _ _ hf rfl rfl fun a hf => ?_
    refine wl0 rfl (op_storeB hf H 0 TF.sz136 rfl rfl rfl rfl rfl rfl (nle rfl) fun w H => ?_)
    refine wl_end ?_
    refine then_n ?_
    refine sq ?_
    refine sq ?_
    refine drawn [] (bs := [false, false, false, false, false, false, false, false, false, false]) (fuel := 10) (Checked.mixed Try.checked) rfl rfl fun w hb => ?_
    have H := H.keep hb
    refine tkP (i := 0) (bs' := [true, false, false, false, false, false, false, false, false, false]) rfl rfl rfl (by decide) hf (by kernel_rfl) (fun _ => trivial) (fun w => pOp_ok (tb := tab) tabOk hf rfl) rfl fun a hf => ?_
    refine tkP (i := 1) (bs' := [true, true, false, false, false, false, false, false, false, false]) rfl rfl rfl (by decide) hf (by kernel_rfl) (fun _ => trivial) (fun w => pOp_ok (tb := tab) tabOk hf rfl) rfl fun a hf => ?_
    refine tkP (i := 2) (bs' := [true, true, true, false, false, false, false, false, false, false]) rfl rfl rfl (by decide) hf (by kernel_rfl) (fun _ => trivial) (fun w => pOp_ok (tb := tab) tabOk hf rfl) rfl fun a hf => ?_
    refine str (fun w => Mem ⟨w0, [b0]⟩ S [⟨b0, 138, [(.slice A c.code.length c2), (.int .i64 (w64 (c.at_ + 1))), (.int .u64 (wu64 ((wu64 ((wu64 (c.seed.n * 6364136223846793005)) + (wu64 0))) + 897897)))]⟩] [] [] [(false, MP.val [(.slice A c.code.length c2)] (c.code : List By))] w) (fun w H => trivial) ?_
    have hS : Mem ⟨w0, [b0]⟩ S [⟨b0, 138, [(.slice A c.code.length c2), (.int .i64 (w64 (c.at_ + 1))), (.int .u64 (wu64 ((wu64 ((wu64 (c.seed.n * 6364136223846793005)) + (wu64 0))) + 897897)))]⟩] [] [] [(false, MP.val [(.slice A c.code.length c2)] (c.code : List By))] w := H.let [true] [] [] [0]
    refine tkS (i := 3) (bs' := [true, true, true, true, false, false, false, false, false, false]) [] rfl rfl rfl (by decide) hf (by kernel_rfl) (by kernel_rfl) hS (fun w H => rq_loadB hf H TF.ls3 0 rfl rfl rfl) rfl fun a hf => ?_
    refine tkP (i := 4) (bs' := [true, true, true, true, true, false, false, false, false, false]) rfl rfl rfl (by decide) hf (by kernel_rfl) (fun _ => hS) (fun w => pOp_ok (tb := tab) tabOk hf rfl) rfl fun a hf => ?_
    refine tkP (i := 5) (bs' := [true, true, true, true, true, true, false, false, false, false]) rfl rfl rfl (by decide) hf (by kernel_rfl) (fun _ => hS) (fun w => pOp_ok (tb := tab) tabOk hf rfl) rfl fun a hf => ?_
    refine tkP (i := 6) (bs' := [true, true, true, true, true, true, true, false, false, false]) rfl rfl rfl (by decide) hf (by kernel_rfl) (fun _ => hS) (fun w => pOp_ok (tb := tab) tabOk hf rfl) rfl fun a hf => ?_
    refine tkS (i := 7) (bs' := [true, true, true, true, true, true, true, true, false, false]) [] rfl rfl rfl (by decide) hf (by kernel_rfl) (by kernel_rfl) hS (fun w H => rq_loadB hf H TF.ls83 0 rfl rfl rfl) rfl fun a hf => ?_
    refine tkP (i := 8) (bs' := [true, true, true, true, true, true, true, true, true, false]) rfl rfl rfl (by decide) hf (by kernel_rfl) (fun _ => hS) (fun w => pOp_ok (tb := tab) tabOk hf rfl) rfl fun a hf => ?_
    refine tkP (i := 9) (bs' := [true, true, true, true, true, true, true, true, true, true]) rfl rfl rfl (by decide) hf (by kernel_rfl) (fun _ => hS) (fun w => pOp_ok (tb := tab) tabOk hf rfl) rfl fun a hf => ?_
    refine dn (by kernel_rfl) ?_
    have hf := hf.prune [0, 3, 53] rfl
    refine then_n ?_
    refine (Bool.eq_false_or_eq_true (decide ((w64 (c.at_ + 1)) ≤ (c.code.length : Int)))).elim (fun hc3 => ?_) (fun hc3 => ?_)
    · rw [if_pos hc3] at hF
      refine cd_t hf rfl hc3 ?_
      refine sq ?_
      refine reg ?_
      refine pRun_ok (tb := tab) (n := 62) tabOk 2 _ _ hf rfl rfl fun a hf => ?_
      refine wl_end ?_
      refine then_n ?_
      refine wp_ret (then_r (?_))
      obtain rfl := Option.some.inj hF
      refine ret_1 (fn := Try.f159) (r := .tmp 2) hf rfl (rv_tmp hf rfl) ?_
      exact ⟨_, rfl, H.chg, _, H.boxAt 0 rfl, (L1CurP_mk (x := ({ code := c.code, at_ := w64 (c.at_ + 1), seed := (⟨wu64 ((wu64 ((wu64 (c.seed.n * 6364136223846793005)) + (wu64 0))) + 897897)⟩ : U64) } : L1CurP)) (rep_endB (M := _) (i := 0) rfl (α := List By) (H.get 0 rfl))), mk_int⟩
    · rw [if_neg (nt hc3)] at hF
      refine cd_f hf rfl hc3 ?_
      refine wp_skip ?_
      refine then_n ?_
      refine sq ?_
      refine reg ?_
      refine pRun_ok (tb := tab) (n := 62) tabOk 3 _ _ hf rfl rfl fun a hf => ?_
      refine wl0 rfl (op_q hf (rq_loadB hf H TF.ls136 0 rfl rfl rfl) rfl (by decide) fun a hf => ?_)
      obtain ⟨q2, hq2, hF⟩ := bind_some hF
      refine wl0 rfl (op_q hf (rq_shrK rfl hf rfl rfl hq2) rfl (by decide) fun a hf => ?_)
      refine wl0 rfl (op_q hf (rq_andu64 hf rfl rfl) rfl (by decide) fun a hf => ?_)
      refine wl0 rfl (op_q hf (rq_conv i64w Try.underlying136 Try.underlying3 hf rfl) rfl (by decide) fun a hf => ?_)
      refine pRun_ok (tb := tab) (n := 62) tabOk 1 _ _ hf rfl rfl fun a hf => ?_
      refine wl_end ?_
      refine then_n ?_
      refine wp_ret (?_)
      obtain rfl := Option.some.inj hF
      refine ret_1 (fn := Try.f159) (r := .tmp 2) hf rfl (rv_tmp hf rfl) ?_
      exact ⟨_, rfl, H.chg, _, H.boxAt 0 rfl, (L1CurP_mk (x := ({ code := c.code, at_ := w64 (c.at_ + 1), seed := (⟨wu64 ((wu64 ((wu64 (c.seed.n * 6364136223846793005)) + (wu64 0))) + 897897)⟩ : U64) } : L1CurP)) (rep_endB (M := _) (i := 0) rfl (α := List By) (H.get 0 rfl))), mk_int⟩

/- (*loop.example/g00897/spec.l1Cur).pick -/
set_option maxHeartbeats 1000000 in
theorem spec_l1Cur_pick_ok {fu : Nat} {w0 : World} {S : Nat → Prop} {b0 : Nat} {cs0 : List Value} {v1_ : Value} {c : L1CurP} {n' : Int} {r : Int × L1CurP} (hp0 : w0.heap[b0]? = some (.cells cs0.toArray 138 (0, 0))) (hr0 : GoTy.rep w0 S cs0 c) (hS0 : ¬ S b0) (h1 : VR w0 S v1_ n') (hF : spec_l1Cur_pick fu c n' = some r) :
    Calls Try.prog 134 [(.pointer (some ⟨b0, 0, none⟩)), v1_].toArray w0 fun e w' => ∃ v, e = .returned v ∧ (Chg w0 w' [b0] ∧ ∃ cs', w'.heap[b0]? = some (.cells cs'.toArray 138 (0, 0)) ∧ GoTy.rep w' (St ⟨w0, [b0]⟩ S [⟨b0, 138, cs'⟩] [] [] false) cs' r.2 ∧ VR w' (St ⟨w0, [b0]⟩ S [⟨b0, 138, cs'⟩] [] [] true) v r.1) := by
  obtain ⟨A, c2, rfl, hl⟩ := L1CurP_cells hr0
  obtain rfl := VR_int h1
  have H := Mem.startB S hp0
  have H := H.argB (by simpa using hS0) (p := MP.val [(.slice A c.code.length c2)] c.code) hl
  refine enter Try.func134 rfl rfl (nle rfl) rfl fun a hf => ?_
  rw [spec_l1Cur_pick] at hF
  refine sq ?_
  refine reg ?_
  refine pRun_ok (tb := tab) (n := 20) tabOk 1 _ _ hf rfl rfl fun a hf => ?_
  refine wl_end ?_
  refine then_n ?_
  refine sq ?_
  refine sq ?_
  refine reg ?_
  refine pRun_ok (tb := tab) (n := 20) tabOk 2 _ _ hf rfl rfl fun a hf => ?_
  refine wl_end ?_
  refine then_n ?_
  refine (Bool.eq_false_or_eq_true (decide (n' ≤ 1))).elim (fun hc => ?_) (fun hc => ?_)
  · rw [if_pos hc] at hF
    refine cd_t hf rfl hc ?_
    refine sq ?_
    refine reg ?_
    refine pRun_ok (tb := tab) (n := 20) tabOk 1 _ _ hf rfl rfl fun a hf => ?_
    refine wl_end ?_
    refine then_n ?_
    refine wp_ret (then_r (?_))
    obtain rfl := Option.some.inj hF
    refine ret_1 (fn := Try.f134) (r := .tmp 4) hf rfl (rv_tmp hf rfl) ?_
    exact ⟨_, rfl, H.chg, _, H.boxAt 0 rfl, (L1CurP_mk (x := c) (rep_endB (M := _) (i := 0) rfl (α := List By) (H.get 0 rfl))), mk_int⟩
  · rw [if_neg (nt hc)] at hF
    refine cd_f hf rfl hc ?_
    refine wp_skip ?_
    refine then_n ?_
    refine sq ?_
    refine reg ?_
    refine pRun_ok (tb := tab) (n := 20) tabOk 1 _ _ hf rfl rfl fun a hf => ?_
    obtain ⟨y, hy, hF⟩ := bind_some hF
    refine wl0 rfl (op_call hf TF.cl159 rfl (by decide) (spec_l1Cur_next_ok (S := St ⟨w0, [b0]⟩ S [⟨b0, 138, [(.slice A c.code.length c2), (.int .i64 c.at_), (.int .u64 c.seed.n)]⟩] [] [] false) (H.boxAt 0 rfl) (L1CurP_mk (x := c) (H.get 0 rfl)) (H.notSt 0 rfl _) hy) fun v w a hp hf => ?_)
    obtain ⟨hch, cs, hbx, hr, hs⟩ := hp
    replace hr := GoTy.mono hr (H.movesB 0 rfl false)
    obtain rfl := VR_int hs
    obtain ⟨A2, c3, rfl, hl2⟩ := L1CurP_cells hr
    have H := H.wroteBox 0 rfl hch hbx
    have H := H.push (false, MP.val [(.slice A2 y.2.code.length c3)] y.2.code) hl2
    refine pRun_ok (tb := tab) (n := 20) tabOk 1 _ _ hf rfl rfl fun a hf => ?_
    refine wl_end ?_
    refine then_n ?_
    refine sq ?_
    refine sq ?_
    refine reg ?_
    refine pRun_ok (tb := tab) (n := 20) tabOk 2 _ _ hf rfl rfl fun a hf => ?_
    refine wl_end ?_
    refine then_n ?_
    refine (Bool.eq_false_or_eq_true (decide (n' > 200))).elim (fun hc2 => ?_) (fun hc2 => ?_)
    · rw [if_pos hc2] at hF
      refine cd_t hf rfl hc2 ?_
      refine reg ?_
      refine pRun_ok (tb := tab) (n := 20) tabOk 3 _ _ hf rfl rfl fun a hf => ?_
      obtain ⟨y2, hy2, hF⟩ := bind_some hF
      refine wl0 rfl (op_call hf TF.cl159 rfl (by decide) (spec_l1Cur_next_ok (S := St ⟨w0, [b0]⟩ S [⟨b0, 138, [(.slice A2 y.2.code.length c3), (.int .i64 y.2.at_), (.int .u64 y.2.seed.n)]⟩] [] [] false) (H.boxAt 0 rfl) (L1CurP_mk (x := y.2) (H.get 0 rfl)) (H.notSt 0 rfl _) hy2) fun v2 w a hp2 hf => ?_)
      obtain ⟨hch2, cs2, hbx2, hr2, hs2⟩ := hp2
      replace hr2 := GoTy.mono hr2 (H.movesB 0 rfl false)
      obtain rfl := VR_int hs2
      obtain ⟨A3, c4, rfl, hl3⟩ := L1CurP_cells hr2
      have H := H.wroteBox 0 rfl hch2 hbx2
      have H := H.push (false, MP.val [(.slice A3 y2.2.code.length c4)] y2.2.code) hl3
      refine pRun_ok (tb := tab) (n := 20) tabOk 2 _ _ hf rfl rfl fun a hf => ?_
      have hf := hf.prune [1, 5] rfl
      refine wl_end ?_
      refine then_n ?_
      refine sq ?_
      refine reg ?_
      refine pRun_ok (tb := tab) (n := 20) tabOk 2 _ _ hf rfl rfl fun a hf => ?_
      obtain ⟨q, hq, hF⟩ := bind_some hF
      refine wl0 rfl (op_q hf (rq_rem hf rfl rfl hq) rfl (by decide) fun a hf => ?_)
      refine pRun_ok (tb := tab) (n := 20) tabOk 1 _ _ hf rfl rfl fun a hf => ?_
      refine wl_end ?_
      refine then_n ?_
      refine wp_ret (?_)
      obtain rfl := Option.some.inj hF
      refine ret_1 (fn := Try.f134) (r := .tmp 4) hf rfl (rv_tmp hf rfl) ?_
      exact ⟨_, rfl, H.chg, _, H.boxAt 0 rfl, (L1CurP_mk (x := y2.2) (rep_endB (M := _) (i := 0) rfl (α := List By) (H.get 0 rfl))), mk_int⟩
    · rw [if_neg (nt hc2)] at hF
      refine cd_f hf rfl hc2 ?_
      refine wp_skip ?_
      refine then_n ?_
      refine sq ?_
      refine reg ?_
      refine pRun_ok (tb := tab) (n := 20) tabOk 2 _ _ hf rfl rfl fun a hf => ?_
      obtain ⟨q2, hq2, hF⟩ := bind_some hF
      refine wl0 rfl (op_q hf (rq_rem hf rfl rfl hq2) rfl (by decide) fun a hf => ?_)
      refine pRun_ok (tb := tab) (n := 20) tabOk 1 _ _ hf rfl rfl fun a hf => ?_
      refine wl_end ?_
      refine then_n ?_
      refine wp_ret (?_)
      obtain rfl := Option.some.inj hF
      refine ret_1 (fn := Try.f134) (r := .tmp 4) hf rfl (rv_tmp hf rfl) ?_
      exact ⟨_, rfl, H.chg, _, H.boxAt 0 rfl, (L1CurP_mk (x := y.2) (rep_endB (M := _) (i := 0) rfl (α := List By) (H.get 0 rfl))), mk_int⟩

/- (*loop.example/g00897/spec.l1Cur).among -/
set_option maxHeartbeats 1000000 in
theorem spec_l1Cur_among_ok {fu : Nat} {w0 : World} {S : Nat → Prop} {b0 : Nat} {cs0 : List Value} {v1_ : Value} {c : L1CurP} {list : List Int} {r : Int × L1CurP} (hp0 : w0.heap[b0]? = some (.cells cs0.toArray 138 (0, 0))) (hr0 : GoTy.rep w0 S cs0 c) (hS0 : ¬ S b0) (h1 : VR w0 S v1_ list) (hF : spec_l1Cur_among fu c list = some r) :
    Calls Try.prog 133 [(.pointer (some ⟨b0, 0, none⟩)), v1_].toArray w0 fun e w' => ∃ v, e = .returned v ∧ (Chg w0 w' [b0] ∧ ∃ cs', w'.heap[b0]? = some (.cells cs'.toArray 138 (0, 0)) ∧ GoTy.rep w' (St ⟨w0, [b0]⟩ S [⟨b0, 138, cs'⟩] [] [] false) cs' r.2 ∧ VR w' (St ⟨w0, [b0]⟩ S [⟨b0, 138, cs'⟩] [] [] true) v r.1) := by
  obtain ⟨A, c2, rfl, hl⟩ := L1CurP_cells hr0
  obtain ⟨A2, c3, rfl, hl2⟩ := VR_list h1
  have H := Mem.startB S hp0
  have H := H.argB (by simpa using hS0) (p := MP.val [(.slice A c.code.length c2)] c.code) hl
  have H := H.argB (by simpa using hS0) (p := MP.val [(.slice A2 list.length c3)] list) hl2
  refine enter Try.func133 rfl rfl (nle rfl) rfl fun a hf => ?_
  rw [spec_l1Cur_among] at hF
  refine sq ?_
  refine reg ?_
  refine pRun_ok (tb := tab) (n := 12) tabOk 1 _ _ hf rfl rfl fun a hf => ?_
  refine wl_end ?_
  refine then_n ?_
  refine sq ?_
  refine reg ?_
  refine pRun_ok (tb := tab) (n := 12) tabOk 4 _ _ hf rfl rfl fun a hf => ?_
  obtain ⟨y, hy, hF⟩ := bind_some hF
  refine wl0 rfl (op_call hf TF.cl134 rfl (by decide) (spec_l1Cur_pick_ok (S := St ⟨w0, [b0]⟩ S [⟨b0, 138, [(.slice A c.code.length c2), (.int .i64 c.at_), (.int .u64 c.seed.n)]⟩] [] [] false) (H.boxAt 0 rfl) (L1CurP_mk (x := c) (H.get 1 rfl)) (H.notSt 0 rfl _) mk_int hy) fun v w a hp hf => ?_)
  obtain ⟨hch, cs, hbx, hr, hs⟩ := hp
  replace hr := GoTy.mono hr (H.movesB 0 rfl false)
  obtain rfl := VR_int hs
  obtain ⟨A3, c4, rfl, hl3⟩ := L1CurP_cells hr
  have H := H.wroteBox 0 rfl hch hbx
  have H := H.push (false, MP.val [(.slice A3 y.2.code.length c4)] y.2.code) hl3
  obtain ⟨e, he, hF⟩ := bind_some hF
  refine wl0 rfl (op_iaddr hf H Try.underlying35 TF.sz3 1 rfl rfl rfl he (by decide) fun p o cs2 a hf hr2 H => ?_)
  obtain rfl := hr2
  refine wl0 rfl (op_q hf (rq_loadI hf H TF.ls3 0 0 rfl rfl rfl) rfl (by decide) fun a hf => ?_)
  refine pRun_ok (tb := tab) (n := 12) tabOk 1 _ _ hf rfl rfl fun a hf => ?_
  refine wl_end ?_
  refine then_n ?_
  refine wp_ret (?_)
  obtain rfl := Option.some.inj hF
  refine ret_1 (fn := Try.f133) (r := .tmp 4) hf rfl (rv_tmp hf rfl) ?_
  exact ⟨_, rfl, H.chg, _, H.boxAt 0 rfl, (L1CurP_mk (x := y.2) (rep_endB (M := _) (i := 0) rfl (α := List By) (H.get 1 rfl))), mk_int⟩

/- (*loop.example/g00897/spec.l1Cur).level -/
set_option maxHeartbeats 1000000 in
theorem spec_l1Cur_level_ok {fu : Nat} {w0 : World} {S : Nat → Prop} {b0 : Nat} {cs0 : List Value} {c : L1CurP} {r : Int × L1CurP} (hp0 : w0.heap[b0]? = some (.cells cs0.toArray 138 (0, 0))) (hr0 : GoTy.rep w0 S cs0 c) (hS0 : ¬ S b0) (hF : spec_l1Cur_level fu c = some r) :
    Calls Try.prog 136 [(.pointer (some ⟨b0, 0, none⟩))].toArray w0 fun e w' => ∃ v, e = .returned v ∧ (Chg w0 w' [b0] ∧ ∃ cs', w'.heap[b0]? = some (.cells cs'.toArray 138 (0, 0)) ∧ GoTy.rep w' (St ⟨w0, [b0]⟩ S [⟨b0, 138, cs'⟩] [] [] false) cs' r.2 ∧ VR w' (St ⟨w0, [b0]⟩ S [⟨b0, 138, cs'⟩] [] [] true) v r.1) := by
  obtain ⟨A, c2, rfl, hl⟩ := L1CurP_cells hr0
  have H := Mem.startB S hp0
  have H := H.argB (by simpa using hS0) (p := MP.val [(.slice A c.code.length c2)] c.code) hl
  refine enter Try.func136 rfl rfl (nle rfl) rfl fun a hf => ?_
  rw [spec_l1Cur_level] at hF
  refine sq ?_
  refine reg ?_
  refine pRun_ok (tb := tab) (n := 11) tabOk 1 _ _ hf rfl rfl fun a hf => ?_
  refine wl_end ?_
  refine then_n ?_
  refine sq ?_
  refine reg ?_
  refine pRun_ok (tb := tab) (n := 11) tabOk 1 _ _ hf rfl rfl fun a hf => ?_
  refine wl0 rfl (op_bslice hf H (.sh true) rfl 3 ([0, 100, 300, (-500), 2000, (-2000), 10000, (-10000), 10001] : List Int) [(.int .i64 0), (.int .i64 100), (.int .i64 300), (.int .i64 (-500)), (.int .i64 2000), (.int .i64 (-2000)), (.int .i64 10000), (.int .i64 (-10000)), (.int .i64 10001)] rfl (fun w => by kernel_rfl) rfl (by decide) rfl trivial (elI [0, 100, 300, (-500), 2000, (-2000), 10000, (-10000), 10001]) (by decide) fun A2 a w hf H => ?_)
  refine pRun_ok (tb := tab) (n := 11) tabOk 1 _ _ hf rfl rfl fun a hf => ?_
  obtain ⟨y, hy, hF⟩ := bind_some hF
  refine wl0 rfl (op_call hf TF.cl134 rfl (by decide) (spec_l1Cur_pick_ok (S := St ⟨w0, [b0]⟩ S [⟨b0, 138, [(.slice A c.code.length c2), (.int .i64 c.at_), (.int .u64 c.seed.n)]⟩] [⟨.sh true, 3, A2, 9, ([0, 100, 300, (-500), 2000, (-2000), 10000, (-10000), 10001] : List Int)⟩] [] false) (H.boxAt 0 rfl) (L1CurP_mk (x := c) (H.get 0 rfl)) (H.notSt 0 rfl _) mk_int hy) fun v w a hp hf => ?_)
  obtain ⟨hch, cs, hbx, hr, hs⟩ := hp
  replace hr := GoTy.mono hr (H.movesB 0 rfl false)
  obtain rfl := VR_int hs
  obtain ⟨A3, c3, rfl, hl2⟩ := L1CurP_cells hr
  have H := H.wroteBox 0 rfl hch hbx
  have H := H.push (false, MP.val [(.slice A3 y.2.code.length c3)] y.2.code) hl2
  obtain ⟨q, hq, hF⟩ := bind_some hF
  refine wl0 rfl (op_q hf (rq_quo hf rfl rfl hq) rfl (by decide) fun a hf => ?_)
  refine pRun_ok (tb := tab) (n := 11) tabOk 1 _ _ hf rfl rfl fun a hf => ?_
  obtain ⟨l, hl, hF⟩ := bind_some hF
  refine wl0 rfl (op_sliceR hf H Try.underlying35 TF.sz3 0 rfl rfl rfl (.inl rfl) (.inr rfl) rfl hl (by decide) fun a hf H => ?_)
  have H := H.freeze 0 rfl
  obtain ⟨y2, hy2, hF⟩ := bind_some hF
  refine wl0 rfl (op_call hf TF.cl133 rfl (by decide) (spec_l1Cur_among_ok (S := St ⟨w0, [b0]⟩ S [⟨b0, 138, [(.slice A3 y.2.code.length c3), (.int .i64 y.2.at_), (.int .u64 y.2.seed.n)]⟩] [] [] false) (H.boxAt 0 rfl) (L1CurP_mk (x := y.2) (H.get 1 rfl)) (H.notSt 0 rfl _) (mk_list (rep_weak (α := List Int) (H.get 0 rfl))) hy2) fun v2 w a hp2 hf => ?_)
  obtain ⟨hch2, cs2, hbx2, hr2, hs2⟩ := hp2
  replace hr2 := GoTy.mono hr2 (H.movesB 0 rfl false)
  obtain rfl := VR_int hs2
  obtain ⟨A4, c4, rfl, hl3⟩ := L1CurP_cells hr2
  have H := H.wroteBox 0 rfl hch2 hbx2
  have H := H.push (false, MP.val [(.slice A4 y2.2.code.length c4)] y2.2.code) hl3
  refine pRun_ok (tb := tab) (n := 11) tabOk 1 _ _ hf rfl rfl fun a hf => ?_
  refine wl_end ?_
  refine then_n ?_
  refine wp_ret (?_)
  obtain rfl := Option.some.inj hF
  refine ret_1 (fn := Try.f136) (r := .tmp 2) hf rfl (rv_tmp hf rfl) ?_
  exact ⟨_, rfl, H.chg, _, H.boxAt 0 rfl, (L1CurP_mk (x := y2.2) (rep_endB (M := _) (i := 0) rfl (α := List By) (H.get 0 rfl))), mk_int⟩

/- (*loop.example/g00897/spec.l1Cur).span -/
set_option maxHeartbeats 1000000 in
theorem spec_l1Cur_span_ok {fu : Nat} {w0 : World} {S : Nat → Prop} {b0 : Nat} {cs0 : List Value} {c : L1CurP} {r : Span × L1CurP} (hp0 : w0.heap[b0]? = some (.cells cs0.toArray 138 (0, 0))) (hr0 : GoTy.rep w0 S cs0 c) (hS0 : ¬ S b0) (hF : spec_l1Cur_span fu c = some r) :
    Calls Try.prog 137 [(.pointer (some ⟨b0, 0, none⟩))].toArray w0 fun e w' => ∃ v, e = .returned v ∧ (Chg w0 w' [b0] ∧ ∃ cs', w'.heap[b0]? = some (.cells cs'.toArray 138 (0, 0)) ∧ GoTy.rep w' (St ⟨w0, [b0]⟩ S [⟨b0, 138, cs'⟩] [] [] false) cs' r.2 ∧ VR w' (St ⟨w0, [b0]⟩ S [⟨b0, 138, cs'⟩] [] [] true) v r.1) := by
  obtain ⟨A, c2, rfl, hl⟩ := L1CurP_cells hr0
  have H := Mem.startB S hp0
  have H := H.argB (by simpa using hS0) (p := MP.val [(.slice A c.code.length c2)] c.code) hl
  refine enter Try.func137 rfl rfl (nle rfl) rfl fun a hf => ?_
  rw [spec_l1Cur_span] at hF
  refine sq ?_
  refine reg ?_
  refine wl0 rfl (op_alloc hf H TF.zv28 rfl (by decide) fun b' a w hf H => ?_)
  refine wl_end ?_
  refine then_n ?_
  refine sq ?_
  refine reg ?_
  refine pRun_ok (tb := tab) (n := 34) tabOk 1 _ _ hf rfl rfl fun a hf => ?_
  refine wl0 rfl (op_bslice hf H (.sh true) rfl 3 ([0, 10, 40, 80, 100, 1000] : List Int) [(.int .i64 0), (.int .i64 10), (.int .i64 40), (.int .i64 80), (.int .i64 100), (.int .i64 1000)] rfl (fun w => by kernel_rfl) rfl (by decide) rfl trivial (elI [0, 10, 40, 80, 100, 1000]) (by decide) fun A2 a w hf H => ?_)
  have H := H.freeze 0 rfl
  obtain ⟨y, hy, hF⟩ := bind_some hF
  refine wl0 rfl (op_call hf TF.cl133 rfl (by decide) (spec_l1Cur_among_ok (S := St ⟨w0, [b0]⟩ S [⟨b', 28, [(.int .i64 0), (.int .i64 0), (.int .i64 0)]⟩, ⟨b0, 138, [(.slice A c.code.length c2), (.int .i64 c.at_), (.int .u64 c.seed.n)]⟩] [] [] false) (H.boxAt 1 rfl) (L1CurP_mk (x := c) (H.get 1 rfl)) (H.notSt 1 rfl _) (mk_list (rep_weak (α := List Int) (H.get 0 rfl))) hy) fun v w a hp hf => ?_)
  obtain ⟨hch, cs, hbx, hr, hs⟩ := hp
  replace hr := GoTy.mono hr (H.movesB 1 rfl false)
  obtain rfl := VR_int hs
  obtain ⟨A3, c3, rfl, hl2⟩ := L1CurP_cells hr
  have H := H.wroteBox 1 rfl hch hbx
  have H := H.push (false, MP.val [(.slice A3 y.2.code.length c3)] y.2.code) hl2
  refine pRun_ok (tb := tab) (n := 34) tabOk 1 _ _ hf rfl rfl fun a hf => ?_
  refine wl0 rfl (op_bslice hf H (.sh true) rfl 3 ([0, 200, 220, 250, 1000] : List Int) [(.int .i64 0), (.int .i64 200), (.int .i64 220), (.int .i64 250), (.int .i64 1000)] rfl (fun w => by kernel_rfl) rfl (by decide) rfl trivial (elI [0, 200, 220, 250, 1000]) (by decide) fun A4 a w hf H => ?_)
  have H := H.freeze 0 rfl
  obtain ⟨y2, hy2, hF⟩ := bind_some hF
  refine wl0 rfl (op_call hf TF.cl133 rfl (by decide) (spec_l1Cur_among_ok (S := St ⟨w0, [b0]⟩ S [⟨b', 28, [(.int .i64 0), (.int .i64 0), (.int .i64 0)]⟩, ⟨b0, 138, [(.slice A3 y.2.code.length c3), (.int .i64 y.2.at_), (.int .u64 y.2.seed.n)]⟩] [] [] false) (H.boxAt 1 rfl) (L1CurP_mk (x := y.2) (H.get 1 rfl)) (H.notSt 1 rfl _) (mk_list (rep_weak (α := List Int) (H.get 0 rfl))) hy2) fun v2 w a hp2 hf => ?_)
  obtain ⟨hch2, cs2, hbx2, hr2, hs2⟩ := hp2
  replace hr2 := GoTy.mono hr2 (H.movesB 1 rfl false)
  obtain rfl := VR_int hs2
  obtain ⟨A5, c4, rfl, hl3⟩ := L1CurP_cells hr2
  have H := H.wroteBox 1 rfl hch2 hbx2
  have H := H.push (false, MP.val [(.slice A5 y2.2.code.length c4)] y2.2.code) hl3
  refine pRun_ok (tb := tab) (n := 34) tabOk 1 _ _ hf rfl rfl fun a hf => ?_
  obtain ⟨y3, hy3, hF⟩ := bind_some hF
  refine wl0 rfl (op_call hf TF.cl134 rfl (by decide) (spec_l1Cur_pick_ok (S := St ⟨w0, [b0]⟩ S [⟨b', 28, [(.int .i64 0), (.int .i64 0), (.int .i64 0)]⟩, ⟨b0, 138, [(.slice A5 y2.2.code.length c4), (.int .i64 y2.2.at_), (.int .u64 y2.2.seed.n)]⟩] [] [] false) (H.boxAt 1 rfl) (L1CurP_mk (x := y2.2) (H.get 0 rfl)) (H.notSt 1 rfl _) mk_int hy3) fun v3 w a hp3 hf => ?_)
  obtain ⟨hch3, cs3, hbx3, hr3, hs3⟩ := hp3
  replace hr3 := GoTy.mono hr3 (H.movesB 1 rfl false)
  obtain rfl := VR_int hs3
  obtain ⟨A6, c5, rfl, hl4⟩ := L1CurP_cells hr3
  have H := H.wroteBox 1 rfl hch3 hbx3
  have H := H.push (false, MP.val [(.slice A6 y3.2.code.length c5)] y3.2.code) hl4
  refine wl0 rfl (op_q hf (rq_build hf (cs := [(.int .i64 y.1), (.int .i64 y2.1), (.int .i64 y3.1)]) rfl (fun w => by kernel_rfl)) rfl (by decide) fun a hf => ?_)
  refine wl0 rfl (op_alloc hf H TF.zv28 rfl (by decide) fun b2 a w hf H => ?_)
  refine wl0 rfl (op_storeB hf H 0 TF.sz28 rfl rfl rfl rfl rfl rfl (nle rfl) fun w H => ?_)
  refine wl_end ?_
  refine then_n ?_
  refine sq ?_
  refine sq ?_
  refine reg ?_
  refine pRun_ok (tb := tab) (n := 34) tabOk 1 _ _ hf rfl rfl fun a hf => ?_
  obtain ⟨y4, hy4, hF⟩ := bind_some hF
  refine wl0 rfl (op_call hf TF.cl134 rfl (by decide) (spec_l1Cur_pick_ok (S := St ⟨w0, [b0]⟩ S [⟨b2, 28, [(.int .i64 y.1), (.int .i64 y2.1), (.int .i64 y3.1)]⟩, ⟨b', 28, [(.int .i64 0), (.int .i64 0), (.int .i64 0)]⟩, ⟨b0, 138, [(.slice A6 y3.2.code.length c5), (.int .i64 y3.2.at_), (.int .u64 y3.2.seed.n)]⟩] [] [] false) (H.boxAt 2 rfl) (L1CurP_mk (x := y3.2) (H.get 0 rfl)) (H.notSt 2 rfl _) mk_int hy4) fun v4 w a hp4 hf => ?_)
  obtain ⟨hch4, cs4, hbx4, hr4, hs4⟩ := hp4
  replace hr4 := GoTy.mono hr4 (H.movesB 2 rfl false)
  obtain rfl := VR_int hs4
  obtain ⟨A7, c6, rfl, hl5⟩ := L1CurP_cells hr4
  have H := H.wroteBox 2 rfl hch4 hbx4
  have H := H.push (false, MP.val [(.slice A7 y4.2.code.length c6)] y4.2.code) hl5
  refine wl_end ?_
  refine then_n ?_
  refine wp_block ?_
  refine sq ?_
  refine reg ?_
  refine pRun_ok (tb := tab) (n := 34) tabOk 2 _ _ hf rfl rfl fun a hf => ?_
  refine wl_end ?_
  refine then_n ?_
  refine (Bool.eq_false_or_eq_true (y4.1 == 0)).elim (fun hc => ?_) (fun hc => ?_)
  · rw [if_pos hc] at hF
    refine cd_t hf rfl hc ?_
    refine reg ?_
    refine pRun_ok (tb := tab) (n := 34) tabOk 1 _ _ hf rfl rfl fun a hf => ?_
    refine wl0 rfl (op_bslice hf H (.sh true) rfl 3 ([(-1), 1001] : List Int) [(.int .i64 (-1)), (.int .i64 1001)] rfl (fun w => by kernel_rfl) rfl (by decide) rfl trivial (elI [(-1), 1001]) (by decide) fun A8 a w hf H => ?_)
    have H := H.freeze 0 rfl
    obtain ⟨y5, hy5, hF⟩ := bind_some hF
    refine wl0 rfl (op_call hf TF.cl133 rfl (by decide) (spec_l1Cur_among_ok (S := St ⟨w0, [b0]⟩ S [⟨b2, 28, [(.int .i64 y.1), (.int .i64 y2.1), (.int .i64 y3.1)]⟩, ⟨b', 28, [(.int .i64 0), (.int .i64 0), (.int .i64 0)]⟩, ⟨b0, 138, [(.slice A7 y4.2.code.length c6), (.int .i64 y4.2.at_), (.int .u64 y4.2.seed.n)]⟩] [] [] false) (H.boxAt 2 rfl) (L1CurP_mk (x := y4.2) (H.get 1 rfl)) (H.notSt 2 rfl _) (mk_list (rep_weak (α := List Int) (H.get 0 rfl))) hy5) fun v5 w a hp5 hf => ?_)
    obtain ⟨hch5, cs5, hbx5, hr5, hs5⟩ := hp5
    replace hr5 := GoTy.mono hr5 (H.movesB 2 rfl false)
    obtain rfl := VR_int hs5
    obtain ⟨A9, c7, rfl, hl6⟩ := L1CurP_cells hr5
    have H := H.wroteBox 2 rfl hch5 hbx5
    have H := H.push (false, MP.val [(.slice A9 y5.2.code.length c7)] y5.2.code) hl6
    refine pRun_ok (tb := tab) (n := 34) tabOk 1 _ _ hf rfl rfl fun a hf => ?_
    refine wl0 rfl (op_storeB hf H 0 TF.sz3 rfl rfl rfl rfl rfl rfl (nle rfl) fun w H => ?_)
    have hf := hf.prune [2, 3] rfl
    refine wl_end ?_
    refine blk_n ?_
    refine then_n ?_
    refine sq ?_
    refine reg ?_
    refine wl0 rfl (op_q hf (rq_loadBN hf H TF.la28 0 rfl rfl rfl rfl) rfl (by decide) fun a hf => ?_)
    refine wl0 rfl (op_storeB hf H 1 TF.sz28 rfl rfl rfl rfl rfl rfl (nle rfl) fun w H => ?_)
    refine wl_end ?_
    refine then_n ?_
    refine wp_ret (?_)
    obtain rfl := Option.some.inj hF
    refine ret_1 (fn := Try.f137) (r := .cell 2 28) hf rfl (rv_cellN hf H 1 TF.la28 rfl rfl rfl) ?_
    exact ⟨_, rfl, H.chg, _, H.boxAt 2 rfl, (L1CurP_mk (x := y5.2) (rep_endB (M := _) (i := 2) rfl (α := List By) (H.get 0 rfl))), Span_mkv⟩
  · rw [if_neg (nt hc)] at hF
    refine cd_f hf rfl hc ?_
    refine sq ?_
    refine reg ?_
    refine pRun_ok (tb := tab) (n := 34) tabOk 2 _ _ hf rfl rfl fun a hf => ?_
    have hf := hf.prune [0, 2, 3, 14, 21] rfl
    refine wl_end ?_
    refine then_n ?_
    refine (Bool.eq_false_or_eq_true (y4.1 == 1)).elim (fun hc2 => ?_) (fun hc2 => ?_)
    · rw [if_pos hc2] at hF
      refine cd_t hf rfl hc2 ?_
      refine reg ?_
      refine pRun_ok (tb := tab) (n := 34) tabOk 1 _ _ hf rfl rfl fun a hf => ?_
      refine wl0 rfl (op_bslice hf H (.sh true) rfl 3 ([(-1), 1001] : List Int) [(.int .i64 (-1)), (.int .i64 1001)] rfl (fun w => by kernel_rfl) rfl (by decide) rfl trivial (elI [(-1), 1001]) (by decide) fun A10 a w hf H => ?_)
      have H := H.freeze 0 rfl
      obtain ⟨y6, hy6, hF⟩ := bind_some hF
      refine wl0 rfl (op_call hf TF.cl133 rfl (by decide) (spec_l1Cur_among_ok (S := St ⟨w0, [b0]⟩ S [⟨b2, 28, [(.int .i64 y.1), (.int .i64 y2.1), (.int .i64 y3.1)]⟩, ⟨b', 28, [(.int .i64 0), (.int .i64 0), (.int .i64 0)]⟩, ⟨b0, 138, [(.slice A7 y4.2.code.length c6), (.int .i64 y4.2.at_), (.int .u64 y4.2.seed.n)]⟩] [] [] false) (H.boxAt 2 rfl) (L1CurP_mk (x := y4.2) (H.get 1 rfl)) (H.notSt 2 rfl _) (mk_list (rep_weak (α := List Int) (H.get 0 rfl))) hy6) fun v6 w a hp6 hf => ?_)
      obtain ⟨hch6, cs6, hbx6, hr6, hs6⟩ := hp6
      replace hr6 := GoTy.mono hr6 (H.movesB 2 rfl false)
      obtain rfl := VR_int hs6
      obtain ⟨A11, c8, rfl, hl7⟩ := L1CurP_cells hr6
      have H := H.wroteBox 2 rfl hch6 hbx6
      have H := H.push (false, MP.val [(.slice A11 y6.2.code.length c8)] y6.2.code) hl7
      refine pRun_ok (tb := tab) (n := 34) tabOk 1 _ _ hf rfl rfl fun a hf => ?_
      refine wl0 rfl (op_storeB hf H 0 TF.sz3 rfl rfl rfl rfl rfl rfl (nle rfl) fun w H => ?_)
      refine wl_end ?_
      refine blk_n ?_
      refine then_n ?_
      refine sq ?_
      refine reg ?_
      refine wl0 rfl (op_q hf (rq_loadBN hf H TF.la28 0 rfl rfl rfl rfl) rfl (by decide) fun a hf => ?_)
      refine wl0 rfl (op_storeB hf H 1 TF.sz28 rfl rfl rfl rfl rfl rfl (nle rfl) fun w H => ?_)
      refine wl_end ?_
      refine then_n ?_
      refine wp_ret (?_)
      obtain rfl := Option.some.inj hF
      refine ret_1 (fn := Try.f137) (r := .cell 2 28) hf rfl (rv_cellN hf H 1 TF.la28 rfl rfl rfl) ?_
      exact ⟨_, rfl, H.chg, _, H.boxAt 2 rfl, (L1CurP_mk (x := y6.2) (rep_endB (M := _) (i := 2) rfl (α := List By) (H.get 0 rfl))), Span_mkv⟩
    · rw [if_neg (nt hc2)] at hF
      refine cd_f hf rfl hc2 ?_
      refine sq ?_
      refine reg ?_
      refine pRun_ok (tb := tab) (n := 34) tabOk 2 _ _ hf rfl rfl fun a hf => ?_
      refine wl_end ?_
      refine then_n ?_
      refine (Bool.eq_false_or_eq_true (y4.1 == 2)).elim (fun hc3 => ?_) (fun hc3 => ?_)
      · rw [if_pos hc3] at hF
        refine cd_t hf rfl hc3 ?_
        refine reg ?_
        refine pRun_ok (tb := tab) (n := 34) tabOk 1 _ _ hf rfl rfl fun a hf => ?_
        refine wl0 rfl (op_bslice hf H (.sh true) rfl 3 ([(-1), 51, 50] : List Int) [(.int .i64 (-1)), (.int .i64 51), (.int .i64 50)] rfl (fun w => by kernel_rfl) rfl (by decide) rfl trivial (elI [(-1), 51, 50]) (by decide) fun A12 a w hf H => ?_)
        have H := H.freeze 0 rfl
        obtain ⟨y7, hy7, hF⟩ := bind_some hF
        refine wl0 rfl (op_call hf TF.cl133 rfl (by decide) (spec_l1Cur_among_ok (S := St ⟨w0, [b0]⟩ S [⟨b2, 28, [(.int .i64 y.1), (.int .i64 y2.1), (.int .i64 y3.1)]⟩, ⟨b', 28, [(.int .i64 0), (.int .i64 0), (.int .i64 0)]⟩, ⟨b0, 138, [(.slice A7 y4.2.code.length c6), (.int .i64 y4.2.at_), (.int .u64 y4.2.seed.n)]⟩] [] [] false) (H.boxAt 2 rfl) (L1CurP_mk (x := y4.2) (H.get 1 rfl)) (H.notSt 2 rfl _) (mk_list (rep_weak (α := List Int) (H.get 0 rfl))) hy7) fun v7 w a hp7 hf => ?_)
        obtain ⟨hch7, cs7, hbx7, hr7, hs7⟩ := hp7
        replace hr7 := GoTy.mono hr7 (H.movesB 2 rfl false)
        obtain rfl := VR_int hs7
        obtain ⟨A13, c9, rfl, hl8⟩ := L1CurP_cells hr7
        have H := H.wroteBox 2 rfl hch7 hbx7
        have H := H.push (false, MP.val [(.slice A13 y7.2.code.length c9)] y7.2.code) hl8
        refine pRun_ok (tb := tab) (n := 34) tabOk 1 _ _ hf rfl rfl fun a hf => ?_
        refine wl0 rfl (op_storeB hf H 0 TF.sz3 rfl rfl rfl rfl rfl rfl (nle rfl) fun w H => ?_)
        refine wl_end ?_
        refine blk_n ?_
        refine then_n ?_
        refine sq ?_
        refine reg ?_
        refine wl0 rfl (op_q hf (rq_loadBN hf H TF.la28 0 rfl rfl rfl rfl) rfl (by decide) fun a hf => ?_)
        refine wl0 rfl (op_storeB hf H 1 TF.sz28 rfl rfl rfl rfl rfl rfl (nle rfl) fun w H => ?_)
        refine wl_end ?_
        refine then_n ?_
        refine wp_ret (?_)
        obtain rfl := Option.some.inj hF
        refine ret_1 (fn := Try.f137) (r := .cell 2 28) hf rfl (rv_cellN hf H 1 TF.la28 rfl rfl rfl) ?_
        exact ⟨_, rfl, H.chg, _, H.boxAt 2 rfl, (L1CurP_mk (x := y7.2) (rep_endB (M := _) (i := 2) rfl (α := List By) (H.get 0 rfl))), Span_mkv⟩
      · rw [if_neg (nt hc3)] at hF
        refine cd_f hf rfl hc3 ?_
        refine wp_skip ?_
        refine blk_n ?_
        refine then_n ?_
        refine sq ?_
        refine reg ?_
        refine wl0 rfl (op_q hf (rq_loadBN hf H TF.la28 0 rfl rfl rfl rfl) rfl (by decide) fun a hf => ?_)
        refine wl0 rfl (op_storeB hf H 1 TF.sz28 rfl rfl rfl rfl rfl rfl (nle rfl) fun w H => ?_)
        refine wl_end ?_
        refine then_n ?_
        refine wp_ret (?_)
        obtain rfl := Option.some.inj hF
        refine ret_1 (fn := Try.f137) (r := .cell 2 28) hf rfl (rv_cellN hf H 1 TF.la28 rfl rfl rfl) ?_
        exact ⟨_, rfl, H.chg, _, H.boxAt 2 rfl, (L1CurP_mk (x := y4.2) (rep_endB (M := _) (i := 2) rfl (α := List By) (H.get 0 rfl))), Span_mkv⟩

/- (*loop.example/g00897/spec.l1Cur).line -/
set_option maxHeartbeats 1000000 in
theorem spec_l1Cur_line_ok {fu : Nat} {w0 : World} {S : Nat → Prop} {b0 : Nat} {cs0 : List Value} {c : L1CurP} {r : List Span × L1CurP} (hp0 : w0.heap[b0]? = some (.cells cs0.toArray 138 (0, 0))) (hr0 : GoTy.rep w0 S cs0 c) (hS0 : ¬ S b0) (hF : spec_l1Cur_line fu c = some r) :
    Calls Try.prog 149 [(.pointer (some ⟨b0, 0, none⟩))].toArray w0 fun e w' => ∃ v, e = .returned v ∧ (Chg w0 w' [b0] ∧ ∃ cs', w'.heap[b0]? = some (.cells cs'.toArray 138 (0, 0)) ∧ GoTy.rep w' (St ⟨w0, [b0]⟩ S [⟨b0, 138, cs'⟩] [] [] false) cs' r.2 ∧ VR w' (St ⟨w0, [b0]⟩ S [⟨b0, 138, cs'⟩] [] [] true) v r.1) := by
  obtain ⟨A, c2, rfl, hl⟩ := L1CurP_cells hr0
  have H := Mem.startB S hp0
  have H := H.argB (by simpa using hS0) (p := MP.val [(.slice A c.code.length c2)] c.code) hl
  refine enter Try.func149 rfl rfl (nle rfl) rfl fun a hf => ?_
  rw [spec_l1Cur_line] at hF
  refine sq ?_
  refine reg ?_
  refine pRun_ok (tb := tab) (n := 37) tabOk 1 _ _ hf rfl rfl fun a hf => ?_
  refine wl_end ?_
  refine then_n ?_
  refine sq ?_
  refine reg ?_
  refine wl0 rfl (op_bslice hf H (.sh true) rfl 28 ([] : List Span) [] rfl (fun w => by kernel_rfl) rfl (by decide) rfl trivial el0 (by decide) fun A2 a w hf H => ?_)
  refine pRun_ok (tb := tab) (n := 37) tabOk 1 _ _ hf rfl rfl fun a hf => ?_
  refine wl_end ?_
  refine then_n ?_
  refine sq ?_
  refine sq ?_
  refine reg ?_
  refine pRun_ok (tb := tab) (n := 37) tabOk 1 _ _ hf rfl rfl fun a hf => ?_
  obtain ⟨y, hy, hF⟩ := bind_some hF
  refine wl0 rfl (op_call hf TF.cl134 rfl (by decide) (spec_l1Cur_pick_ok (S := St ⟨w0, [b0]⟩ S [⟨b0, 138, [(.slice A c.code.length c2), (.int .i64 c.at_), (.int .u64 c.seed.n)]⟩] [⟨.sh true, 28, A2, 0, (([] : List Span) : List Span)⟩] [] false) (H.boxAt 0 rfl) (L1CurP_mk (x := c) (H.get 0 rfl)) (H.notSt 0 rfl _) mk_int hy) fun v w a hp hf => ?_)
  obtain ⟨hch, cs, hbx, hr, hs⟩ := hp
  replace hr := GoTy.mono hr (H.movesB 0 rfl false)
  obtain rfl := VR_int hs
  obtain ⟨A3, c3, rfl, hl2⟩ := L1CurP_cells hr
  have H := H.wroteBox 0 rfl hch hbx
  have H := H.push (false, MP.val [(.slice A3 y.2.code.length c3)] y.2.code) hl2
  refine pRun_ok (tb := tab) (n := 37) tabOk 2 _ _ hf rfl rfl fun a hf => ?_
  refine wl_end ?_
  refine then_n ?_
  obtain ⟨out2, hB1, hF⟩ := bind_some hF
  have hf := hf.prune [0, 3, 4] rfl
  have H := H.let [true] [true] [] [0]
  have hI : (fun (s : List Span × Int × List By × Int × U64) (a : Act) (w : World) => match s with | (out', n', m, m2, m3) => ∃ (A4 : Option Addr) (c4 : Nat) (A5 : Option Addr) (c5 : Nat), Fr a 37 [(0, (.pointer (some ⟨b0, 0, none⟩))), (3, (.slice A4 out'.length c4)), (4, (.int .i64 n'))] ∧ Mem ⟨w0, [b0]⟩ S [⟨b0, 138, [(.slice A5 m.length c5), (.int .i64 m2), (.int .u64 m3.n)]⟩] [⟨.sh true, 28, A4, c4, (out' : List Span)⟩] [] [(false, MP.val [(.slice A5 m.length c5)] (m : List By))] w) (([] : List Span), w64 (1 + y.1), y.2.code, y.2.at_, y.2.seed) a w := ⟨A2, 0, A3, c3, hf, H⟩
  refine mid (fun a w => ∃ s : List Span × Int × List By × Int × U64, out2 = s ∧ (fun (s : List Span × Int × List By × Int × U64) (a : Act) (w : World) => match s with | (out', n', m, m2, m3) => ∃ (A4 : Option Addr) (c4 : Nat) (A5 : Option Addr) (c5 : Nat), Fr a 37 [(0, (.pointer (some ⟨b0, 0, none⟩))), (3, (.slice A4 out'.length c4)), (4, (.int .i64 n'))] ∧ Mem ⟨w0, [b0]⟩ S [⟨b0, 138, [(.slice A5 m.length c5), (.int .i64 m2), (.int .u64 m3.n)]⟩] [⟨.sh true, 28, A4, c4, (out' : List Span)⟩] [] [(false, MP.val [(.slice A5 m.length c5)] (m : List By))] w) s a w) ?_ ?_
  · refine wp_block ?_
    refine loop_rule (fun k (s : List Span × Int × List By × Int × U64) => spec_l1Cur_line_L1 fu k s.1 s.2.1 s.2.2.1 s.2.2.2.1 s.2.2.2.2 = some out2) (fun (s : List Span × Int × List By × Int × U64) (a : Act) (w : World) => match s with | (out', n', m, m2, m3) => ∃ (A4 : Option Addr) (c4 : Nat) (A5 : Option Addr) (c5 : Nat), Fr a 37 [(0, (.pointer (some ⟨b0, 0, none⟩))), (3, (.slice A4 out'.length c4)), (4, (.int .i64 n'))] ∧ Mem ⟨w0, [b0]⟩ S [⟨b0, 138, [(.slice A5 m.length c5), (.int .i64 m2), (.int .u64 m3.n)]⟩] [⟨.sh true, 28, A4, c4, (out' : List Span)⟩] [] [(false, MP.val [(.slice A5 m.length c5)] (m : List By))] w) (fun s h => by cases h) ?_ fu (([] : List Span), w64 (1 + y.1), y.2.code, y.2.at_, y.2.seed) a w hB1 hI
    rintro fk ⟨out', n', m, m2, m3⟩ a w hR1 hI
    replace hR1 : spec_l1Cur_line_L1 fu (fk + 1) out' n' m m2 m3 = some out2 := hR1
    rw [spec_l1Cur_line_L1] at hR1
    obtain ⟨A4, c4, A5, c5, hf, H⟩ := hI
    refine sq ?_
    refine sq ?_
    refine reg ?_
    refine pRun_ok (tb := tab) (n := 37) tabOk 2 _ _ hf rfl rfl fun a hf => ?_
    refine wl_end ?_
    refine then_n ?_
    refine (Bool.eq_false_or_eq_true (decide (n' > 0))).elim (fun hc => ?_) (fun hc => ?_)
    · rw [if_pos hc] at hR1
      refine cd_t hf rfl hc ?_
      refine wp_skip ?_
      refine then_n ?_
      refine sq ?_
      refine wp_block ?_
      refine reg ?_
      refine pRun_ok (tb := tab) (n := 37) tabOk 2 _ _ hf rfl rfl fun a hf => ?_
      obtain ⟨y2, hy2, hR1⟩ := bind_some hR1
      refine wl0 rfl (op_call hf TF.cl137 rfl (by decide) (spec_l1Cur_span_ok (S := St ⟨w0, [b0]⟩ S [⟨b0, 138, [(.slice A5 m.length c5), (.int .i64 m2), (.int .u64 m3.n)]⟩] [⟨.sh true, 28, A4, c4, (out' : List Span)⟩] [] false) (H.boxAt 0 rfl) (L1CurP_mk (x := ({ code := m, at_ := m2, seed := m3 } : L1CurP)) (H.get 0 rfl)) (H.notSt 0 rfl _) hy2) fun v2 w a hp2 hf => ?_)
      obtain ⟨hch2, cs2, hbx2, hr2, hs2⟩ := hp2
      replace hr2 := GoTy.mono hr2 (H.movesB 0 rfl false)
      obtain rfl := Span_open hs2
      obtain ⟨A6, c6, rfl, hl3⟩ := L1CurP_cells hr2
      have H := H.wroteBox 0 rfl hch2 hbx2
      have H := H.push (false, MP.val [(.slice A6 y2.2.code.length c6)] y2.2.code) hl3
      refine wl0 rfl (op_bslice hf H (.sh true) rfl 28 ([y2.1] : List Span) [(.int .i64 y2.1.Length), (.int .i64 y2.1.Loss), (.int .i64 y2.1.Splices)] rfl (fun w => by kernel_rfl) rfl (by decide) rfl trivial (el1 (y := y2.1) (Span_mk (x := y2.1))) (by decide) fun A7 a w hf H => ?_)
      obtain ⟨l, hl, hR1⟩ := bind_some hR1
      refine wl0 rfl (op_appR hf H Try.underlying96 TF.ai28 rfl (by decide) 1 0 rfl rfl rfl rfl (.inr rfl) hl (by decide) fun A8 c7 a w hf H => ?_)
      refine pRun_ok (tb := tab) (n := 37) tabOk 1 _ _ hf rfl rfl fun a hf => ?_
      refine wl_end ?_
      refine blk_n ?_
      refine then_n ?_
      refine reg ?_
      refine pRun_ok (tb := tab) (n := 37) tabOk 3 _ _ hf rfl rfl fun a hf => ?_
      refine wl_end ?_
      have hf := hf.prune [0, 3, 4] rfl
      have H := H.let [true] [false, true] [] [0]
      exact then_n ⟨(l, w64 (n' - 1), y2.2.code, y2.2.at_, y2.2.seed), hR1, A8, c7, A6, c6, hf, H⟩
    · rw [if_neg (nt hc)] at hR1
      refine cd_f hf rfl hc ?_
      refine wp_exit (then_x (then_x (blk_e (?_))))
      have hf := hf.prune [0, 3, 4] rfl
      have H := H.let [true] [true] [] [0]
      exact ⟨(out', n', m, m2, m3), (Option.some.inj hR1).symm, A4, c4, A5, c5, hf, H⟩
  rintro a w ⟨⟨out3, n2, m4, m5, m6⟩, rfl, A9, c8, A10, c9, hf, H⟩
  dsimp only at hF
  refine then_n ?_
  refine sq ?_
  refine sq ?_
  refine reg ?_
  refine pRun_ok (tb := tab) (n := 37) tabOk 1 _ _ hf rfl rfl fun a hf => ?_
  obtain ⟨y3, hy3, hF⟩ := bind_some hF
  refine wl0 rfl (op_call hf TF.cl134 rfl (by decide) (spec_l1Cur_pick_ok (S := St ⟨w0, [b0]⟩ S [⟨b0, 138, [(.slice A10 m4.length c9), (.int .i64 m5), (.int .u64 m6.n)]⟩] [⟨.sh true, 28, A9, c8, (out3 : List Span)⟩] [] false) (H.boxAt 0 rfl) (L1CurP_mk (x := ({ code := m4, at_ := m5, seed := m6 } : L1CurP)) (H.get 0 rfl)) (H.notSt 0 rfl _) mk_int hy3) fun v3 w a hp3 hf => ?_)
  obtain ⟨hch3, cs3, hbx3, hr3, hs3⟩ := hp3
  replace hr3 := GoTy.mono hr3 (H.movesB 0 rfl false)
  obtain rfl := VR_int hs3
  obtain ⟨A11, c10, rfl, hl4⟩ := L1CurP_cells hr3
  have H := H.wroteBox 0 rfl hch3 hbx3
  have H := H.push (false, MP.val [(.slice A11 y3.2.code.length c10)] y3.2.code) hl4
  refine wl_end ?_
  refine then_n ?_
  refine wp_block ?_
  refine sq ?_
  refine reg ?_
  refine pRun_ok (tb := tab) (n := 37) tabOk 2 _ _ hf rfl rfl fun a hf => ?_
  refine wl_end ?_
  refine then_n ?_
  refine (Bool.eq_false_or_eq_true (y3.1 == 0)).elim (fun hc2 => ?_) (fun hc2 => ?_)
  · rw [if_pos hc2] at hF
    refine cd_t hf rfl hc2 ?_
    refine reg ?_
    refine pRun_ok (tb := tab) (n := 37) tabOk 1 _ _ hf rfl rfl fun a hf => ?_
    obtain ⟨l2, hl2, hF⟩ := bind_some hF
    refine wl0 rfl (op_sliceR hf H Try.underlying96 TF.sz28 0 rfl rfl rfl (.inl rfl) (.inr rfl) rfl hl2 (by decide) fun a hf H => ?_)
    refine pRun_ok (tb := tab) (n := 37) tabOk 1 _ _ hf rfl rfl fun a hf => ?_
    refine wl_end ?_
    refine blk_n ?_
    refine then_n ?_
    refine sq ?_
    refine reg ?_
    refine pRun_ok (tb := tab) (n := 37) tabOk 2 _ _ hf rfl rfl fun a hf => ?_
    refine wl_end ?_
    refine then_n ?_
    refine wp_ret (?_)
    have H := H.freeze 0 rfl
    obtain rfl := Option.some.inj hF
    refine ret_1 (fn := Try.f149) (r := .tmp 2) hf rfl (rv_tmp hf rfl) ?_
    exact ⟨_, rfl, H.chg, _, H.boxAt 0 rfl, (L1CurP_mk (x := y3.2) (rep_endB (M := _) (i := 0) rfl (α := List By) (H.get 1 rfl))), (mk_list (rep_endB (M := _) (i := 0) rfl (α := List Span) (H.get 0 rfl)))⟩
  · rw [if_neg (nt hc2)] at hF
    refine cd_f hf rfl hc2 ?_
    refine sq ?_
    refine reg ?_
    refine pRun_ok (tb := tab) (n := 37) tabOk 2 _ _ hf rfl rfl fun a hf => ?_
    refine wl_end ?_
    refine then_n ?_
    refine (Bool.eq_false_or_eq_true (y3.1 == 1)).elim (fun hc3 => ?_) (fun hc3 => ?_)
    · rw [if_pos hc3] at hF
      refine cd_t hf rfl hc3 ?_
      obtain ⟨out5, hB1, hF⟩ := bind_some hF
      have hf := hf.prune [0, 3] rfl
      have H := H.let [true] [true] [] [0]
      have hI : (fun (s : List Span × List By × Int × U64) (a : Act) (w : World) => match s with | (out4, m7, m8, m9) => ∃ (A12 : Option Addr) (c11 : Nat) (A13 : Option Addr) (c12 : Nat), Fr a 37 [(0, (.pointer (some ⟨b0, 0, none⟩))), (3, (.slice A12 out4.length c11))] ∧ Mem ⟨w0, [b0]⟩ S [⟨b0, 138, [(.slice A13 m7.length c12), (.int .i64 m8), (.int .u64 m9.n)]⟩] [⟨.sh true, 28, A12, c11, (out4 : List Span)⟩] [] [(false, MP.val [(.slice A13 m7.length c12)] (m7 : List By))] w) (out3, y3.2.code, y3.2.at_, y3.2.seed) a w := ⟨A9, c8, A11, c10, hf, H⟩
      refine mid (fun a w => ∃ s : List Span × List By × Int × U64, out5 = s ∧ (fun (s : List Span × List By × Int × U64) (a : Act) (w : World) => match s with | (out4, m7, m8, m9) => ∃ (A12 : Option Addr) (c11 : Nat) (A13 : Option Addr) (c12 : Nat), Fr a 37 [(0, (.pointer (some ⟨b0, 0, none⟩))), (3, (.slice A12 out4.length c11))] ∧ Mem ⟨w0, [b0]⟩ S [⟨b0, 138, [(.slice A13 m7.length c12), (.int .i64 m8), (.int .u64 m9.n)]⟩] [⟨.sh true, 28, A12, c11, (out4 : List Span)⟩] [] [(false, MP.val [(.slice A13 m7.length c12)] (m7 : List By))] w) s a w) ?_ ?_
      · refine wp_block ?_
        refine loop_rule (fun k (s : List Span × List By × Int × U64) => spec_l1Cur_line_L2 fu k s.1 s.2.1 s.2.2.1 s.2.2.2 = some out5) (fun (s : List Span × List By × Int × U64) (a : Act) (w : World) => match s with | (out4, m7, m8, m9) => ∃ (A12 : Option Addr) (c11 : Nat) (A13 : Option Addr) (c12 : Nat), Fr a 37 [(0, (.pointer (some ⟨b0, 0, none⟩))), (3, (.slice A12 out4.length c11))] ∧ Mem ⟨w0, [b0]⟩ S [⟨b0, 138, [(.slice A13 m7.length c12), (.int .i64 m8), (.int .u64 m9.n)]⟩] [⟨.sh true, 28, A12, c11, (out4 : List Span)⟩] [] [(false, MP.val [(.slice A13 m7.length c12)] (m7 : List By))] w) (fun s h => by cases h) ?_ fu (out3, y3.2.code, y3.2.at_, y3.2.seed) a w hB1 hI
        rintro fk ⟨out4, m7, m8, m9⟩ a w hR1 hI
        replace hR1 : spec_l1Cur_line_L2 fu (fk + 1) out4 m7 m8 m9 = some out5 := hR1
        rw [spec_l1Cur_line_L2] at hR1
        obtain ⟨A12, c11, A13, c12, hf, H⟩ := hI
        refine sq ?_
        refine sq ?_
        refine reg ?_
        refine pRun_ok (tb := tab) (n := 37) tabOk 3 _ _ hf rfl rfl fun a hf => ?_
        obtain ⟨y4, hy4, hR1⟩ := bind_some hR1
        refine wl0 rfl (op_call hf TF.cl134 rfl (by decide) (spec_l1Cur_pick_ok (S := St ⟨w0, [b0]⟩ S [⟨b0, 138, [(.slice A13 m7.length c12), (.int .i64 m8), (.int .u64 m9.n)]⟩] [⟨.sh true, 28, A12, c11, (out4 : List Span)⟩] [] false) (H.boxAt 0 rfl) (L1CurP_mk (x := ({ code := m7, at_ := m8, seed := m9 } : L1CurP)) (H.get 0 rfl)) (H.notSt 0 rfl _) mk_int hy4) fun v4 w a hp4 hf => ?_)
        obtain ⟨hch4, cs4, hbx4, hr4, hs4⟩ := hp4
        replace hr4 := GoTy.mono hr4 (H.movesB 0 rfl false)
        obtain rfl := VR_int hs4
        obtain ⟨A14, c13, rfl, hl5⟩ := L1CurP_cells hr4
        have H := H.wroteBox 0 rfl hch4 hbx4
        have H := H.push (false, MP.val [(.slice A14 y4.2.code.length c13)] y4.2.code) hl5
        refine pRun_ok (tb := tab) (n := 37) tabOk 2 _ _ hf rfl rfl fun a hf => ?_
        refine wl_end ?_
        refine then_n ?_
        refine (Bool.eq_false_or_eq_true (decide ((out4.length : Int) < (w64 (12 + y4.1))))).elim (fun hc4 => ?_) (fun hc4 => ?_)
        · rw [if_pos hc4] at hR1
          refine cd_t hf rfl hc4 ?_
          refine wp_skip ?_
          refine then_n ?_
          refine wp_block ?_
          refine reg ?_
          refine pRun_ok (tb := tab) (n := 37) tabOk 1 _ _ hf rfl rfl fun a hf => ?_
          refine wl0 rfl (op_q hf (rq_build hf (cs := [(.int .i64 1), (.int .i64 0), (.int .i64 0)]) rfl (fun w => by kernel_rfl)) rfl (by decide) fun a hf => ?_)
          refine wl0 rfl (op_bslice hf H (.sh true) rfl 28 ([({ Length := 1, Loss := 0, Splices := 0 } : Span)] : List Span) [(.int .i64 1), (.int .i64 0), (.int .i64 0)] rfl (fun w => by kernel_rfl) rfl (by decide) rfl trivial (el1 (y := ({ Length := 1, Loss := 0, Splices := 0 } : Span)) (Span_mk (x := ({ Length := 1, Loss := 0, Splices := 0 } : Span)))) (by decide) fun A15 a w hf H => ?_)
          obtain ⟨l3, hl3, hR1⟩ := bind_some hR1
          refine wl0 rfl (op_appR hf H Try.underlying96 TF.ai28 rfl (by decide) 1 0 rfl rfl rfl rfl (.inr rfl) hl3 (by decide) fun A16 c14 a w hf H => ?_)
          refine pRun_ok (tb := tab) (n := 37) tabOk 1 _ _ hf rfl rfl fun a hf => ?_
          refine wl_end ?_
          refine blk_n ?_
          have hf := hf.prune [0, 3] rfl
          have H := H.let [true] [false, true] [] [0]
          exact then_n ⟨(l3, y4.2.code, y4.2.at_, y4.2.seed), hR1, A16, c14, A14, c13, hf, H⟩
        · rw [if_neg (nt hc4)] at hR1
          refine cd_f hf rfl hc4 ?_
          refine wp_exit (then_x (then_x (blk_e (?_))))
          have hf := hf.prune [0, 3] rfl
          have H := H.let [true] [true] [] [0]
          exact ⟨(out4, y4.2.code, y4.2.at_, y4.2.seed), (Option.some.inj hR1).symm, A12, c11, A14, c13, hf, H⟩
      rintro a w ⟨⟨out6, m10, m11, m12⟩, rfl, A17, c15, A18, c16, hf, H⟩
      dsimp only at hF
      refine blk_n ?_
      refine then_n ?_
      refine sq ?_
      refine reg ?_
      refine pRun_ok (tb := tab) (n := 37) tabOk 2 _ _ hf rfl rfl fun a hf => ?_
      refine wl_end ?_
      refine then_n ?_
      refine wp_ret (?_)
      have H := H.freeze 0 rfl
      obtain rfl := Option.some.inj hF
      refine ret_1 (fn := Try.f149) (r := .tmp 2) hf rfl (rv_tmp hf rfl) ?_
      exact ⟨_, rfl, H.chg, _, H.boxAt 0 rfl, (L1CurP_mk (x := ({ code := m10, at_ := m11, seed := m12 } : L1CurP)) (rep_endB (M := _) (i := 0) rfl (α := List By) (H.get 1 rfl))), (mk_list (rep_endB (M := _) (i := 0) rfl (α := List Span) (H.get 0 rfl)))⟩
    · rw [if_neg (nt hc3)] at hF
      refine cd_f hf rfl hc3 ?_
      refine wp_skip ?_
      refine blk_n ?_
      refine then_n ?_
      refine sq ?_
      refine reg ?_
      refine pRun_ok (tb := tab) (n := 37) tabOk 2 _ _ hf rfl rfl fun a hf => ?_
      refine wl_end ?_
      refine then_n ?_
      refine wp_ret (?_)
      have H := H.freeze 0 rfl
      obtain rfl := Option.some.inj hF
      refine ret_1 (fn := Try.f149) (r := .tmp 2) hf rfl (rv_tmp hf rfl) ?_
      exact ⟨_, rfl, H.chg, _, H.boxAt 0 rfl, (L1CurP_mk (x := y3.2) (rep_endB (M := _) (i := 0) rfl (α := List By) (H.get 1 rfl))), (mk_list (rep_endB (M := _) (i := 0) rfl (α := List Span) (H.get 0 rfl)))⟩

/- (*loop.example/g00897/spec.l1Cur).amplifier -/
set_option maxHeartbeats 1000000 in
theorem spec_l1Cur_amplifier_ok {fu : Nat} {w0 : World} {S : Nat → Prop} {b0 : Nat} {cs0 : List Value} {c : L1CurP} {r : Amplifier × L1CurP} (hp0 : w0.heap[b0]? = some (.cells cs0.toArray 138 (0, 0))) (hr0 : GoTy.rep w0 S cs0 c) (hS0 : ¬ S b0) (hF : spec_l1Cur_amplifier fu c = some r) :
    Calls Try.prog 150 [(.pointer (some ⟨b0, 0, none⟩))].toArray w0 fun e w' => ∃ v, e = .returned v ∧ (Chg w0 w' [b0] ∧ ∃ cs', w'.heap[b0]? = some (.cells cs'.toArray 138 (0, 0)) ∧ GoTy.rep w' (St ⟨w0, [b0]⟩ S [⟨b0, 138, cs'⟩] [] [] false) cs' r.2 ∧ VR w' (St ⟨w0, [b0]⟩ S [⟨b0, 138, cs'⟩] [] [] true) v r.1) := by
  obtain ⟨A, c2, rfl, hl⟩ := L1CurP_cells hr0
  have H := Mem.startB S hp0
  have H := H.argB (by simpa using hS0) (p := MP.val [(.slice A c.code.length c2)] c.code) hl
  refine enter Try.func150 rfl rfl (nle rfl) rfl fun a hf => ?_
  rw [spec_l1Cur_amplifier] at hF
  refine sq ?_
  refine reg ?_
  refine wl0 rfl (op_alloc hf H TF.zv88 rfl (by decide) fun b' a w hf H => ?_)
  refine wl_end ?_
  refine then_n ?_
  refine sq ?_
  refine reg ?_
  refine pRun_ok (tb := tab) (n := 35) tabOk 1 _ _ hf rfl rfl fun a hf => ?_
  refine wl0 rfl (op_bslice hf H (.sh true) rfl 3 ([0, 20, 100, 200, 1000, 3000] : List Int) [(.int .i64 0), (.int .i64 20), (.int .i64 100), (.int .i64 200), (.int .i64 1000), (.int .i64 3000)] rfl (fun w => by kernel_rfl) rfl (by decide) rfl trivial (elI [0, 20, 100, 200, 1000, 3000]) (by decide) fun A2 a w hf H => ?_)
  have H := H.freeze 0 rfl
  obtain ⟨y, hy, hF⟩ := bind_some hF
  refine wl0 rfl (op_call hf TF.cl133 rfl (by decide) (spec_l1Cur_among_ok (S := St ⟨w0, [b0]⟩ S [⟨b', 88, [(.int .i64 0), (.int .i64 0), (.int .i64 0), (.int .i64 0)]⟩, ⟨b0, 138, [(.slice A c.code.length c2), (.int .i64 c.at_), (.int .u64 c.seed.n)]⟩] [] [] false) (H.boxAt 1 rfl) (L1CurP_mk (x := c) (H.get 1 rfl)) (H.notSt 1 rfl _) (mk_list (rep_weak (α := List Int) (H.get 0 rfl))) hy) fun v w a hp hf => ?_)
  obtain ⟨hch, cs, hbx, hr, hs⟩ := hp
  replace hr := GoTy.mono hr (H.movesB 1 rfl false)
  obtain rfl := VR_int hs
  obtain ⟨A3, c3, rfl, hl2⟩ := L1CurP_cells hr
  have H := H.wroteBox 1 rfl hch hbx
  have H := H.push (false, MP.val [(.slice A3 y.2.code.length c3)] y.2.code) hl2
  refine pRun_ok (tb := tab) (n := 35) tabOk 1 _ _ hf rfl rfl fun a hf => ?_
  refine wl0 rfl (op_bslice hf H (.sh true) rfl 3 ([0, 50, 300, 2000, (-100)] : List Int) [(.int .i64 0), (.int .i64 50), (.int .i64 300), (.int .i64 2000), (.int .i64 (-100))] rfl (fun w => by kernel_rfl) rfl (by decide) rfl trivial (elI [0, 50, 300, 2000, (-100)]) (by decide) fun A4 a w hf H => ?_)
  have H := H.freeze 0 rfl
  obtain ⟨y2, hy2, hF⟩ := bind_some hF
  refine wl0 rfl (op_call hf TF.cl133 rfl (by decide) (spec_l1Cur_among_ok (S := St ⟨w0, [b0]⟩ S [⟨b', 88, [(.int .i64 0), (.int .i64 0), (.int .i64 0), (.int .i64 0)]⟩, ⟨b0, 138, [(.slice A3 y.2.code.length c3), (.int .i64 y.2.at_), (.int .u64 y.2.seed.n)]⟩] [] [] false) (H.boxAt 1 rfl) (L1CurP_mk (x := y.2) (H.get 1 rfl)) (H.notSt 1 rfl _) (mk_list (rep_weak (α := List Int) (H.get 0 rfl))) hy2) fun v2 w a hp2 hf => ?_)
  obtain ⟨hch2, cs2, hbx2, hr2, hs2⟩ := hp2
  replace hr2 := GoTy.mono hr2 (H.movesB 1 rfl false)
  obtain rfl := VR_int hs2
  obtain ⟨A5, c4, rfl, hl3⟩ := L1CurP_cells hr2
  have H := H.wroteBox 1 rfl hch2 hbx2
  have H := H.push (false, MP.val [(.slice A5 y2.2.code.length c4)] y2.2.code) hl3
  refine pRun_ok (tb := tab) (n := 35) tabOk 1 _ _ hf rfl rfl fun a hf => ?_
  refine wl0 rfl (op_bslice hf H (.sh true) rfl 3 ([0, 100, 500, 1000, 1000, 1300, 9900] : List Int) [(.int .i64 0), (.int .i64 100), (.int .i64 500), (.int .i64 1000), (.int .i64 1000), (.int .i64 1300), (.int .i64 9900)] rfl (fun w => by kernel_rfl) rfl (by decide) rfl trivial (elI [0, 100, 500, 1000, 1000, 1300, 9900]) (by decide) fun A6 a w hf H => ?_)
  have H := H.freeze 0 rfl
  obtain ⟨y3, hy3, hF⟩ := bind_some hF
  refine wl0 rfl (op_call hf TF.cl133 rfl (by decide) (spec_l1Cur_among_ok (S := St ⟨w0, [b0]⟩ S [⟨b', 88, [(.int .i64 0), (.int .i64 0), (.int .i64 0), (.int .i64 0)]⟩, ⟨b0, 138, [(.slice A5 y2.2.code.length c4), (.int .i64 y2.2.at_), (.int .u64 y2.2.seed.n)]⟩] [] [] false) (H.boxAt 1 rfl) (L1CurP_mk (x := y2.2) (H.get 1 rfl)) (H.notSt 1 rfl _) (mk_list (rep_weak (α := List Int) (H.get 0 rfl))) hy3) fun v3 w a hp3 hf => ?_)
  obtain ⟨hch3, cs3, hbx3, hr3, hs3⟩ := hp3
  replace hr3 := GoTy.mono hr3 (H.movesB 1 rfl false)
  obtain rfl := VR_int hs3
  obtain ⟨A7, c5, rfl, hl4⟩ := L1CurP_cells hr3
  have H := H.wroteBox 1 rfl hch3 hbx3
  have H := H.push (false, MP.val [(.slice A7 y3.2.code.length c5)] y3.2.code) hl4
  refine wl0 rfl (op_q hf (rq_build hf (cs := [(.int .i64 0), (.int .i64 y.1), (.int .i64 y2.1), (.int .i64 y3.1)]) rfl (fun w => by kernel_rfl)) rfl (by decide) fun a hf => ?_)
  refine wl0 rfl (op_alloc hf H TF.zv88 rfl (by decide) fun b2 a w hf H => ?_)
  refine wl0 rfl (op_storeB hf H 0 TF.sz88 rfl rfl rfl rfl rfl rfl (nle rfl) fun w H => ?_)
  refine wl_end ?_
  refine then_n ?_
  refine sq ?_
  refine sq ?_
  refine reg ?_
  refine pRun_ok (tb := tab) (n := 35) tabOk 1 _ _ hf rfl rfl fun a hf => ?_
  obtain ⟨y4, hy4, hF⟩ := bind_some hF
  refine wl0 rfl (op_call hf TF.cl134 rfl (by decide) (spec_l1Cur_pick_ok (S := St ⟨w0, [b0]⟩ S [⟨b2, 88, [(.int .i64 0), (.int .i64 y.1), (.int .i64 y2.1), (.int .i64 y3.1)]⟩, ⟨b', 88, [(.int .i64 0), (.int .i64 0), (.int .i64 0), (.int .i64 0)]⟩, ⟨b0, 138, [(.slice A7 y3.2.code.length c5), (.int .i64 y3.2.at_), (.int .u64 y3.2.seed.n)]⟩] [] [] false) (H.boxAt 2 rfl) (L1CurP_mk (x := y3.2) (H.get 0 rfl)) (H.notSt 2 rfl _) mk_int hy4) fun v4 w a hp4 hf => ?_)
  obtain ⟨hch4, cs4, hbx4, hr4, hs4⟩ := hp4
  replace hr4 := GoTy.mono hr4 (H.movesB 2 rfl false)
  obtain rfl := VR_int hs4
  obtain ⟨A8, c6, rfl, hl5⟩ := L1CurP_cells hr4
  have H := H.wroteBox 2 rfl hch4 hbx4
  have H := H.push (false, MP.val [(.slice A8 y4.2.code.length c6)] y4.2.code) hl5
  refine wl_end ?_
  refine then_n ?_
  refine wp_block ?_
  refine sq ?_
  refine reg ?_
  refine pRun_ok (tb := tab) (n := 35) tabOk 2 _ _ hf rfl rfl fun a hf => ?_
  refine wl_end ?_
  refine then_n ?_
  refine (Bool.eq_false_or_eq_true (y4.1 == 0)).elim (fun hc => ?_) (fun hc => ?_)
  · rw [if_pos hc] at hF
    refine cd_t hf rfl hc ?_
    refine reg ?_
    refine pRun_ok (tb := tab) (n := 35) tabOk 1 _ _ hf rfl rfl fun a hf => ?_
    refine wl0 rfl (op_bslice hf H (.sh true) rfl 3 ([(-1), 10001] : List Int) [(.int .i64 (-1)), (.int .i64 10001)] rfl (fun w => by kernel_rfl) rfl (by decide) rfl trivial (elI [(-1), 10001]) (by decide) fun A9 a w hf H => ?_)
    have H := H.freeze 0 rfl
    obtain ⟨y5, hy5, hF⟩ := bind_some hF
    refine wl0 rfl (op_call hf TF.cl133 rfl (by decide) (spec_l1Cur_among_ok (S := St ⟨w0, [b0]⟩ S [⟨b2, 88, [(.int .i64 0), (.int .i64 y.1), (.int .i64 y2.1), (.int .i64 y3.1)]⟩, ⟨b', 88, [(.int .i64 0), (.int .i64 0), (.int .i64 0), (.int .i64 0)]⟩, ⟨b0, 138, [(.slice A8 y4.2.code.length c6), (.int .i64 y4.2.at_), (.int .u64 y4.2.seed.n)]⟩] [] [] false) (H.boxAt 2 rfl) (L1CurP_mk (x := y4.2) (H.get 1 rfl)) (H.notSt 2 rfl _) (mk_list (rep_weak (α := List Int) (H.get 0 rfl))) hy5) fun v5 w a hp5 hf => ?_)
    obtain ⟨hch5, cs5, hbx5, hr5, hs5⟩ := hp5
    replace hr5 := GoTy.mono hr5 (H.movesB 2 rfl false)
    obtain rfl := VR_int hs5
    obtain ⟨A10, c7, rfl, hl6⟩ := L1CurP_cells hr5
    have H := H.wroteBox 2 rfl hch5 hbx5
    have H := H.push (false, MP.val [(.slice A10 y5.2.code.length c7)] y5.2.code) hl6
    refine pRun_ok (tb := tab) (n := 35) tabOk 1 _ _ hf rfl rfl fun a hf => ?_
    refine wl0 rfl (op_storeB hf H 0 TF.sz3 rfl rfl rfl rfl rfl rfl (nle rfl) fun w H => ?_)
    have hf := hf.prune [2, 3] rfl
    refine wl_end ?_
    refine blk_n ?_
    refine then_n ?_
    refine sq ?_
    refine reg ?_
    refine wl0 rfl (op_q hf (rq_loadBN hf H TF.la88 0 rfl rfl rfl rfl) rfl (by decide) fun a hf => ?_)
    refine wl0 rfl (op_storeB hf H 1 TF.sz88 rfl rfl rfl rfl rfl rfl (nle rfl) fun w H => ?_)
    refine wl_end ?_
    refine then_n ?_
    refine wp_ret (?_)
    obtain rfl := Option.some.inj hF
    refine ret_1 (fn := Try.f150) (r := .cell 2 88) hf rfl (rv_cellN hf H 1 TF.la88 rfl rfl rfl) ?_
    exact ⟨_, rfl, H.chg, _, H.boxAt 2 rfl, (L1CurP_mk (x := y5.2) (rep_endB (M := _) (i := 2) rfl (α := List By) (H.get 0 rfl))), Amplifier_mkv⟩
  · rw [if_neg (nt hc)] at hF
    refine cd_f hf rfl hc ?_
    refine sq ?_
    refine reg ?_
    refine pRun_ok (tb := tab) (n := 35) tabOk 2 _ _ hf rfl rfl fun a hf => ?_
    have hf := hf.prune [0, 2, 3, 15, 22] rfl
    refine wl_end ?_
    refine then_n ?_
    refine (Bool.eq_false_or_eq_true (y4.1 == 1)).elim (fun hc2 => ?_) (fun hc2 => ?_)
    · rw [if_pos hc2] at hF
      refine cd_t hf rfl hc2 ?_
      refine reg ?_
      refine pRun_ok (tb := tab) (n := 35) tabOk 1 _ _ hf rfl rfl fun a hf => ?_
      refine wl0 rfl (op_bslice hf H (.sh true) rfl 3 ([(-10001), 10001] : List Int) [(.int .i64 (-10001)), (.int .i64 10001)] rfl (fun w => by kernel_rfl) rfl (by decide) rfl trivial (elI [(-10001), 10001]) (by decide) fun A11 a w hf H => ?_)
      have H := H.freeze 0 rfl
      obtain ⟨y6, hy6, hF⟩ := bind_some hF
      refine wl0 rfl (op_call hf TF.cl133 rfl (by decide) (spec_l1Cur_among_ok (S := St ⟨w0, [b0]⟩ S [⟨b2, 88, [(.int .i64 0), (.int .i64 y.1), (.int .i64 y2.1), (.int .i64 y3.1)]⟩, ⟨b', 88, [(.int .i64 0), (.int .i64 0), (.int .i64 0), (.int .i64 0)]⟩, ⟨b0, 138, [(.slice A8 y4.2.code.length c6), (.int .i64 y4.2.at_), (.int .u64 y4.2.seed.n)]⟩] [] [] false) (H.boxAt 2 rfl) (L1CurP_mk (x := y4.2) (H.get 1 rfl)) (H.notSt 2 rfl _) (mk_list (rep_weak (α := List Int) (H.get 0 rfl))) hy6) fun v6 w a hp6 hf => ?_)
      obtain ⟨hch6, cs6, hbx6, hr6, hs6⟩ := hp6
      replace hr6 := GoTy.mono hr6 (H.movesB 2 rfl false)
      obtain rfl := VR_int hs6
      obtain ⟨A12, c8, rfl, hl7⟩ := L1CurP_cells hr6
      have H := H.wroteBox 2 rfl hch6 hbx6
      have H := H.push (false, MP.val [(.slice A12 y6.2.code.length c8)] y6.2.code) hl7
      refine pRun_ok (tb := tab) (n := 35) tabOk 1 _ _ hf rfl rfl fun a hf => ?_
      refine wl0 rfl (op_storeB hf H 0 TF.sz3 rfl rfl rfl rfl rfl rfl (nle rfl) fun w H => ?_)
      refine wl_end ?_
      refine blk_n ?_
      refine then_n ?_
      refine sq ?_
      refine reg ?_
      refine wl0 rfl (op_q hf (rq_loadBN hf H TF.la88 0 rfl rfl rfl rfl) rfl (by decide) fun a hf => ?_)
      refine wl0 rfl (op_storeB hf H 1 TF.sz88 rfl rfl rfl rfl rfl rfl (nle rfl) fun w H => ?_)
      refine wl_end ?_
      refine then_n ?_
      refine wp_ret (?_)
      obtain rfl := Option.some.inj hF
      refine ret_1 (fn := Try.f150) (r := .cell 2 88) hf rfl (rv_cellN hf H 1 TF.la88 rfl rfl rfl) ?_
      exact ⟨_, rfl, H.chg, _, H.boxAt 2 rfl, (L1CurP_mk (x := y6.2) (rep_endB (M := _) (i := 2) rfl (α := List By) (H.get 0 rfl))), Amplifier_mkv⟩
    · rw [if_neg (nt hc2)] at hF
      refine cd_f hf rfl hc2 ?_
      refine sq ?_
      refine reg ?_
      refine pRun_ok (tb := tab) (n := 35) tabOk 2 _ _ hf rfl rfl fun a hf => ?_
      refine wl_end ?_
      refine then_n ?_
      refine (Bool.eq_false_or_eq_true (y4.1 == 2)).elim (fun hc3 => ?_) (fun hc3 => ?_)
      · rw [if_pos hc3] at hF
        refine cd_t hf rfl hc3 ?_
        refine reg ?_
        refine pRun_ok (tb := tab) (n := 35) tabOk 1 _ _ hf rfl rfl fun a hf => ?_
        refine wl0 rfl (op_bslice hf H (.sh true) rfl 3 ([(-100), 10000, 10001, 150] : List Int) [(.int .i64 (-100)), (.int .i64 10000), (.int .i64 10001), (.int .i64 150)] rfl (fun w => by kernel_rfl) rfl (by decide) rfl trivial (elI [(-100), 10000, 10001, 150]) (by decide) fun A13 a w hf H => ?_)
        have H := H.freeze 0 rfl
        obtain ⟨y7, hy7, hF⟩ := bind_some hF
        refine wl0 rfl (op_call hf TF.cl133 rfl (by decide) (spec_l1Cur_among_ok (S := St ⟨w0, [b0]⟩ S [⟨b2, 88, [(.int .i64 0), (.int .i64 y.1), (.int .i64 y2.1), (.int .i64 y3.1)]⟩, ⟨b', 88, [(.int .i64 0), (.int .i64 0), (.int .i64 0), (.int .i64 0)]⟩, ⟨b0, 138, [(.slice A8 y4.2.code.length c6), (.int .i64 y4.2.at_), (.int .u64 y4.2.seed.n)]⟩] [] [] false) (H.boxAt 2 rfl) (L1CurP_mk (x := y4.2) (H.get 1 rfl)) (H.notSt 2 rfl _) (mk_list (rep_weak (α := List Int) (H.get 0 rfl))) hy7) fun v7 w a hp7 hf => ?_)
        obtain ⟨hch7, cs7, hbx7, hr7, hs7⟩ := hp7
        replace hr7 := GoTy.mono hr7 (H.movesB 2 rfl false)
        obtain rfl := VR_int hs7
        obtain ⟨A14, c9, rfl, hl8⟩ := L1CurP_cells hr7
        have H := H.wroteBox 2 rfl hch7 hbx7
        have H := H.push (false, MP.val [(.slice A14 y7.2.code.length c9)] y7.2.code) hl8
        refine pRun_ok (tb := tab) (n := 35) tabOk 1 _ _ hf rfl rfl fun a hf => ?_
        refine wl0 rfl (op_storeB hf H 0 TF.sz3 rfl rfl rfl rfl rfl rfl (nle rfl) fun w H => ?_)
        refine wl_end ?_
        refine blk_n ?_
        refine then_n ?_
        refine sq ?_
        refine reg ?_
        refine wl0 rfl (op_q hf (rq_loadBN hf H TF.la88 0 rfl rfl rfl rfl) rfl (by decide) fun a hf => ?_)
        refine wl0 rfl (op_storeB hf H 1 TF.sz88 rfl rfl rfl rfl rfl rfl (nle rfl) fun w H => ?_)
        refine wl_end ?_
        refine then_n ?_
        refine wp_ret (?_)
        obtain rfl := Option.some.inj hF
        refine ret_1 (fn := Try.f150) (r := .cell 2 88) hf rfl (rv_cellN hf H 1 TF.la88 rfl rfl rfl) ?_
        exact ⟨_, rfl, H.chg, _, H.boxAt 2 rfl, (L1CurP_mk (x := y7.2) (rep_endB (M := _) (i := 2) rfl (α := List By) (H.get 0 rfl))), Amplifier_mkv⟩
      · rw [if_neg (nt hc3)] at hF
        refine cd_f hf rfl hc3 ?_
        refine wp_skip ?_
        refine blk_n ?_
        refine then_n ?_
        refine sq ?_
        refine reg ?_
        refine wl0 rfl (op_q hf (rq_loadBN hf H TF.la88 0 rfl rfl rfl rfl) rfl (by decide) fun a hf => ?_)
        refine wl0 rfl (op_storeB hf H 1 TF.sz88 rfl rfl rfl rfl rfl rfl (nle rfl) fun w H => ?_)
        refine wl_end ?_
        refine then_n ?_
        refine wp_ret (?_)
        obtain rfl := Option.some.inj hF
        refine ret_1 (fn := Try.f150) (r := .cell 2 88) hf rfl (rv_cellN hf H 1 TF.la88 rfl rfl rfl) ?_
        exact ⟨_, rfl, H.chg, _, H.boxAt 2 rfl, (L1CurP_mk (x := y4.2) (rep_endB (M := _) (i := 2) rfl (α := List By) (H.get 0 rfl))), Amplifier_mkv⟩

/- loop.example/g00897/spec.DrawPlaceAmplifiers -/
set_option maxHeartbeats 1000000 in
theorem spec_DrawPlaceAmplifiers_ok {fu : Nat} {w0 : World} {S : Nat → Prop} {v0_ : Value} {code : List By} {r : List Span × Amplifier × Int × Int} (h0 : VR w0 S v0_ code) (hF : spec_DrawPlaceAmplifiers fu code = some r) :
    Calls Try.prog 95 [v0_].toArray w0 fun e w' => ∃ v, e = .returned v ∧ (Below w0.heap.size w0 w' ∧ ∃ u0 u1 u2 u3, v = .tuple #[u0, u1, u2, u3] ∧ VR w' (St ⟨w0, []⟩ S [] [] [] true) u0 r.1 ∧ VR w' (St ⟨w0, []⟩ S [] [] [] true) u1 r.2.1 ∧ VR w' (St ⟨w0, []⟩ S [] [] [] true) u2 r.2.2.1 ∧ VR w' (St ⟨w0, []⟩ S [] [] [] true) u3 r.2.2.2) := by
  obtain ⟨A, c, rfl, hl⟩ := VR_list h0
  have H := Mem.start ⟨w0, []⟩ S
  have H := H.pushArg (MP.val [(.slice A code.length c)] code) hl
  refine enter Try.func95 rfl rfl (nle rfl) rfl fun a hf => ?_
  rw [spec_DrawPlaceAmplifiers] at hF
  refine sq ?_
  refine reg ?_
  refine pRun_ok (tb := tab) (n := 26) tabOk 1 _ _ hf rfl rfl fun a hf => ?_
  refine wl0 rfl (op_alloc hf H TF.zv88 rfl (by decide) fun b' a w hf H => ?_)
  refine pRun_ok (tb := tab) (n := 26) tabOk 2 _ _ hf rfl rfl fun a hf => ?_
  refine wl_end ?_
  refine then_n ?_
  refine sq ?_
  refine reg ?_
  refine pRun_ok (tb := tab) (n := 26) tabOk 1 _ _ hf rfl rfl fun a hf => ?_
  refine wl0 rfl (op_q hf (rq_build hf (cs := [(.slice A code.length c), (.int .i64 0), (.int .u64 0)]) rfl (fun w => by kernel_rfl)) rfl (by decide) fun a hf => ?_)
  refine wl0 rfl (op_box hf H rfl rfl (by decide) fun b2 a w hf H => ?_)
  refine pRun_ok (tb := tab) (n := 26) tabOk 1 _ _ hf rfl rfl fun a hf => ?_
  refine wl_end ?_
  refine then_n ?_
  refine sq ?_
  refine reg ?_
  refine pRun_ok (tb := tab) (n := 26) tabOk 2 _ _ hf rfl rfl fun a hf => ?_
  obtain ⟨y, hy, hF⟩ := bind_some hF
  refine wl0 rfl (op_call hf TF.cl136 rfl (by decide) (spec_l1Cur_level_ok (S := St ⟨w0, []⟩ S [⟨b2, 138, [(.slice A code.length c), (.int .i64 0), (.int .u64 0)]⟩, ⟨b', 88, [(.int .i64 0), (.int .i64 0), (.int .i64 0), (.int .i64 0)]⟩] [] [] false) (H.boxAt 0 rfl) (L1CurP_mk (x := ({ code := code, at_ := 0, seed := (⟨0⟩ : U64) } : L1CurP)) (H.get 0 rfl)) (H.notSt 0 rfl _) hy) fun v w a hp hf => ?_)
  obtain ⟨hch, cs, hbx, hr, hs⟩ := hp
  replace hr := GoTy.mono hr (H.movesB 0 rfl false)
  obtain rfl := VR_int hs
  obtain ⟨A2, c2, rfl, hl2⟩ := L1CurP_cells hr
  have H := H.wroteBox 0 rfl hch hbx
  have H := H.push (false, MP.val [(.slice A2 y.2.code.length c2)] y.2.code) hl2
  refine wl0 rfl (op_bslice hf H (.sh true) rfl 3 ([0, 100, 300, 1000, y.1] : List Int) [(.int .i64 0), (.int .i64 100), (.int .i64 300), (.int .i64 1000), (.int .i64 y.1)] rfl (fun w => by kernel_rfl) rfl (by decide) rfl trivial (elI [0, 100, 300, 1000, y.1]) (by decide) fun A3 a w hf H => ?_)
  have H := H.freeze 0 rfl
  obtain ⟨y2, hy2, hF⟩ := bind_some hF
  refine wl0 rfl (op_call hf TF.cl133 rfl (by decide) (spec_l1Cur_among_ok (S := St ⟨w0, []⟩ S [⟨b2, 138, [(.slice A2 y.2.code.length c2), (.int .i64 y.2.at_), (.int .u64 y.2.seed.n)]⟩, ⟨b', 88, [(.int .i64 0), (.int .i64 0), (.int .i64 0), (.int .i64 0)]⟩] [] [] false) (H.boxAt 0 rfl) (L1CurP_mk (x := y.2) (H.get 1 rfl)) (H.notSt 0 rfl _) (mk_list (rep_weak (α := List Int) (H.get 0 rfl))) hy2) fun v2 w a hp2 hf => ?_)
  obtain ⟨hch2, cs2, hbx2, hr2, hs2⟩ := hp2
  replace hr2 := GoTy.mono hr2 (H.movesB 0 rfl false)
  obtain rfl := VR_int hs2
  obtain ⟨A4, c3, rfl, hl3⟩ := L1CurP_cells hr2
  have H := H.wroteBox 0 rfl hch2 hbx2
  have H := H.push (false, MP.val [(.slice A4 y2.2.code.length c3)] y2.2.code) hl3
  refine pRun_ok (tb := tab) (n := 26) tabOk 1 _ _ hf rfl rfl fun a hf => ?_
  refine wl_end ?_
  refine then_n ?_
  refine sq ?_
  refine reg ?_
  refine pRun_ok (tb := tab) (n := 26) tabOk 1 _ _ hf rfl rfl fun a hf => ?_
  obtain ⟨y3, hy3, hF⟩ := bind_some hF
  refine wl0 rfl (op_call hf TF.cl149 rfl (by decide) (spec_l1Cur_line_ok (S := St ⟨w0, []⟩ S [⟨b2, 138, [(.slice A4 y2.2.code.length c3), (.int .i64 y2.2.at_), (.int .u64 y2.2.seed.n)]⟩, ⟨b', 88, [(.int .i64 0), (.int .i64 0), (.int .i64 0), (.int .i64 0)]⟩] [] [] false) (H.boxAt 0 rfl) (L1CurP_mk (x := y2.2) (H.get 0 rfl)) (H.notSt 0 rfl _) hy3) fun v3 w a hp3 hf => ?_)
  obtain ⟨hch3, cs3, hbx3, hr3, hs3⟩ := hp3
  replace hr3 := GoTy.mono hr3 (H.movesB 0 rfl false)
  obtain ⟨A5, c4, rfl, hl4⟩ := VR_list hs3
  replace hl4 := GoTy.mono (α := List Span) hl4 (H.movesB (w' := w) 0 rfl true)
  obtain ⟨A6, c5, rfl, hl5⟩ := L1CurP_cells hr3
  have H := H.wroteBox 0 rfl hch3 hbx3
  have H := H.push (true, MP.val [(.slice A5 y3.1.length c4)] y3.1) hl4
  have H := H.push (false, MP.val [(.slice A6 y3.2.code.length c5)] y3.2.code) hl5
  refine pRun_ok (tb := tab) (n := 26) tabOk 1 _ _ hf rfl rfl fun a hf => ?_
  obtain ⟨y4, hy4, hF⟩ := bind_some hF
  refine wl0 rfl (op_call hf TF.cl150 rfl (by decide) (spec_l1Cur_amplifier_ok (S := St ⟨w0, []⟩ S [⟨b2, 138, [(.slice A6 y3.2.code.length c5), (.int .i64 y3.2.at_), (.int .u64 y3.2.seed.n)]⟩, ⟨b', 88, [(.int .i64 0), (.int .i64 0), (.int .i64 0), (.int .i64 0)]⟩] [] [] false) (H.boxAt 0 rfl) (L1CurP_mk (x := y3.2) (H.get 0 rfl)) (H.notSt 0 rfl _) hy4) fun v4 w a hp4 hf => ?_)
  obtain ⟨hch4, cs4, hbx4, hr4, hs4⟩ := hp4
  replace hr4 := GoTy.mono hr4 (H.movesB 0 rfl false)
  obtain rfl := Amplifier_open hs4
  obtain ⟨A7, c6, rfl, hl6⟩ := L1CurP_cells hr4
  have H := H.wroteBox 0 rfl hch4 hbx4
  have H := H.push (false, MP.val [(.slice A7 y4.2.code.length c6)] y4.2.code) hl6
  refine pRun_ok (tb := tab) (n := 26) tabOk 3 _ _ hf rfl rfl fun a hf => ?_
  refine wl0 rfl (op_bslice hf H (.sh true) rfl 3 ([50, 100, 300, 600, 0, 2000] : List Int) [(.int .i64 50), (.int .i64 100), (.int .i64 300), (.int .i64 600), (.int .i64 0), (.int .i64 2000)] rfl (fun w => by kernel_rfl) rfl (by decide) rfl trivial (elI [50, 100, 300, 600, 0, 2000]) (by decide) fun A8 a w hf H => ?_)
  have H := H.freeze 0 rfl
  obtain ⟨y5, hy5, hF⟩ := bind_some hF
  refine wl0 rfl (op_call hf TF.cl133 rfl (by decide) (spec_l1Cur_among_ok (S := St ⟨w0, []⟩ S [⟨b2, 138, [(.slice A7 y4.2.code.length c6), (.int .i64 y4.2.at_), (.int .u64 y4.2.seed.n)]⟩, ⟨b', 88, [(.int .i64 0), (.int .i64 0), (.int .i64 0), (.int .i64 0)]⟩] [] [] false) (H.boxAt 0 rfl) (L1CurP_mk (x := y4.2) (H.get 1 rfl)) (H.notSt 0 rfl _) (mk_list (rep_weak (α := List Int) (H.get 0 rfl))) hy5) fun v5 w a hp5 hf => ?_)
  obtain ⟨hch5, cs5, hbx5, hr5, hs5⟩ := hp5
  replace hr5 := GoTy.mono hr5 (H.movesB 0 rfl false)
  obtain rfl := VR_int hs5
  obtain ⟨A9, c7, rfl, hl7⟩ := L1CurP_cells hr5
  have H := H.wroteBox 0 rfl hch5 hbx5
  have H := H.push (false, MP.val [(.slice A9 y5.2.code.length c7)] y5.2.code) hl7
  refine pRun_ok (tb := tab) (n := 26) tabOk 2 _ _ hf rfl rfl fun a hf => ?_
  refine wl0 rfl (op_storeB hf H 1 TF.sz88 rfl rfl rfl rfl rfl rfl (nle rfl) fun w H => ?_)
  refine pRun_ok (tb := tab) (n := 26) tabOk 2 _ _ hf rfl rfl fun a hf => ?_
  have hf := hf.prune [2, 3, 4, 5] rfl
  refine wl_end ?_
  refine then_n ?_
  refine wp_ret (?_)
  obtain rfl := Option.some.inj hF
  refine ret_4 (fn := Try.f95) (r := .tmp 2) (s := .cell 3 88) (t := .tmp 4) (x3 := .tmp 5) hf rfl (rv_tmp hf rfl) (rv_cellN hf H 1 TF.la88 rfl rfl rfl) (rv_tmp hf rfl) (rv_tmp hf rfl) ?_
  exact ⟨_, rfl, H.bel, _, _, _, _, rfl, (mk_list (rep_end (α := List Span) (H.get 4 rfl))), Amplifier_mkv, mk_int, mk_int⟩

/- loop.example/g00897/impl.within -/
set_option maxHeartbeats 1000000 in
theorem impl_within_ok {fu : Nat} {w0 : World} {S : Nat → Prop} {v0_ : Value} {v1_ : Value} {v2_ : Value} {n' : Int} {low : Int} {high : Int} {r : Bool} (h0 : VR w0 S v0_ n') (h1 : VR w0 S v1_ low) (h2 : VR w0 S v2_ high) (hF : impl_within fu n' low high = some r) :
    Calls Try.prog 98 [v0_, v1_, v2_].toArray w0 fun e w' => ∃ v, e = .returned v ∧ (Below w0.heap.size w0 w' ∧ VR w' (St ⟨w0, []⟩ S [] [] [] true) v r) := by
  obtain rfl := VR_int h0
  obtain rfl := VR_int h1
  obtain rfl := VR_int h2
  have H := Mem.start ⟨w0, []⟩ S
  refine enter Try.func98 rfl rfl (nle rfl) rfl fun a hf => ?_
  rw [impl_within] at hF
  refine sq ?_
  refine reg ?_
  refine pRun_ok (tb := tab) (n := 15) tabOk 1 _ _ hf rfl rfl fun a hf => ?_
  refine wl_end ?_
  refine then_n ?_
  refine sq ?_
  obtain ⟨c, hGc, hF⟩ := bind_some hF
  refine mid (fun a w => Fr a 15 [(6, (.bool c))] ∧ Mem ⟨w0, []⟩ S [] [] [] [] w) ?_ ?_
  · refine reg ?_
    refine pRun_ok (tb := tab) (n := 15) tabOk 4 _ _ hf rfl rfl fun a hf => ?_
    refine (Bool.eq_false_or_eq_true (decide (low ≤ n'))).elim (fun hc => ?_) (fun hc => ?_)
    · rw [if_pos hc] at hGc
      have hf := hf.lit 10 rfl hc
      refine pRun_ok (tb := tab) (n := 15) tabOk 5 _ _ hf rfl rfl fun a hf => ?_
      obtain rfl := Option.some.inj hGc
      have hf := hf.prune [6] rfl
      have H := H.let [] [] [] []
      exact wl_end ⟨hf, H⟩
    · rw [if_neg (nt hc)] at hGc
      have hf := hf.lit 10 rfl hc
      refine pRun_ok (tb := tab) (n := 15) tabOk 5 _ _ hf rfl rfl fun a hf => ?_
      obtain rfl := Option.some.inj hGc
      have hf := hf.prune [6] rfl
      have H := H.let [] [] [] []
      exact wl_end ⟨hf, H⟩
  rintro a w ⟨hf, H⟩
  refine then_n ?_
  refine wp_ret (?_)
  obtain rfl := Option.some.inj hF
  refine ret_1 (fn := Try.f98) (r := .tmp 6) hf rfl (rv_tmp hf rfl) ?_
  exact ⟨_, rfl, H.bel, mk_bool⟩

/- loop.example/g00897/impl.isSpan -/
set_option maxHeartbeats 1000000 in
theorem impl_isSpan_ok {fu : Nat} {w0 : World} {S : Nat → Prop} {v0_ : Value} {s' : Span} {r : Bool} (h0 : VR w0 S v0_ s') (hF : impl_isSpan fu s' = some r) :
    Calls Try.prog 101 [v0_].toArray w0 fun e w' => ∃ v, e = .returned v ∧ (Below w0.heap.size w0 w' ∧ VR w' (St ⟨w0, []⟩ S [] [] [] true) v r) := by
  obtain rfl := Span_open h0
  have H := Mem.start ⟨w0, []⟩ S
  refine enter Try.func101 rfl rfl (nle rfl) rfl fun a hf => ?_
  rw [impl_isSpan] at hF
  refine sq ?_
  refine reg ?_
  refine wl0 rfl (op_box hf H rfl rfl (by decide) fun b' a w hf H => ?_)
  refine pRun_ok (tb := tab) (n := 16) tabOk 1 _ _ hf rfl rfl fun a hf => ?_
  refine wl_end ?_
  refine then_n ?_
  refine sq ?_
  obtain ⟨c, hGc, hF⟩ := bind_some hF
  refine mid (fun a w => Fr a 16 [(2, (.bool c))] ∧ Mem ⟨w0, []⟩ S [] [] [] [] w) ?_ ?_
  · refine reg ?_
    refine pRun_ok (tb := tab) (n := 16) tabOk 1 _ _ hf rfl rfl fun a hf => ?_
    refine wl0 rfl (op_q hf (rq_loadB hf H TF.ls3 0 rfl rfl rfl) rfl (by decide) fun a hf => ?_)
    obtain ⟨y, hy, hGc⟩ := bind_some hGc
    refine wl0 rfl (op_call hf TF.cl98 rfl (by decide) (impl_within_ok (S := fun _ => True) mk_int mk_int mk_int hy) fun v w a hp hf => ?_)
    obtain ⟨hb, hp⟩ := hp
    obtain rfl := VR_bool hp
    have H := H.keep hb
    refine pRun_ok (tb := tab) (n := 16) tabOk 1 _ _ hf rfl rfl fun a hf => ?_
    refine (Bool.eq_false_or_eq_true (y)).elim (fun hc => ?_) (fun hc => ?_)
    · rw [if_pos hc] at hGc
      have hf := hf.lit 6 rfl hc
      refine pRun_ok (tb := tab) (n := 16) tabOk 1 _ _ hf rfl rfl fun a hf => ?_
      refine wlg hf rfl rfl rfl (op_q hf (rq_loadB hf H TF.ls3 0 rfl rfl rfl) rfl (by decide) fun a hf => ?_)
      obtain ⟨y2, hy2, hGc⟩ := bind_some hGc
      refine wlg hf rfl rfl rfl (op_call hf TF.cl98 rfl (by decide) (impl_within_ok (S := fun _ => True) mk_int mk_int mk_int hy2) fun v2 w a hp2 hf => ?_)
      obtain ⟨hb2, hp2⟩ := hp2
      obtain rfl := VR_bool hp2
      have H := H.keep hb2
      refine pRun_ok (tb := tab) (n := 16) tabOk 2 _ _ hf rfl rfl fun a hf => ?_
      refine (Bool.eq_false_or_eq_true (y2)).elim (fun hc2 => ?_) (fun hc2 => ?_)
      · rw [if_pos hc2] at hGc
        have hf := hf.lit 11 rfl hc2
        refine pRun_ok (tb := tab) (n := 16) tabOk 1 _ _ hf rfl rfl fun a hf => ?_
        refine wlg hf rfl rfl rfl (op_q hf (rq_loadB hf H TF.ls3 0 rfl rfl rfl) rfl (by decide) fun a hf => ?_)
        obtain ⟨y3, hy3, hGc⟩ := bind_some hGc
        refine wlg hf rfl rfl rfl (op_call hf TF.cl98 rfl (by decide) (impl_within_ok (S := fun _ => True) mk_int mk_int mk_int hy3) fun v3 w a hp3 hf => ?_)
        obtain ⟨hb3, hp3⟩ := hp3
        obtain rfl := VR_bool hp3
        have H := H.keep hb3
        refine pRun_ok (tb := tab) (n := 16) tabOk 2 _ _ hf rfl rfl fun a hf => ?_
        obtain rfl := Option.some.inj hGc
        have hf := hf.prune [2] rfl
        have H := H.let [false] [] [] []
        exact wl_end ⟨hf, H⟩
      · rw [if_neg (nt hc2)] at hGc
        have hf := hf.lit 11 rfl hc2
        refine pRun_ok (tb := tab) (n := 16) tabOk 5 _ _ hf rfl rfl fun a hf => ?_
        obtain rfl := Option.some.inj hGc
        have hf := hf.prune [2] rfl
        have H := H.let [false] [] [] []
        exact wl_end ⟨hf, H⟩
    · rw [if_neg (nt hc)] at hGc
      have hf := hf.lit 6 rfl hc
      refine pRun_ok (tb := tab) (n := 16) tabOk 10 _ _ hf rfl rfl fun a hf => ?_
      obtain rfl := Option.some.inj hGc
      have hf := hf.prune [2] rfl
      have H := H.let [false] [] [] []
      exact wl_end ⟨hf, H⟩
  rintro a w ⟨hf, H⟩
  refine then_n ?_
  refine wp_ret (?_)
  obtain rfl := Option.some.inj hF
  refine ret_1 (fn := Try.f101) (r := .tmp 2) hf rfl (rv_tmp hf rfl) ?_
  exact ⟨_, rfl, H.bel, mk_bool⟩

/- loop.example/g00897/impl.isLine$1 -/
set_option maxHeartbeats 1000000 in
theorem impl_isLine_c1_ok {fu : Nat} {w0 : World} {S : Nat → Prop} {v0_ : Value} {s' : Span} {r : Bool} (h0 : VR w0 S v0_ s') (hF : impl_isLine_c1 fu s' = some r) :
    Calls Try.prog 164 [v0_].toArray w0 fun e w' => ∃ v, e = .returned v ∧ (Below w0.heap.size w0 w' ∧ VR w' (St ⟨w0, []⟩ S [] [] [] true) v r) := by
  obtain rfl := Span_open h0
  have H := Mem.start ⟨w0, []⟩ S
  refine enter Try.func164 rfl rfl (nle rfl) rfl fun a hf => ?_
  rw [impl_isLine_c1] at hF
  refine sq ?_
  refine reg ?_
  refine wl0 rfl (op_box hf H rfl rfl (by decide) fun b' a w hf H => ?_)
  refine pRun_ok (tb := tab) (n := 6) tabOk 1 _ _ hf rfl rfl fun a hf => ?_
  refine wl_end ?_
  refine then_n ?_
  refine sq ?_
  refine reg ?_
  refine wl0 rfl (op_q hf (rq_loadBN hf H TF.la28 0 rfl rfl rfl rfl) rfl (by decide) fun a hf => ?_)
  obtain ⟨y, hy, hF⟩ := bind_some hF
  refine wl0 rfl (op_call hf TF.cl101 rfl (by decide) (impl_isSpan_ok (S := fun _ => True) Span_mkv hy) fun v w a hp hf => ?_)
  obtain ⟨hb, hp⟩ := hp
  obtain rfl := VR_bool hp
  have H := H.keep hb
  refine pRun_ok (tb := tab) (n := 6) tabOk 2 _ _ hf rfl rfl fun a hf => ?_
  refine wl_end ?_
  refine then_n ?_
  refine wp_ret (?_)
  obtain rfl := Option.some.inj hF
  refine ret_1 (fn := Try.f164) (r := .tmp 2) hf rfl (rv_tmp hf rfl) ?_
  exact ⟨_, rfl, H.bel, mk_bool⟩

/- slices.IndexFunc[[]loop.example/g00897/impl.Span,loop.example/g00897/impl.Span] -/
set_option maxHeartbeats 1000000 in
theorem slices_IndexFunc_impl_Span_impl_Span_of_isLine_c1_ok {fu : Nat} {w0 : World} {S : Nat → Prop} {v0_ : Value} {s' : List Span} {r : Int} (h0 : VR w0 S v0_ s') (hF : slices_IndexFunc_impl_Span_impl_Span_of_isLine_c1 fu s' = some r) :
    Calls Try.prog 166 [v0_, (.func (.func 164) #[] #[])].toArray w0 fun e w' => ∃ v, e = .returned v ∧ (Below w0.heap.size w0 w' ∧ VR w' (St ⟨w0, []⟩ S [] [] [] true) v r) := by
  obtain ⟨A, c, rfl, hl⟩ := VR_list h0
  have H := Mem.start ⟨w0, []⟩ S
  have H := H.pushArg (MP.val [(.slice A s'.length c)] s') hl
  refine enter Try.func166 rfl rfl (nle rfl) rfl fun a hf => ?_
  rw [slices_IndexFunc_impl_Span_impl_Span_of_isLine_c1] at hF
  refine sq ?_
  refine reg ?_
  refine pRun_ok (tb := tab) (n := 19) tabOk 1 _ _ hf rfl rfl fun a hf => ?_
  refine wl_end ?_
  refine then_n ?_
  refine sq ?_
  refine sq ?_
  refine reg ?_
  refine pRun_ok (tb := tab) (n := 19) tabOk 3 _ _ hf rfl rfl fun a hf => ?_
  refine wl_end ?_
  refine then_n ?_
  obtain ⟨out', hB1, hF⟩ := bind_some hF
  have hf := hf.prune [0, 1, 7, 8] rfl
  have H := H.let [] [] [] [0]
  have hI : (fun (s : Int) (a : Act) (w : World) => match s with | i => Fr a 19 [(0, (.slice A s'.length c)), (1, (.func (.func 164) #[] #[])), (7, (.int .i64 (s'.length : Int))), (8, (.int .i64 i))] ∧ Mem ⟨w0, []⟩ S [] [] [] [(false, MP.val [(.slice A s'.length c)] (s' : List Span))] w) 0 a w0 := ⟨hf, H⟩
  refine mid (fun a w => ∃ s : Int, out' = Out.next s ∧ (fun (s : Int) (a : Act) (w : World) => match s with | i => Fr a 19 [(0, (.slice A s'.length c)), (1, (.func (.func 164) #[] #[])), (7, (.int .i64 (s'.length : Int))), (8, (.int .i64 i))] ∧ Mem ⟨w0, []⟩ S [] [] [] [(false, MP.val [(.slice A s'.length c)] (s' : List Span))] w) s a w) ?_ ?_
  · refine wp_block ?_
    refine loop_rule (fun k (s : Int) => slices_IndexFunc_impl_Span_impl_Span_of_isLine_c1_L1 fu s' k s = some out') (fun (s : Int) (a : Act) (w : World) => match s with | i => Fr a 19 [(0, (.slice A s'.length c)), (1, (.func (.func 164) #[] #[])), (7, (.int .i64 (s'.length : Int))), (8, (.int .i64 i))] ∧ Mem ⟨w0, []⟩ S [] [] [] [(false, MP.val [(.slice A s'.length c)] (s' : List Span))] w) (fun s h => by cases h) ?_ fu 0 a w0 hB1 hI
    rintro fk i a w hR1 hI
    replace hR1 : slices_IndexFunc_impl_Span_impl_Span_of_isLine_c1_L1 fu s' (fk + 1) i = some out' := hR1
    rw [slices_IndexFunc_impl_Span_impl_Span_of_isLine_c1_L1] at hR1
    obtain ⟨hf, H⟩ := hI
    refine sq ?_
    refine reg ?_
    refine pRun_ok (tb := tab) (n := 19) tabOk 1 _ _ hf rfl rfl fun a hf => ?_
    refine wl_end ?_
    refine then_n ?_
    refine sq ?_
    refine (Bool.eq_false_or_eq_true (decide (i < (s'.length : Int)))).elim (fun hc => ?_) (fun hc => ?_)
    · rw [if_pos hc] at hR1
      refine cd_t hf rfl hc ?_
      refine wp_skip ?_
      refine then_n ?_
      refine sq ?_
      refine wp_block ?_
      refine sq ?_
      refine reg ?_
      refine pRun_ok (tb := tab) (n := 19) tabOk 2 _ _ hf rfl rfl fun a hf => ?_
      refine wl_end ?_
      refine then_n ?_
      refine sq ?_
      refine reg ?_
      refine pRun_ok (tb := tab) (n := 19) tabOk 3 _ _ hf rfl rfl fun a hf => ?_
      obtain ⟨e, he, hR1⟩ := bind_some hR1
      refine wl0 rfl (op_iaddr hf H Try.underlying96 TF.sz28 0 rfl rfl rfl he (by decide) fun p o cs a hf hr H => ?_)
      obtain rfl := Span_cells hr
      refine wl0 rfl (op_q hf (rq_loadIN hf H TF.la28 0 0 rfl rfl rfl rfl) rfl (by decide) fun a hf => ?_)
      obtain ⟨y, hy, hR1⟩ := bind_some hR1
      refine wl0 rfl (op_callV hf TF.cl164 rfl rfl (by decide) (impl_isLine_c1_ok (S := fun _ => True) Span_mkv hy) fun v w a hp hf => ?_)
      obtain ⟨hb, hp⟩ := hp
      obtain rfl := VR_bool hp
      have H := H.keep hb
      refine wl_end ?_
      refine then_n ?_
      refine (Bool.eq_false_or_eq_true (y)).elim (fun hc2 => ?_) (fun hc2 => ?_)
      · rw [if_pos hc2] at hR1
        refine cd_t hf rfl hc2 ?_
        refine sq ?_
        refine reg ?_
        refine pRun_ok (tb := tab) (n := 19) tabOk 2 _ _ hf rfl rfl fun a hf => ?_
        have hf := hf.prune [4] rfl
        refine wl_end ?_
        refine then_n ?_
        refine wp_ret (blk_r (then_r (then_r (blk_r (then_r (then_r (?_)))))))
        obtain rfl := Option.some.inj hR1
        replace hF := on_ret hF
        obtain rfl := Option.some.inj hF
        refine ret_1 (fn := Try.f166) (r := .tmp 4) hf rfl (rv_tmp hf rfl) ?_
        exact ⟨_, rfl, H.bel, mk_int⟩
      · rw [if_neg (nt hc2)] at hR1
        refine cd_f hf rfl hc2 ?_
        refine wp_skip ?_
        refine blk_n ?_
        refine then_n ?_
        refine reg ?_
        refine pRun_ok (tb := tab) (n := 19) tabOk 2 _ _ hf rfl rfl fun a hf => ?_
        refine wl_end ?_
        have hf := hf.prune [0, 1, 7, 8] rfl
        have H := H.let [] [] [] [1]
        exact then_n ⟨w64 (i + 1), hR1, hf, H⟩
    · rw [if_neg (nt hc)] at hR1
      refine cd_f hf rfl hc ?_
      refine wp_exit (then_x (then_x (blk_e (?_))))
      have hf := hf.prune [0, 1, 7, 8] rfl
      have H := H.let [] [] [] [0]
      exact ⟨i, (Option.some.inj hR1).symm, hf, H⟩
  rintro a w ⟨i2, rfl, hf, H⟩
  replace hF := on_next hF
  refine then_n ?_
  refine sq ?_
  refine reg ?_
  refine pRun_ok (tb := tab) (n := 19) tabOk 1 _ _ hf rfl rfl fun a hf => ?_
  refine wl_end ?_
  refine then_n ?_
  refine wp_ret (?_)
  obtain rfl := Option.some.inj hF
  refine ret_1 (fn := Try.f166) (r := .tmp 4) hf rfl (rv_tmp hf rfl) ?_
  exact ⟨_, rfl, H.bel, mk_int⟩

/- slices.ContainsFunc[[]loop.example/g00897/impl.Span,loop.example/g00897/impl.Span] -/
set_option maxHeartbeats 1000000 in
theorem slices_ContainsFunc_impl_Span_impl_Span_of_isLine_c1_ok {fu : Nat} {w0 : World} {S : Nat → Prop} {v0_ : Value} {s' : List Span} {r : Bool} (h0 : VR w0 S v0_ s') (hF : slices_ContainsFunc_impl_Span_impl_Span_of_isLine_c1 fu s' = some r) :
    Calls Try.prog 163 [v0_, (.func (.func 164) #[] #[])].toArray w0 fun e w' => ∃ v, e = .returned v ∧ (Below w0.heap.size w0 w' ∧ VR w' (St ⟨w0, []⟩ S [] [] [] true) v r) := by
  obtain ⟨A, c, rfl, hl⟩ := VR_list h0
  have H := Mem.start ⟨w0, []⟩ S
  have H := H.pushArg (MP.val [(.slice A s'.length c)] s') hl
  refine enter Try.func163 rfl rfl (nle rfl) rfl fun a hf => ?_
  rw [slices_ContainsFunc_impl_Span_impl_Span_of_isLine_c1] at hF
  refine sq ?_
  refine reg ?_
  refine pRun_ok (tb := tab) (n := 9) tabOk 1 _ _ hf rfl rfl fun a hf => ?_
  refine wl_end ?_
  refine then_n ?_
  refine sq ?_
  refine reg ?_
  refine pRun_ok (tb := tab) (n := 9) tabOk 2 _ _ hf rfl rfl fun a hf => ?_
  obtain ⟨y, hy, hF⟩ := bind_some hF
  refine wl0 rfl (op_call hf TF.cl166 rfl (by decide) (slices_IndexFunc_impl_Span_impl_Span_of_isLine_c1_ok (S := fun _ => True) (mk_list (rep_true (α := List Span) (H.get 0 rfl))) hy) fun v w a hp hf => ?_)
  obtain ⟨hb, hp⟩ := hp
  obtain rfl := VR_int hp
  have H := H.keep hb
  refine pRun_ok (tb := tab) (n := 9) tabOk 2 _ _ hf rfl rfl fun a hf => ?_
  refine wl_end ?_
  refine then_n ?_
  refine wp_ret (?_)
  obtain rfl := Option.some.inj hF
  refine ret_1 (fn := Try.f163) (r := .tmp 4) hf rfl (rv_tmp hf rfl) ?_
  exact ⟨_, rfl, H.bel, mk_bool⟩

/- loop.example/g00897/impl.isLine -/
set_option maxHeartbeats 1000000 in
theorem impl_isLine_ok {fu : Nat} {w0 : World} {S : Nat → Prop} {v0_ : Value} {line : List Span} {r : Bool} (h0 : VR w0 S v0_ line) (hF : impl_isLine fu line = some r) :
    Calls Try.prog 141 [v0_].toArray w0 fun e w' => ∃ v, e = .returned v ∧ (Below w0.heap.size w0 w' ∧ VR w' (St ⟨w0, []⟩ S [] [] [] true) v r) := by
  obtain ⟨A, c, rfl, hl⟩ := VR_list h0
  have H := Mem.start ⟨w0, []⟩ S
  have H := H.pushArg (MP.val [(.slice A line.length c)] line) hl
  refine enter Try.func141 rfl rfl (nle rfl) rfl fun a hf => ?_
  rw [impl_isLine] at hF
  refine sq ?_
  refine reg ?_
  refine pRun_ok (tb := tab) (n := 11) tabOk 1 _ _ hf rfl rfl fun a hf => ?_
  refine wl_end ?_
  refine then_n ?_
  refine sq ?_
  obtain ⟨c2, hGc2, hF⟩ := bind_some hF
  refine mid (fun a w => Fr a 11 [(2, (.bool c2))] ∧ Mem ⟨w0, []⟩ S [] [] [] [] w) ?_ ?_
  · refine reg ?_
    refine pRun_ok (tb := tab) (n := 11) tabOk 2 _ _ hf rfl rfl fun a hf => ?_
    obtain ⟨y, hy, hGc2⟩ := bind_some hGc2
    refine wl0 rfl (op_call hf TF.cl98 rfl (by decide) (impl_within_ok (S := fun _ => True) mk_int mk_int mk_int hy) fun v w a hp hf => ?_)
    obtain ⟨hb, hp⟩ := hp
    obtain rfl := VR_bool hp
    have H := H.keep hb
    refine pRun_ok (tb := tab) (n := 11) tabOk 1 _ _ hf rfl rfl fun a hf => ?_
    refine (Bool.eq_false_or_eq_true (y)).elim (fun hc => ?_) (fun hc => ?_)
    · rw [if_pos hc] at hGc2
      have hf := hf.lit 6 rfl hc
      refine pRun_ok (tb := tab) (n := 11) tabOk 1 _ _ hf rfl rfl fun a hf => ?_
      obtain ⟨y2, hy2, hGc2⟩ := bind_some hGc2
      refine wlg hf rfl rfl rfl (op_call hf TF.cl163 rfl (by decide) (slices_ContainsFunc_impl_Span_impl_Span_of_isLine_c1_ok (S := fun _ => True) (mk_list (rep_true (α := List Span) (H.get 0 rfl))) hy2) fun v2 w a hp2 hf => ?_)
      obtain ⟨hb2, hp2⟩ := hp2
      obtain rfl := VR_bool hp2
      have H := H.keep hb2
      refine pRun_ok (tb := tab) (n := 11) tabOk 3 _ _ hf rfl rfl fun a hf => ?_
      obtain rfl := Option.some.inj hGc2
      have hf := hf.prune [2] rfl
      have H := H.let [] [] [] []
      exact wl_end ⟨hf, H⟩
    · rw [if_neg (nt hc)] at hGc2
      have hf := hf.lit 6 rfl hc
      refine pRun_ok (tb := tab) (n := 11) tabOk 5 _ _ hf rfl rfl fun a hf => ?_
      obtain rfl := Option.some.inj hGc2
      have hf := hf.prune [2] rfl
      have H := H.let [] [] [] []
      exact wl_end ⟨hf, H⟩
  rintro a w ⟨hf, H⟩
  refine then_n ?_
  refine wp_ret (?_)
  obtain rfl := Option.some.inj hF
  refine ret_1 (fn := Try.f141) (r := .tmp 2) hf rfl (rv_tmp hf rfl) ?_
  exact ⟨_, rfl, H.bel, mk_bool⟩

/- loop.example/g00897/impl.isLevel -/
set_option maxHeartbeats 1000000 in
theorem impl_isLevel_ok {fu : Nat} {w0 : World} {S : Nat → Prop} {v0_ : Value} {level : Int} {r : Bool} (h0 : VR w0 S v0_ level) (hF : impl_isLevel fu level = some r) :
    Calls Try.prog 107 [v0_].toArray w0 fun e w' => ∃ v, e = .returned v ∧ (Below w0.heap.size w0 w' ∧ VR w' (St ⟨w0, []⟩ S [] [] [] true) v r) := by
  obtain rfl := VR_int h0
  have H := Mem.start ⟨w0, []⟩ S
  refine enter Try.func107 rfl rfl (nle rfl) rfl fun a hf => ?_
  rw [impl_isLevel] at hF
  refine sq ?_
  refine reg ?_
  refine pRun_ok (tb := tab) (n := 5) tabOk 1 _ _ hf rfl rfl fun a hf => ?_
  refine wl_end ?_
  refine then_n ?_
  refine sq ?_
  refine reg ?_
  refine pRun_ok (tb := tab) (n := 5) tabOk 1 _ _ hf rfl rfl fun a hf => ?_
  obtain ⟨y, hy, hF⟩ := bind_some hF
  refine wl0 rfl (op_call hf TF.cl98 rfl (by decide) (impl_within_ok (S := fun _ => True) mk_int mk_int mk_int hy) fun v w a hp hf => ?_)
  obtain ⟨hb, hp⟩ := hp
  obtain rfl := VR_bool hp
  have H := H.keep hb
  refine pRun_ok (tb := tab) (n := 5) tabOk 1 _ _ hf rfl rfl fun a hf => ?_
  refine wl_end ?_
  refine then_n ?_
  refine wp_ret (?_)
  obtain rfl := Option.some.inj hF
  refine ret_1 (fn := Try.f107) (r := .tmp 2) hf rfl (rv_tmp hf rfl) ?_
  exact ⟨_, rfl, H.bel, mk_bool⟩

/- loop.example/g00897/impl.isAmplifier -/
set_option maxHeartbeats 1000000 in
theorem impl_isAmplifier_ok {fu : Nat} {w0 : World} {S : Nat → Prop} {v0_ : Value} {a' : Amplifier} {r : Bool} (h0 : VR w0 S v0_ a') (hF : impl_isAmplifier fu a' = some r) :
    Calls Try.prog 142 [v0_].toArray w0 fun e w' => ∃ v, e = .returned v ∧ (Below w0.heap.size w0 w' ∧ VR w' (St ⟨w0, []⟩ S [] [] [] true) v r) := by
  obtain rfl := Amplifier_open h0
  have H := Mem.start ⟨w0, []⟩ S
  refine enter Try.func142 rfl rfl (nle rfl) rfl fun a hf => ?_
  rw [impl_isAmplifier] at hF
  refine sq ?_
  refine reg ?_
  refine wl0 rfl (op_box hf H rfl rfl (by decide) fun b' a w hf H => ?_)
  refine pRun_ok (tb := tab) (n := 16) tabOk 1 _ _ hf rfl rfl fun a hf => ?_
  refine wl_end ?_
  refine then_n ?_
  refine sq ?_
  obtain ⟨c, hGc, hF⟩ := bind_some hF
  refine mid (fun a w => Fr a 16 [(2, (.bool c))] ∧ Mem ⟨w0, []⟩ S [] [] [] [] w) ?_ ?_
  · refine reg ?_
    refine pRun_ok (tb := tab) (n := 16) tabOk 1 _ _ hf rfl rfl fun a hf => ?_
    refine wl0 rfl (op_q hf (rq_loadB hf H TF.ls3 0 rfl rfl rfl) rfl (by decide) fun a hf => ?_)
    obtain ⟨y, hy, hGc⟩ := bind_some hGc
    refine wl0 rfl (op_call hf TF.cl98 rfl (by decide) (impl_within_ok (S := fun _ => True) mk_int mk_int mk_int hy) fun v w a hp hf => ?_)
    obtain ⟨hb, hp⟩ := hp
    obtain rfl := VR_bool hp
    have H := H.keep hb
    refine pRun_ok (tb := tab) (n := 16) tabOk 1 _ _ hf rfl rfl fun a hf => ?_
    refine (Bool.eq_false_or_eq_true (y)).elim (fun hc => ?_) (fun hc => ?_)
    · rw [if_pos hc] at hGc
      have hf := hf.lit 6 rfl hc
      refine pRun_ok (tb := tab) (n := 16) tabOk 1 _ _ hf rfl rfl fun a hf => ?_
      refine wlg hf rfl rfl rfl (op_q hf (rq_loadB hf H TF.ls3 0 rfl rfl rfl) rfl (by decide) fun a hf => ?_)
      obtain ⟨y2, hy2, hGc⟩ := bind_some hGc
      refine wlg hf rfl rfl rfl (op_call hf TF.cl107 rfl (by decide) (impl_isLevel_ok (S := fun _ => True) mk_int hy2) fun v2 w a hp2 hf => ?_)
      obtain ⟨hb2, hp2⟩ := hp2
      obtain rfl := VR_bool hp2
      have H := H.keep hb2
      refine pRun_ok (tb := tab) (n := 16) tabOk 2 _ _ hf rfl rfl fun a hf => ?_
      refine (Bool.eq_false_or_eq_true (y2)).elim (fun hc2 => ?_) (fun hc2 => ?_)
      · rw [if_pos hc2] at hGc
        have hf := hf.lit 11 rfl hc2
        refine pRun_ok (tb := tab) (n := 16) tabOk 1 _ _ hf rfl rfl fun a hf => ?_
        refine wlg hf rfl rfl rfl (op_q hf (rq_loadB hf H TF.ls3 0 rfl rfl rfl) rfl (by decide) fun a hf => ?_)
        obtain ⟨y3, hy3, hGc⟩ := bind_some hGc
        refine wlg hf rfl rfl rfl (op_call hf TF.cl98 rfl (by decide) (impl_within_ok (S := fun _ => True) mk_int mk_int mk_int hy3) fun v3 w a hp3 hf => ?_)
        obtain ⟨hb3, hp3⟩ := hp3
        obtain rfl := VR_bool hp3
        have H := H.keep hb3
        refine pRun_ok (tb := tab) (n := 16) tabOk 2 _ _ hf rfl rfl fun a hf => ?_
        obtain rfl := Option.some.inj hGc
        have hf := hf.prune [2] rfl
        have H := H.let [false] [] [] []
        exact wl_end ⟨hf, H⟩
      · rw [if_neg (nt hc2)] at hGc
        have hf := hf.lit 11 rfl hc2
        refine pRun_ok (tb := tab) (n := 16) tabOk 5 _ _ hf rfl rfl fun a hf => ?_
        obtain rfl := Option.some.inj hGc
        have hf := hf.prune [2] rfl
        have H := H.let [false] [] [] []
        exact wl_end ⟨hf, H⟩
    · rw [if_neg (nt hc)] at hGc
      have hf := hf.lit 6 rfl hc
      refine pRun_ok (tb := tab) (n := 16) tabOk 10 _ _ hf rfl rfl fun a hf => ?_
      obtain rfl := Option.some.inj hGc
      have hf := hf.prune [2] rfl
      have H := H.let [false] [] [] []
      exact wl_end ⟨hf, H⟩
  rintro a w ⟨hf, H⟩
  refine then_n ?_
  refine wp_ret (?_)
  obtain rfl := Option.some.inj hF
  refine ret_1 (fn := Try.f142) (r := .tmp 2) hf rfl (rv_tmp hf rfl) ?_
  exact ⟨_, rfl, H.bel, mk_bool⟩

/- loop.example/g00897/impl.lossOf -/
set_option maxHeartbeats 1000000 in
theorem impl_lossOf_ok {fu : Nat} {w0 : World} {S : Nat → Prop} {v0_ : Value} {s' : Span} {r : Int} (h0 : VR w0 S v0_ s') (hF : impl_lossOf fu s' = some r) :
    Calls Try.prog 102 [v0_].toArray w0 fun e w' => ∃ v, e = .returned v ∧ (Below w0.heap.size w0 w' ∧ VR w' (St ⟨w0, []⟩ S [] [] [] true) v r) := by
  obtain rfl := Span_open h0
  have H := Mem.start ⟨w0, []⟩ S
  refine enter Try.func102 rfl rfl (nle rfl) rfl fun a hf => ?_
  rw [impl_lossOf] at hF
  refine sq ?_
  refine reg ?_
  refine wl0 rfl (op_box hf H rfl rfl (by decide) fun b' a w hf H => ?_)
  refine pRun_ok (tb := tab) (n := 14) tabOk 1 _ _ hf rfl rfl fun a hf => ?_
  refine wl_end ?_
  refine then_n ?_
  refine sq ?_
  refine reg ?_
  refine pRun_ok (tb := tab) (n := 14) tabOk 1 _ _ hf rfl rfl fun a hf => ?_
  refine wl0 rfl (op_q hf (rq_loadB hf H TF.ls3 0 rfl rfl rfl) rfl (by decide) fun a hf => ?_)
  refine pRun_ok (tb := tab) (n := 14) tabOk 1 _ _ hf rfl rfl fun a hf => ?_
  refine wl0 rfl (op_q hf (rq_loadB hf H TF.ls3 0 rfl rfl rfl) rfl (by decide) fun a hf => ?_)
  refine pRun_ok (tb := tab) (n := 14) tabOk 2 _ _ hf rfl rfl fun a hf => ?_
  obtain ⟨q, hq, hF⟩ := bind_some hF
  refine wl0 rfl (op_q hf (rq_quo hf rfl rfl hq) rfl (by decide) fun a hf => ?_)
  refine pRun_ok (tb := tab) (n := 14) tabOk 1 _ _ hf rfl rfl fun a hf => ?_
  refine wl0 rfl (op_q hf (rq_loadB hf H TF.ls3 0 rfl rfl rfl) rfl (by decide) fun a hf => ?_)
  refine pRun_ok (tb := tab) (n := 14) tabOk 3 _ _ hf rfl rfl fun a hf => ?_
  have hf := hf.prune [2] rfl
  refine wl_end ?_
  refine then_n ?_
  refine wp_ret (?_)
  obtain rfl := Option.some.inj hF
  refine ret_1 (fn := Try.f102) (r := .tmp 2) hf rfl (rv_tmp hf rfl) ?_
  exact ⟨_, rfl, H.bel, mk_int⟩

/- loop.example/g00897/impl.amplified -/
set_option maxHeartbeats 1000000 in
theorem impl_amplified_ok {fu : Nat} {w0 : World} {S : Nat → Prop} {v0_ : Value} {v1_ : Value} {level : Int} {a' : Amplifier} {r : Int} (h0 : VR w0 S v0_ level) (h1 : VR w0 S v1_ a') (hF : impl_amplified fu level a' = some r) :
    Calls Try.prog 143 [v0_, v1_].toArray w0 fun e w' => ∃ v, e = .returned v ∧ (Below w0.heap.size w0 w' ∧ VR w' (St ⟨w0, []⟩ S [] [] [] true) v r) := by
  obtain rfl := VR_int h0
  obtain rfl := Amplifier_open h1
  have H := Mem.start ⟨w0, []⟩ S
  refine enter Try.func143 rfl rfl (nle rfl) rfl fun a hf => ?_
  rw [impl_amplified] at hF
  refine sq ?_
  refine reg ?_
  refine wl0 rfl (op_box hf H rfl rfl (by decide) fun b' a w hf H => ?_)
  refine pRun_ok (tb := tab) (n := 14) tabOk 1 _ _ hf rfl rfl fun a hf => ?_
  refine wl_end ?_
  refine then_n ?_
  refine sq ?_
  refine reg ?_
  refine pRun_ok (tb := tab) (n := 14) tabOk 3 _ _ hf rfl rfl fun a hf => ?_
  refine wl0 rfl (op_q hf (rq_loadB hf H TF.ls3 0 rfl rfl rfl) rfl (by decide) fun a hf => ?_)
  refine pRun_ok (tb := tab) (n := 14) tabOk 2 _ _ hf rfl rfl fun a hf => ?_
  refine wl0 rfl (op_q hf (rq_loadB hf H TF.ls3 0 rfl rfl rfl) rfl (by decide) fun a hf => ?_)
  refine pRun_ok (tb := tab) (n := 14) tabOk 3 _ _ hf rfl rfl fun a hf => ?_
  refine wl_end ?_
  refine then_n ?_
  refine wp_ret (?_)
  obtain rfl := Option.some.inj hF
  refine ret_1 (fn := Try.f143) (r := .tmp 4) hf rfl (rv_tmp hf rfl) ?_
  exact ⟨_, rfl, H.bel, mk_int⟩

/- loop.example/g00897/impl.PlaceAmplifiers -/
set_option maxHeartbeats 1000000 in
theorem impl_PlaceAmplifiers_ok {fu : Nat} {w0 : World} {S : Nat → Prop} {v0_ : Value} {v1_ : Value} {v2_ : Value} {v3_ : Value} {line : List Span} {a' : Amplifier} {launch : Int} {need : Int} {r : List Amplifier × Bool} (h0 : VR w0 S v0_ line) (h1 : VR w0 S v1_ a') (h2 : VR w0 S v2_ launch) (h3 : VR w0 S v3_ need) (hF : impl_PlaceAmplifiers fu line a' launch need = some r) :
    Calls Try.prog 84 [v0_, v1_, v2_, v3_].toArray w0 fun e w' => ∃ v, e = .returned v ∧ (Below w0.heap.size w0 w' ∧ ∃ F0, ∃ u0 u1, v = .tuple #[u0, u1] ∧ VO w' F0 u0 r.1 ∧ VR w' (St ⟨w0, []⟩ S [] [] [] true) u1 r.2 ∧ New w0 w' F0) := by
  obtain ⟨A, c, rfl, hl⟩ := VR_list h0
  obtain rfl := Amplifier_open h1
  obtain rfl := VR_int h2
  obtain rfl := VR_int h3
  have H := Mem.start ⟨w0, []⟩ S
  have H := H.pushArg (MP.val [(.slice A line.length c)] line) hl
  refine enter Try.func84 rfl rfl (nle rfl) rfl fun a hf => ?_
  rw [impl_PlaceAmplifiers] at hF
  refine sq ?_
  refine reg ?_
  refine wl0 rfl (op_box hf H rfl rfl (by decide) fun b' a w hf H => ?_)
  refine pRun_ok (tb := tab) (n := 81) tabOk 2 _ _ hf rfl rfl fun a hf => ?_
  refine wl_end ?_
  refine then_n ?_
  refine sq ?_
  refine sq ?_
  obtain ⟨c2, hGc2, hF⟩ := bind_some hF
  refine mid (fun a w => Fr a 81 [(0, (.slice A line.length c)), (2, (.int .i64 launch)), (3, (.int .i64 need)), (5, (.pointer (some ⟨b', 0, none⟩))), (31, (.bool c2))] ∧ Mem ⟨w0, []⟩ S [⟨b', 88, [(.int .i64 a'.After), (.int .i64 a'.Gain), (.int .i64 a'.Output), (.int .i64 a'.Noise)]⟩] [] [] [(false, MP.val [(.slice A line.length c)] (line : List Span))] w) ?_ ?_
  · refine reg ?_
    refine pRun_ok (tb := tab) (n := 81) tabOk 1 _ _ hf rfl rfl fun a hf => ?_
    obtain ⟨y, hy, hGc2⟩ := bind_some hGc2
    refine wl0 rfl (op_call hf TF.cl141 rfl (by decide) (impl_isLine_ok (S := fun _ => True) (mk_list (rep_true (α := List Span) (H.get 0 rfl))) hy) fun v w a hp hf => ?_)
    obtain ⟨hb, hp⟩ := hp
    obtain rfl := VR_bool hp
    have H := H.keep hb
    refine pRun_ok (tb := tab) (n := 81) tabOk 2 _ _ hf rfl rfl fun a hf => ?_
    refine (Bool.eq_false_or_eq_true (!y)).elim (fun hc => ?_) (fun hc => ?_)
    · rw [if_pos hc] at hGc2
      have hf := hf.lit 17 rfl hc
      refine pRun_ok (tb := tab) (n := 81) tabOk 14 _ _ hf rfl rfl fun a hf => ?_
      obtain rfl := Option.some.inj hGc2
      have hf := hf.prune [0, 2, 3, 5, 31] rfl
      have H := H.let [true] [] [] [0]
      exact wl_end ⟨hf, H⟩
    · rw [if_neg (nt hc)] at hGc2
      have hf := hf.lit 17 rfl hc
      refine wlg hf rfl rfl rfl (op_q hf (rq_loadBN hf H TF.la88 0 rfl rfl rfl rfl) rfl (by decide) fun a hf => ?_)
      obtain ⟨y2, hy2, hGc2⟩ := bind_some hGc2
      refine wlg hf rfl rfl rfl (op_call hf TF.cl142 rfl (by decide) (impl_isAmplifier_ok (S := fun _ => True) Amplifier_mkv hy2) fun v2 w a hp2 hf => ?_)
      obtain ⟨hb2, hp2⟩ := hp2
      obtain rfl := VR_bool hp2
      have H := H.keep hb2
      refine pRun_ok (tb := tab) (n := 81) tabOk 3 _ _ hf rfl rfl fun a hf => ?_
      refine (Bool.eq_false_or_eq_true (!y2)).elim (fun hc2 => ?_) (fun hc2 => ?_)
      · rw [if_pos hc2] at hGc2
        have hf := hf.lit 22 rfl hc2
        refine pRun_ok (tb := tab) (n := 81) tabOk 9 _ _ hf rfl rfl fun a hf => ?_
        obtain rfl := Option.some.inj hGc2
        have hf := hf.prune [0, 2, 3, 5, 31] rfl
        have H := H.let [true] [] [] [0]
        exact wl_end ⟨hf, H⟩
      · rw [if_neg (nt hc2)] at hGc2
        have hf := hf.lit 22 rfl hc2
        refine pRun_ok (tb := tab) (n := 81) tabOk 1 _ _ hf rfl rfl fun a hf => ?_
        obtain ⟨y3, hy3, hGc2⟩ := bind_some hGc2
        refine wlg hf rfl rfl rfl (op_call hf TF.cl107 rfl (by decide) (impl_isLevel_ok (S := fun _ => True) mk_int hy3) fun v3 w a hp3 hf => ?_)
        obtain ⟨hb3, hp3⟩ := hp3
        obtain rfl := VR_bool hp3
        have H := H.keep hb3
        refine pRun_ok (tb := tab) (n := 81) tabOk 3 _ _ hf rfl rfl fun a hf => ?_
        refine (Bool.eq_false_or_eq_true (!y3)).elim (fun hc3 => ?_) (fun hc3 => ?_)
        · rw [if_pos hc3] at hGc2
          have hf := hf.lit 27 rfl hc3
          refine pRun_ok (tb := tab) (n := 81) tabOk 4 _ _ hf rfl rfl fun a hf => ?_
          obtain rfl := Option.some.inj hGc2
          have hf := hf.prune [0, 2, 3, 5, 31] rfl
          have H := H.let [true] [] [] [0]
          exact wl_end ⟨hf, H⟩
        · rw [if_neg (nt hc3)] at hGc2
          have hf := hf.lit 27 rfl hc3
          refine pRun_ok (tb := tab) (n := 81) tabOk 1 _ _ hf rfl rfl fun a hf => ?_
          obtain ⟨y4, hy4, hGc2⟩ := bind_some hGc2
          refine wlg hf rfl rfl rfl (op_call hf TF.cl107 rfl (by decide) (impl_isLevel_ok (S := fun _ => True) mk_int hy4) fun v4 w a hp4 hf => ?_)
          obtain ⟨hb4, hp4⟩ := hp4
          obtain rfl := VR_bool hp4
          have H := H.keep hb4
          refine pRun_ok (tb := tab) (n := 81) tabOk 2 _ _ hf rfl rfl fun a hf => ?_
          obtain rfl := Option.some.inj hGc2
          have hf := hf.prune [0, 2, 3, 5, 31] rfl
          have H := H.let [true] [] [] [0]
          exact wl_end ⟨hf, H⟩
  rintro a w ⟨hf, H⟩
  refine then_n ?_
  refine (Bool.eq_false_or_eq_true (c2)).elim (fun hc4 => ?_) (fun hc4 => ?_)
  · rw [if_pos hc4] at hF
    refine cd_t hf rfl hc4 ?_
    refine sq ?_
    refine reg ?_
    refine pRun_ok (tb := tab) (n := 81) tabOk 2 _ _ hf rfl rfl fun a hf => ?_
    refine wl_end ?_
    refine then_n ?_
    refine wp_ret (then_r (?_))
    have H := H.ownNil (Amplifier)
    have H := H.lend 0 rfl
    obtain rfl := Option.some.inj hF
    refine ret_2 (fn := Try.f84) (r := .tmp 8) (s := .tmp 9) hf rfl (rv_tmp hf rfl) (rv_tmp hf rfl) ?_
    have hN := H.ends (X := [(⟨[], MP.own [] [(.slice none 0 0)] ([] : List Amplifier)⟩ : DI)])
    simp only [List.flatMap_cons, List.flatMap_nil, List.append_nil, List.append_assoc] at hN
    exact ⟨_, rfl, H.bel, [], _, _, rfl, (mko_list (H.ownAt 0 rfl)), mk_bool, hN⟩
  · rw [if_neg (nt hc4)] at hF
    refine cd_f hf rfl hc4 ?_
    refine wp_skip ?_
    refine then_n ?_
    refine sq ?_
    refine reg ?_
    refine wl0 rfl (op_bslice hf H (.sh true) rfl 88 ([] : List Amplifier) [] rfl (fun w => by kernel_rfl) rfl (by decide) rfl trivial el0 (by decide) fun A2 a w hf H => ?_)
    refine pRun_ok (tb := tab) (n := 81) tabOk 3 _ _ hf rfl rfl fun a hf => ?_
    refine wl_end ?_
    refine then_n ?_
    refine sq ?_
    refine sq ?_
    refine reg ?_
    refine pRun_ok (tb := tab) (n := 81) tabOk 3 _ _ hf rfl rfl fun a hf => ?_
    refine wl_end ?_
    refine then_n ?_
    obtain ⟨out2, hB1, hF⟩ := bind_some hF
    have hf := hf.prune [0, 3, 5, 10, 11, 34, 35, 36] rfl
    have H := H.let [true] [true] [] [0]
    have hI : (fun (s : List Amplifier × Int × Int × Int) (a : Act) (w : World) => match s with | (out', level, i, m) => ∃ (A3 : Option Addr) (c3 : Nat), Fr a 81 [(0, (.slice A line.length c)), (3, (.int .i64 need)), (5, (.pointer (some ⟨b', 0, none⟩))), (10, (.slice A3 out'.length c3)), (11, (.int .i64 level)), (34, (.slice A line.length c)), (35, (.int .i64 (line.length : Int))), (36, (.int .i64 i))] ∧ Mem ⟨w0, []⟩ S [⟨b', 88, [(.int .i64 m), (.int .i64 a'.Gain), (.int .i64 a'.Output), (.int .i64 a'.Noise)]⟩] [⟨.sh true, 88, A3, c3, (out' : List Amplifier)⟩] [] [(false, MP.val [(.slice A line.length c)] (line : List Span))] w) (([] : List Amplifier), launch, 0, a'.After) a w := ⟨A2, 0, hf, H⟩
    refine mid (fun a w => ∃ s : List Amplifier × Int × Int × Int, out2 = Out.next s ∧ (fun (s : List Amplifier × Int × Int × Int) (a : Act) (w : World) => match s with | (out', level, i, m) => ∃ (A3 : Option Addr) (c3 : Nat), Fr a 81 [(0, (.slice A line.length c)), (3, (.int .i64 need)), (5, (.pointer (some ⟨b', 0, none⟩))), (10, (.slice A3 out'.length c3)), (11, (.int .i64 level)), (34, (.slice A line.length c)), (35, (.int .i64 (line.length : Int))), (36, (.int .i64 i))] ∧ Mem ⟨w0, []⟩ S [⟨b', 88, [(.int .i64 m), (.int .i64 a'.Gain), (.int .i64 a'.Output), (.int .i64 a'.Noise)]⟩] [⟨.sh true, 88, A3, c3, (out' : List Amplifier)⟩] [] [(false, MP.val [(.slice A line.length c)] (line : List Span))] w) s a w) ?_ ?_
    · refine wp_block ?_
      refine loop_rule (fun k (s : List Amplifier × Int × Int × Int) => impl_PlaceAmplifiers_L1 fu line a' need k s.1 s.2.1 s.2.2.1 s.2.2.2 = some out2) (fun (s : List Amplifier × Int × Int × Int) (a : Act) (w : World) => match s with | (out', level, i, m) => ∃ (A3 : Option Addr) (c3 : Nat), Fr a 81 [(0, (.slice A line.length c)), (3, (.int .i64 need)), (5, (.pointer (some ⟨b', 0, none⟩))), (10, (.slice A3 out'.length c3)), (11, (.int .i64 level)), (34, (.slice A line.length c)), (35, (.int .i64 (line.length : Int))), (36, (.int .i64 i))] ∧ Mem ⟨w0, []⟩ S [⟨b', 88, [(.int .i64 m), (.int .i64 a'.Gain), (.int .i64 a'.Output), (.int .i64 a'.Noise)]⟩] [⟨.sh true, 88, A3, c3, (out' : List Amplifier)⟩] [] [(false, MP.val [(.slice A line.length c)] (line : List Span))] w) (fun s h => by cases h) ?_ fu (([] : List Amplifier), launch, 0, a'.After) a w hB1 hI
      rintro fk ⟨out', level, i, m⟩ a w hR1 hI
      replace hR1 : impl_PlaceAmplifiers_L1 fu line a' need (fk + 1) out' level i m = some out2 := hR1
      rw [impl_PlaceAmplifiers_L1] at hR1
      obtain ⟨A3, c3, hf, H⟩ := hI
      refine sq ?_
      refine reg ?_
      refine pRun_ok (tb := tab) (n := 81) tabOk 1 _ _ hf rfl rfl fun a hf => ?_
      refine wl_end ?_
      refine then_n ?_
      refine sq ?_
      refine (Bool.eq_false_or_eq_true (decide (i < (line.length : Int)))).elim (fun hc5 => ?_) (fun hc5 => ?_)
      · rw [if_pos hc5] at hR1
        refine cd_t hf rfl hc5 ?_
        refine wp_skip ?_
        refine then_n ?_
        refine sq ?_
        refine wp_block ?_
        refine sq ?_
        refine reg ?_
        refine pRun_ok (tb := tab) (n := 81) tabOk 1 _ _ hf rfl rfl fun a hf => ?_
        obtain ⟨e, he, hR1⟩ := bind_some hR1
        refine wl0 rfl (op_iaddr hf H Try.underlying96 TF.sz28 0 rfl rfl rfl he (by decide) fun p o cs a hf hr H => ?_)
        obtain rfl := Span_cells hr
        refine wl0 rfl (op_q hf (rq_loadIN hf H TF.la28 0 0 rfl rfl rfl rfl) rfl (by decide) fun a hf => ?_)
        refine wl0 rfl (op_alloc hf H TF.zv28 rfl (by decide) fun b2 a w hf H => ?_)
        refine pRun_ok (tb := tab) (n := 81) tabOk 1 _ _ hf rfl rfl fun a hf => ?_
        refine wl0 rfl (op_storeB hf H 0 TF.sz28 rfl rfl rfl rfl rfl rfl (nle rfl) fun w H => ?_)
        refine wl_end ?_
        refine then_n ?_
        refine sq ?_
        refine reg ?_
        refine pRun_ok (tb := tab) (n := 81) tabOk 1 _ _ hf rfl rfl fun a hf => ?_
        refine wl0 rfl (op_q hf (rq_loadBN hf H TF.la28 0 rfl rfl rfl rfl) rfl (by decide) fun a hf => ?_)
        obtain ⟨y5, hy5, hR1⟩ := bind_some hR1
        refine wl0 rfl (op_call hf TF.cl102 rfl (by decide) (impl_lossOf_ok (S := fun _ => True) Span_mkv hy5) fun v5 w a hp5 hf => ?_)
        obtain ⟨hb5, hp5⟩ := hp5
        obtain rfl := VR_int hp5
        have H := H.keep hb5
        refine pRun_ok (tb := tab) (n := 81) tabOk 2 _ _ hf rfl rfl fun a hf => ?_
        refine wl_end ?_
        refine then_n ?_
        refine sq ?_
        refine sq ?_
        obtain ⟨c4, hGc4, hR1⟩ := bind_some hR1
        refine mid (fun a w => Fr a 81 [(0, (.slice A line.length c)), (3, (.int .i64 need)), (5, (.pointer (some ⟨b', 0, none⟩))), (10, (.slice A3 out'.length c3)), (11, (.int .i64 (w64 (level - y5)))), (12, (.int .i64 i)), (34, (.slice A line.length c)), (35, (.int .i64 (line.length : Int))), (36, (.int .i64 i)), (52, (.bool c4))] ∧ Mem ⟨w0, []⟩ S [⟨b', 88, [(.int .i64 m), (.int .i64 a'.Gain), (.int .i64 a'.Output), (.int .i64 a'.Noise)]⟩] [⟨.sh true, 88, A3, c3, (out' : List Amplifier)⟩] [] [(false, MP.val [(.slice A line.length c)] (line : List Span))] w) ?_ ?_
        · refine reg ?_
          refine pRun_ok (tb := tab) (n := 81) tabOk 4 _ _ hf rfl rfl fun a hf => ?_
          refine (Bool.eq_false_or_eq_true (decide ((w64 (level - y5)) < need))).elim (fun hc6 => ?_) (fun hc6 => ?_)
          · rw [if_pos hc6] at hGc4
            have hf := hf.lit 48 rfl hc6
            refine pRun_ok (tb := tab) (n := 81) tabOk 4 _ _ hf rfl rfl fun a hf => ?_
            obtain rfl := Option.some.inj hGc4
            have hf := hf.prune [0, 3, 5, 10, 11, 12, 34, 35, 36, 52] rfl
            have H := H.let [false, true] [true] [] [1]
            exact wl_end ⟨hf, H⟩
          · rw [if_neg (nt hc6)] at hGc4
            have hf := hf.lit 48 rfl hc6
            refine pRun_ok (tb := tab) (n := 81) tabOk 1 _ _ hf rfl rfl fun a hf => ?_
            obtain ⟨y6, hy6, hGc4⟩ := bind_some hGc4
            refine wlg hf rfl rfl rfl (op_call hf TF.cl107 rfl (by decide) (impl_isLevel_ok (S := fun _ => True) mk_int hy6) fun v6 w a hp6 hf => ?_)
            obtain ⟨hb6, hp6⟩ := hp6
            obtain rfl := VR_bool hp6
            have H := H.keep hb6
            refine pRun_ok (tb := tab) (n := 81) tabOk 2 _ _ hf rfl rfl fun a hf => ?_
            obtain rfl := Option.some.inj hGc4
            have hf := hf.prune [0, 3, 5, 10, 11, 12, 34, 35, 36, 52] rfl
            have H := H.let [false, true] [true] [] [1]
            exact wl_end ⟨hf, H⟩
        rintro a w ⟨hf, H⟩
        refine then_n ?_
        refine (Bool.eq_false_or_eq_true (c4)).elim (fun hc7 => ?_) (fun hc7 => ?_)
        · rw [if_pos hc7] at hR1
          refine cd_t hf rfl hc7 ?_
          refine sq ?_
          refine reg ?_
          refine pRun_ok (tb := tab) (n := 81) tabOk 2 _ _ hf rfl rfl fun a hf => ?_
          refine wl_end ?_
          refine then_n ?_
          refine wp_ret (then_r (blk_r (then_r (then_r (blk_r (then_r (then_r (?_))))))))
          have H := H.ownNil (Amplifier)
          have H := H.lend 0 rfl
          obtain rfl := Option.some.inj hR1
          replace hF := on_ret hF
          obtain rfl := Option.some.inj hF
          refine ret_2 (fn := Try.f84) (r := .tmp 8) (s := .tmp 9) hf rfl (rv_tmp hf rfl) (rv_tmp hf rfl) ?_
          have hN := H.ends (X := [(⟨[], MP.own [] [(.slice none 0 0)] ([] : List Amplifier)⟩ : DI)])
          simp only [List.flatMap_cons, List.flatMap_nil, List.append_nil, List.append_assoc] at hN
          exact ⟨_, rfl, H.bel, [], _, _, rfl, (mko_list (H.ownAt 0 rfl)), mk_bool, hN⟩
        · rw [if_neg (nt hc7)] at hR1
          refine cd_f hf rfl hc7 ?_
          refine wp_skip ?_
          refine then_n ?_
          refine sq ?_
          obtain ⟨c5, hGc5, hR1⟩ := bind_some hR1
          refine mid (fun a w => Fr a 81 [(0, (.slice A line.length c)), (3, (.int .i64 need)), (5, (.pointer (some ⟨b', 0, none⟩))), (10, (.slice A3 out'.length c3)), (11, (.int .i64 (w64 (level - y5)))), (12, (.int .i64 i)), (34, (.slice A line.length c)), (35, (.int .i64 (line.length : Int))), (36, (.int .i64 i)), (69, (.bool c5))] ∧ Mem ⟨w0, []⟩ S [⟨b', 88, [(.int .i64 m), (.int .i64 a'.Gain), (.int .i64 a'.Output), (.int .i64 a'.Noise)]⟩] [⟨.sh true, 88, A3, c3, (out' : List Amplifier)⟩] [] [(false, MP.val [(.slice A line.length c)] (line : List Span))] w) ?_ ?_
          · refine reg ?_
            refine pRun_ok (tb := tab) (n := 81) tabOk 6 _ _ hf rfl rfl fun a hf => ?_
            refine (Bool.eq_false_or_eq_true (decide ((w64 (i + 1)) < (line.length : Int)))).elim (fun hc8 => ?_) (fun hc8 => ?_)
            · rw [if_pos hc8] at hGc5
              have hf := hf.lit 58 rfl hc8
              refine pRun_ok (tb := tab) (n := 81) tabOk 4 _ _ hf rfl rfl fun a hf => ?_
              obtain ⟨e2, he2, hGc5⟩ := bind_some hGc5
              refine wlg hf rfl rfl rfl (op_iaddr hf H Try.underlying96 TF.sz28 0 rfl rfl rfl he2 (by decide) fun p2 o2 cs2 a hf hr2 H => ?_)
              obtain rfl := Span_cells hr2
              refine wlg hf rfl rfl rfl (op_q hf (rq_loadIN hf H TF.la28 0 0 rfl rfl rfl rfl) rfl (by decide) fun a hf => ?_)
              obtain ⟨y7, hy7, hGc5⟩ := bind_some hGc5
              refine wlg hf rfl rfl rfl (op_call hf TF.cl102 rfl (by decide) (impl_lossOf_ok (S := fun _ => True) Span_mkv hy7) fun v7 w a hp7 hf => ?_)
              obtain ⟨hb7, hp7⟩ := hp7
              obtain rfl := VR_int hp7
              have H := H.keep hb7
              refine pRun_ok (tb := tab) (n := 81) tabOk 4 _ _ hf rfl rfl fun a hf => ?_
              obtain rfl := Option.some.inj hGc5
              have hf := hf.prune [0, 3, 5, 10, 11, 12, 34, 35, 36, 69] rfl
              have H := H.let [true] [true] [] [1]
              exact wl_end ⟨hf, H⟩
            · rw [if_neg (nt hc8)] at hGc5
              have hf := hf.lit 58 rfl hc8
              refine pRun_ok (tb := tab) (n := 81) tabOk 11 _ _ hf rfl rfl fun a hf => ?_
              obtain rfl := Option.some.inj hGc5
              have hf := hf.prune [0, 3, 5, 10, 11, 12, 34, 35, 36, 69] rfl
              have H := H.let [true] [true] [] [0]
              exact wl_end ⟨hf, H⟩
          rintro a w ⟨hf, H⟩
          refine then_n ?_
          refine (Bool.eq_false_or_eq_true (c5)).elim (fun hc9 => ?_) (fun hc9 => ?_)
          · rw [if_pos hc9] at hR1
            refine cd_t hf rfl hc9 ?_
            refine sq ?_
            refine reg ?_
            refine pRun_ok (tb := tab) (n := 81) tabOk 2 _ _ hf rfl rfl fun a hf => ?_
            refine wl0 rfl (op_storeB hf H 0 TF.sz3 rfl rfl rfl rfl rfl rfl (nle rfl) fun w H => ?_)
            refine wl_end ?_
            refine then_n ?_
            refine drawn [] (bs := [false, false, false, false, false, false, false, false, false]) (fuel := 9) (Checked.mixed Try.checked) rfl rfl fun w hb => ?_
            have H := H.keep hb
            refine tkP (i := 0) (bs' := [true, false, false, false, false, false, false, false, false]) rfl rfl rfl (by decide) hf (by kernel_rfl) (fun _ => trivial) (fun w => pOp_ok (tb := tab) tabOk hf rfl) rfl fun a hf => ?_
            refine str (fun w => Mem ⟨w0, []⟩ S [⟨b', 88, [(.int .i64 i), (.int .i64 a'.Gain), (.int .i64 a'.Output), (.int .i64 a'.Noise)]⟩] [] [] [(false, MP.val [(.slice A line.length c)] (line : List Span))] w) (fun w H => trivial) ?_
            have hS : Mem ⟨w0, []⟩ S [⟨b', 88, [(.int .i64 i), (.int .i64 a'.Gain), (.int .i64 a'.Output), (.int .i64 a'.Noise)]⟩] [] [] [(false, MP.val [(.slice A line.length c)] (line : List Span))] w := H.let [true] [false] [] [0]
            refine tkS (i := 1) (bs' := [true, true, false, false, false, false, false, false, false]) [] rfl rfl rfl (by decide) hf (by kernel_rfl) (by kernel_rfl) hS (fun w H => rq_loadBN hf H TF.la88 0 rfl rfl rfl rfl) rfl fun a hf => ?_
            refine tkP (i := 4) (bs' := [true, true, false, false, true, false, false, false, false]) rfl rfl rfl (by decide) hf (by kernel_rfl) (fun _ => hS) (fun w => pOp_ok (tb := tab) tabOk hf rfl) rfl fun a hf => ?_
            refine tkS (i := 5) (bs' := [true, true, false, false, true, true, false, false, false]) [] rfl rfl rfl (by decide) hf (by kernel_rfl) (by kernel_rfl) hS (fun w H => rq_loadBN hf H TF.la88 0 rfl rfl rfl rfl) rfl fun a hf => ?_
            refine on1 (i := 2) (bs' := [true, true, true, false, true, true, false, false, false]) (by kernel_rfl) rfl rfl rfl (op_bslice hf H (.sh true) rfl 88 ([({ After := i, Gain := a'.Gain, Output := a'.Output, Noise := a'.Noise } : Amplifier)] : List Amplifier) [(.int .i64 i), (.int .i64 a'.Gain), (.int .i64 a'.Output), (.int .i64 a'.Noise)] rfl (fun w => by kernel_rfl) rfl (by decide) rfl trivial (el1 (y := ({ After := i, Gain := a'.Gain, Output := a'.Output, Noise := a'.Noise } : Amplifier)) (Amplifier_mk (x := ({ After := i, Gain := a'.Gain, Output := a'.Output, Noise := a'.Noise } : Amplifier)))) (by decide) fun A4 a w hf H => ?_)
            have hS : Mem ⟨w0, []⟩ S [⟨b', 88, [(.int .i64 i), (.int .i64 a'.Gain), (.int .i64 a'.Output), (.int .i64 a'.Noise)]⟩] [] [] [(false, MP.val [(.slice A line.length c)] (line : List Span))] w := H.let [true] [false, false] [] [0]
            refine ⟨fun _ => hS, ?_⟩
            obtain ⟨l, hl, hR1⟩ := bind_some hR1
            refine on1 (i := 3) (bs' := [true, true, true, true, true, true, false, false, false]) (by kernel_rfl) rfl rfl rfl (op_appR hf H Try.underlying63 TF.ai88 rfl (by decide) 1 0 rfl rfl rfl rfl (.inr rfl) hl (by decide) fun A5 c6 a w hf H => ?_)
            have hS : Mem ⟨w0, []⟩ S [⟨b', 88, [(.int .i64 i), (.int .i64 a'.Gain), (.int .i64 a'.Output), (.int .i64 a'.Noise)]⟩] [] [] [(false, MP.val [(.slice A line.length c)] (line : List Span))] w := H.let [true] [false, false] [] [0]
            refine ⟨fun _ => hS, ?_⟩
            obtain ⟨y8, hy8, hR1⟩ := bind_some hR1
            refine on1 (i := 6) (bs' := [true, true, true, true, true, true, true, false, false]) (by kernel_rfl) rfl rfl rfl (op_call hf TF.cl143 rfl (by decide) (impl_amplified_ok (S := fun _ => True) mk_int Amplifier_mkv hy8) fun v8 w a hp8 hf => ?_)
            obtain ⟨hb8, hp8⟩ := hp8
            obtain rfl := VR_int hp8
            have H := H.keep hb8
            have hS : Mem ⟨w0, []⟩ S [⟨b', 88, [(.int .i64 i), (.int .i64 a'.Gain), (.int .i64 a'.Output), (.int .i64 a'.Noise)]⟩] [] [] [(false, MP.val [(.slice A line.length c)] (line : List Span))] w := H.let [true] [false, false] [] [0]
            refine ⟨fun _ => hS, ?_⟩
            refine tkP (i := 7) (bs' := [true, true, true, true, true, true, true, true, false]) rfl rfl rfl (by decide) hf (by kernel_rfl) (fun _ => hS) (fun w => pOp_ok (tb := tab) tabOk hf rfl) rfl fun a hf => ?_
            refine tkP (i := 8) (bs' := [true, true, true, true, true, true, true, true, true]) rfl rfl rfl (by decide) hf (by kernel_rfl) (fun _ => hS) (fun w => pOp_ok (tb := tab) tabOk hf rfl) rfl fun a hf => ?_
            refine dn (by kernel_rfl) ?_
            refine blk_n ?_
            refine then_n ?_
            refine reg ?_
            refine pRun_ok (tb := tab) (n := 81) tabOk 2 _ _ hf rfl rfl fun a hf => ?_
            refine wl_end ?_
            have hf := hf.prune [0, 3, 5, 10, 11, 34, 35, 36] rfl
            have H := H.let [true] [false, true] [] [0]
            exact then_n ⟨(l, y8, w64 (i + 1), i), hR1, A5, c6, hf, H⟩
          · rw [if_neg (nt hc9)] at hR1
            refine cd_f hf rfl hc9 ?_
            refine wp_skip ?_
            refine blk_n ?_
            refine then_n ?_
            refine reg ?_
            refine pRun_ok (tb := tab) (n := 81) tabOk 2 _ _ hf rfl rfl fun a hf => ?_
            refine wl_end ?_
            have hf := hf.prune [0, 3, 5, 10, 11, 34, 35, 36] rfl
            have H := H.let [true] [true] [] [0]
            exact then_n ⟨(out', w64 (level - y5), w64 (i + 1), m), hR1, A3, c3, hf, H⟩
      · rw [if_neg (nt hc5)] at hR1
        refine cd_f hf rfl hc5 ?_
        refine wp_exit (then_x (then_x (blk_e (?_))))
        have hf := hf.prune [0, 3, 5, 10, 11, 34, 35, 36] rfl
        have H := H.let [true] [true] [] [0]
        exact ⟨(out', level, i, m), (Option.some.inj hR1).symm, A3, c3, hf, H⟩
    rintro a w ⟨⟨out3, level2, i2, m2⟩, rfl, A6, c7, hf, H⟩
    replace hF := on_next hF
    dsimp only at hF
    refine then_n ?_
    refine sq ?_
    refine reg ?_
    refine pRun_ok (tb := tab) (n := 81) tabOk 3 _ _ hf rfl rfl fun a hf => ?_
    refine wl_end ?_
    refine then_n ?_
    refine wp_ret (?_)
    have H := H.rowOwn 0 rfl rfl
    obtain ⟨F, H⟩ := H.freezeOwn 0 rfl
    have H := H.lend 0 rfl
    obtain rfl := Option.some.inj hF
    refine ret_2 (fn := Try.f84) (r := .tmp 8) (s := .tmp 9) hf rfl (rv_tmp hf rfl) (rv_tmp hf rfl) ?_
    have hN := H.ends (X := [(⟨F, MP.own F [(.slice A6 out3.length c7)] (out3 : List Amplifier)⟩ : DI)])
    simp only [List.flatMap_cons, List.flatMap_nil, List.append_nil, List.append_assoc] at hN
    exact ⟨_, rfl, H.bel, F, _, _, rfl, (mko_list (H.ownAt 0 rfl)), mk_bool, hN⟩

/- loop.example/g00897/spec.l1In -/
set_option maxHeartbeats 1000000 in
theorem spec_l1In_ok {fu : Nat} {w0 : World} {S : Nat → Prop} {v0_ : Value} {v1_ : Value} {v2_ : Value} {x1 : Int} {a' : Int} {b' : Int} {r : Bool} (h0 : VR w0 S v0_ x1) (h1 : VR w0 S v1_ a') (h2 : VR w0 S v2_ b') (hF : spec_l1In fu x1 a' b' = some r) :
    Calls Try.prog 97 [v0_, v1_, v2_].toArray w0 fun e w' => ∃ v, e = .returned v ∧ (Below w0.heap.size w0 w' ∧ VR w' (St ⟨w0, []⟩ S [] [] [] true) v r) := by
  obtain rfl := VR_int h0
  obtain rfl := VR_int h1
  obtain rfl := VR_int h2
  have H := Mem.start ⟨w0, []⟩ S
  refine enter Try.func97 rfl rfl (nle rfl) rfl fun a hf => ?_
  rw [spec_l1In] at hF
  refine sq ?_
  refine reg ?_
  refine pRun_ok (tb := tab) (n := 15) tabOk 1 _ _ hf rfl rfl fun a hf => ?_
  refine wl_end ?_
  refine then_n ?_
  refine sq ?_
  obtain ⟨c, hGc, hF⟩ := bind_some hF
  refine mid (fun a w => Fr a 15 [(6, (.bool c))] ∧ Mem ⟨w0, []⟩ S [] [] [] [] w) ?_ ?_
  · refine reg ?_
    refine pRun_ok (tb := tab) (n := 15) tabOk 4 _ _ hf rfl rfl fun a hf => ?_
    refine (Bool.eq_false_or_eq_true (decide (x1 ≥ a'))).elim (fun hc => ?_) (fun hc => ?_)
    · rw [if_pos hc] at hGc
      have hf := hf.lit 10 rfl hc
      refine pRun_ok (tb := tab) (n := 15) tabOk 5 _ _ hf rfl rfl fun a hf => ?_
      obtain rfl := Option.some.inj hGc
      have hf := hf.prune [6] rfl
      have H := H.let [] [] [] []
      exact wl_end ⟨hf, H⟩
    · rw [if_neg (nt hc)] at hGc
      have hf := hf.lit 10 rfl hc
      refine pRun_ok (tb := tab) (n := 15) tabOk 5 _ _ hf rfl rfl fun a hf => ?_
      obtain rfl := Option.some.inj hGc
      have hf := hf.prune [6] rfl
      have H := H.let [] [] [] []
      exact wl_end ⟨hf, H⟩
  rintro a w ⟨hf, H⟩
  refine then_n ?_
  refine wp_ret (?_)
  obtain rfl := Option.some.inj hF
  refine ret_1 (fn := Try.f97) (r := .tmp 6) hf rfl (rv_tmp hf rfl) ?_
  exact ⟨_, rfl, H.bel, mk_bool⟩

/- loop.example/g00897/spec.l22Span -/
set_option maxHeartbeats 1000000 in
theorem spec_l22Span_ok {fu : Nat} {w0 : World} {S : Nat → Prop} {v0_ : Value} {s' : Span} {r : Bool} (h0 : VR w0 S v0_ s') (hF : spec_l22Span fu s' = some r) :
    Calls Try.prog 99 [v0_].toArray w0 fun e w' => ∃ v, e = .returned v ∧ (Below w0.heap.size w0 w' ∧ VR w' (St ⟨w0, []⟩ S [] [] [] true) v r) := by
  obtain rfl := Span_open h0
  have H := Mem.start ⟨w0, []⟩ S
  refine enter Try.func99 rfl rfl (nle rfl) rfl fun a hf => ?_
  rw [spec_l22Span] at hF
  refine sq ?_
  refine reg ?_
  refine wl0 rfl (op_box hf H rfl rfl (by decide) fun b' a w hf H => ?_)
  refine pRun_ok (tb := tab) (n := 16) tabOk 1 _ _ hf rfl rfl fun a hf => ?_
  refine wl_end ?_
  refine then_n ?_
  refine sq ?_
  obtain ⟨c, hGc, hF⟩ := bind_some hF
  refine mid (fun a w => Fr a 16 [(2, (.bool c))] ∧ Mem ⟨w0, []⟩ S [] [] [] [] w) ?_ ?_
  · refine reg ?_
    refine pRun_ok (tb := tab) (n := 16) tabOk 1 _ _ hf rfl rfl fun a hf => ?_
    refine wl0 rfl (op_q hf (rq_loadB hf H TF.ls3 0 rfl rfl rfl) rfl (by decide) fun a hf => ?_)
    obtain ⟨y, hy, hGc⟩ := bind_some hGc
    refine wl0 rfl (op_call hf TF.cl97 rfl (by decide) (spec_l1In_ok (S := fun _ => True) mk_int mk_int mk_int hy) fun v w a hp hf => ?_)
    obtain ⟨hb, hp⟩ := hp
    obtain rfl := VR_bool hp
    have H := H.keep hb
    refine pRun_ok (tb := tab) (n := 16) tabOk 1 _ _ hf rfl rfl fun a hf => ?_
    refine (Bool.eq_false_or_eq_true (y)).elim (fun hc => ?_) (fun hc => ?_)
    · rw [if_pos hc] at hGc
      have hf := hf.lit 6 rfl hc
      refine pRun_ok (tb := tab) (n := 16) tabOk 1 _ _ hf rfl rfl fun a hf => ?_
      refine wlg hf rfl rfl rfl (op_q hf (rq_loadB hf H TF.ls3 0 rfl rfl rfl) rfl (by decide) fun a hf => ?_)
      obtain ⟨y2, hy2, hGc⟩ := bind_some hGc
      refine wlg hf rfl rfl rfl (op_call hf TF.cl97 rfl (by decide) (spec_l1In_ok (S := fun _ => True) mk_int mk_int mk_int hy2) fun v2 w a hp2 hf => ?_)
      obtain ⟨hb2, hp2⟩ := hp2
      obtain rfl := VR_bool hp2
      have H := H.keep hb2
      refine pRun_ok (tb := tab) (n := 16) tabOk 2 _ _ hf rfl rfl fun a hf => ?_
      refine (Bool.eq_false_or_eq_true (y2)).elim (fun hc2 => ?_) (fun hc2 => ?_)
      · rw [if_pos hc2] at hGc
        have hf := hf.lit 11 rfl hc2
        refine pRun_ok (tb := tab) (n := 16) tabOk 1 _ _ hf rfl rfl fun a hf => ?_
        refine wlg hf rfl rfl rfl (op_q hf (rq_loadB hf H TF.ls3 0 rfl rfl rfl) rfl (by decide) fun a hf => ?_)
        obtain ⟨y3, hy3, hGc⟩ := bind_some hGc
        refine wlg hf rfl rfl rfl (op_call hf TF.cl97 rfl (by decide) (spec_l1In_ok (S := fun _ => True) mk_int mk_int mk_int hy3) fun v3 w a hp3 hf => ?_)
        obtain ⟨hb3, hp3⟩ := hp3
        obtain rfl := VR_bool hp3
        have H := H.keep hb3
        refine pRun_ok (tb := tab) (n := 16) tabOk 2 _ _ hf rfl rfl fun a hf => ?_
        obtain rfl := Option.some.inj hGc
        have hf := hf.prune [2] rfl
        have H := H.let [false] [] [] []
        exact wl_end ⟨hf, H⟩
      · rw [if_neg (nt hc2)] at hGc
        have hf := hf.lit 11 rfl hc2
        refine pRun_ok (tb := tab) (n := 16) tabOk 5 _ _ hf rfl rfl fun a hf => ?_
        obtain rfl := Option.some.inj hGc
        have hf := hf.prune [2] rfl
        have H := H.let [false] [] [] []
        exact wl_end ⟨hf, H⟩
    · rw [if_neg (nt hc)] at hGc
      have hf := hf.lit 6 rfl hc
      refine pRun_ok (tb := tab) (n := 16) tabOk 10 _ _ hf rfl rfl fun a hf => ?_
      obtain rfl := Option.some.inj hGc
      have hf := hf.prune [2] rfl
      have H := H.let [false] [] [] []
      exact wl_end ⟨hf, H⟩
  rintro a w ⟨hf, H⟩
  refine then_n ?_
  refine wp_ret (?_)
  obtain rfl := Option.some.inj hF
  refine ret_1 (fn := Try.f99) (r := .tmp 2) hf rfl (rv_tmp hf rfl) ?_
  exact ⟨_, rfl, H.bel, mk_bool⟩

/- loop.example/g00897/spec.l22Line -/
set_option maxHeartbeats 1000000 in
theorem spec_l22Line_ok {fu : Nat} {w0 : World} {S : Nat → Prop} {v0_ : Value} {line : List Span} {r : Bool} (h0 : VR w0 S v0_ line) (hF : spec_l22Line fu line = some r) :
    Calls Try.prog 138 [v0_].toArray w0 fun e w' => ∃ v, e = .returned v ∧ (Below w0.heap.size w0 w' ∧ VR w' (St ⟨w0, []⟩ S [] [] [] true) v r) := by
  obtain ⟨A, c, rfl, hl⟩ := VR_list h0
  have H := Mem.start ⟨w0, []⟩ S
  have H := H.pushArg (MP.val [(.slice A line.length c)] line) hl
  refine enter Try.func138 rfl rfl (nle rfl) rfl fun a hf => ?_
  rw [spec_l22Line] at hF
  refine sq ?_
  refine reg ?_
  refine pRun_ok (tb := tab) (n := 23) tabOk 1 _ _ hf rfl rfl fun a hf => ?_
  refine wl_end ?_
  refine then_n ?_
  refine sq ?_
  refine sq ?_
  refine reg ?_
  refine pRun_ok (tb := tab) (n := 23) tabOk 1 _ _ hf rfl rfl fun a hf => ?_
  refine wl_end ?_
  refine then_n ?_
  obtain ⟨out', hB1, hF⟩ := bind_some hF
  have hf := hf.prune [0, 3] rfl
  have H := H.let [] [] [] [0]
  have hI : (fun (s : Int) (a : Act) (w : World) => match s with | i => Fr a 23 [(0, (.slice A line.length c)), (3, (.int .i64 i))] ∧ Mem ⟨w0, []⟩ S [] [] [] [(false, MP.val [(.slice A line.length c)] (line : List Span))] w) 0 a w0 := ⟨hf, H⟩
  refine mid (fun a w => ∃ s : Int, out' = Out.next s ∧ (fun (s : Int) (a : Act) (w : World) => match s with | i => Fr a 23 [(0, (.slice A line.length c)), (3, (.int .i64 i))] ∧ Mem ⟨w0, []⟩ S [] [] [] [(false, MP.val [(.slice A line.length c)] (line : List Span))] w) s a w) ?_ ?_
  · refine wp_block ?_
    refine loop_rule (fun k (s : Int) => spec_l22Line_L1 fu line k s = some out') (fun (s : Int) (a : Act) (w : World) => match s with | i => Fr a 23 [(0, (.slice A line.length c)), (3, (.int .i64 i))] ∧ Mem ⟨w0, []⟩ S [] [] [] [(false, MP.val [(.slice A line.length c)] (line : List Span))] w) (fun s h => by cases h) ?_ fu 0 a w0 hB1 hI
    rintro fk i a w hR1 hI
    replace hR1 : spec_l22Line_L1 fu line (fk + 1) i = some out' := hR1
    rw [spec_l22Line_L1] at hR1
    obtain ⟨hf, H⟩ := hI
    refine sq ?_
    refine sq ?_
    obtain ⟨c2, hGc2, hR1⟩ := bind_some hR1
    refine mid (fun a w => Fr a 23 [(0, (.slice A line.length c)), (3, (.int .i64 i)), (11, (.bool c2))] ∧ Mem ⟨w0, []⟩ S [] [] [] [(false, MP.val [(.slice A line.length c)] (line : List Span))] w) ?_ ?_
    · refine reg ?_
      refine pRun_ok (tb := tab) (n := 23) tabOk 5 _ _ hf rfl rfl fun a hf => ?_
      refine (Bool.eq_false_or_eq_true (decide (i < (line.length : Int)))).elim (fun hc => ?_) (fun hc => ?_)
      · rw [if_pos hc] at hGc2
        have hf := hf.lit 8 rfl hc
        refine pRun_ok (tb := tab) (n := 23) tabOk 3 _ _ hf rfl rfl fun a hf => ?_
        obtain rfl := Option.some.inj hGc2
        have hf := hf.prune [0, 3, 11] rfl
        have H := H.let [] [] [] [0]
        exact wl_end ⟨hf, H⟩
      · rw [if_neg (nt hc)] at hGc2
        have hf := hf.lit 8 rfl hc
        refine pRun_ok (tb := tab) (n := 23) tabOk 3 _ _ hf rfl rfl fun a hf => ?_
        obtain rfl := Option.some.inj hGc2
        have hf := hf.prune [0, 3, 11] rfl
        have H := H.let [] [] [] [0]
        exact wl_end ⟨hf, H⟩
    rintro a w ⟨hf, H⟩
    refine then_n ?_
    refine (Bool.eq_false_or_eq_true (c2)).elim (fun hc2 => ?_) (fun hc2 => ?_)
    · rw [if_pos hc2] at hR1
      refine cd_t hf rfl hc2 ?_
      refine wp_skip ?_
      refine then_n ?_
      refine sq ?_
      refine wp_block ?_
      refine sq ?_
      refine reg ?_
      refine pRun_ok (tb := tab) (n := 23) tabOk 2 _ _ hf rfl rfl fun a hf => ?_
      obtain ⟨e, he, hR1⟩ := bind_some hR1
      refine wl0 rfl (op_iaddr hf H Try.underlying96 TF.sz28 0 rfl rfl rfl he (by decide) fun p o cs a hf hr H => ?_)
      obtain rfl := Span_cells hr
      refine wl0 rfl (op_q hf (rq_loadIN hf H TF.la28 0 0 rfl rfl rfl rfl) rfl (by decide) fun a hf => ?_)
      obtain ⟨y, hy, hR1⟩ := bind_some hR1
      refine wl0 rfl (op_call hf TF.cl99 rfl (by decide) (spec_l22Span_ok (S := fun _ => True) Span_mkv hy) fun v w a hp hf => ?_)
      obtain ⟨hb, hp⟩ := hp
      obtain rfl := VR_bool hp
      have H := H.keep hb
      refine pRun_ok (tb := tab) (n := 23) tabOk 1 _ _ hf rfl rfl fun a hf => ?_
      refine wl_end ?_
      refine then_n ?_
      refine (Bool.eq_false_or_eq_true (!y)).elim (fun hc3 => ?_) (fun hc3 => ?_)
      · rw [if_pos hc3] at hR1
        refine cd_t hf rfl hc3 ?_
        refine sq ?_
        refine reg ?_
        refine pRun_ok (tb := tab) (n := 23) tabOk 1 _ _ hf rfl rfl fun a hf => ?_
        refine wl_end ?_
        refine then_n ?_
        refine wp_ret (blk_r (then_r (then_r (blk_r (then_r (then_r (?_)))))))
        obtain rfl := Option.some.inj hR1
        replace hF := on_ret hF
        obtain rfl := Option.some.inj hF
        refine ret_1 (fn := Try.f138) (r := .tmp 2) hf rfl (rv_tmp hf rfl) ?_
        exact ⟨_, rfl, H.bel, mk_bool⟩
      · rw [if_neg (nt hc3)] at hR1
        refine cd_f hf rfl hc3 ?_
        refine wp_skip ?_
        refine blk_n ?_
        refine then_n ?_
        refine reg ?_
        refine pRun_ok (tb := tab) (n := 23) tabOk 3 _ _ hf rfl rfl fun a hf => ?_
        refine wl_end ?_
        have hf := hf.prune [0, 3] rfl
        have H := H.let [] [] [] [1]
        exact then_n ⟨w64 (i + 1), hR1, hf, H⟩
    · rw [if_neg (nt hc2)] at hR1
      refine cd_f hf rfl hc2 ?_
      refine wp_exit (then_x (then_x (blk_e (?_))))
      have hf := hf.prune [0, 3] rfl
      have H := H.let [] [] [] [0]
      exact ⟨i, (Option.some.inj hR1).symm, hf, H⟩
  rintro a w ⟨i2, rfl, hf, H⟩
  replace hF := on_next hF
  refine then_n ?_
  refine sq ?_
  refine reg ?_
  refine pRun_ok (tb := tab) (n := 23) tabOk 2 _ _ hf rfl rfl fun a hf => ?_
  obtain ⟨y2, hy2, hF⟩ := bind_some hF
  refine wl0 rfl (op_call hf TF.cl97 rfl (by decide) (spec_l1In_ok (S := fun _ => True) mk_int mk_int mk_int hy2) fun v2 w a hp2 hf => ?_)
  obtain ⟨hb2, hp2⟩ := hp2
  obtain rfl := VR_bool hp2
  have H := H.keep hb2
  refine pRun_ok (tb := tab) (n := 23) tabOk 1 _ _ hf rfl rfl fun a hf => ?_
  refine wl_end ?_
  refine then_n ?_
  refine wp_ret (?_)
  obtain rfl := Option.some.inj hF
  refine ret_1 (fn := Try.f138) (r := .tmp 2) hf rfl (rv_tmp hf rfl) ?_
  exact ⟨_, rfl, H.bel, mk_bool⟩

/- loop.example/g00897/spec.l22Level -/
set_option maxHeartbeats 1000000 in
theorem spec_l22Level_ok {fu : Nat} {w0 : World} {S : Nat → Prop} {v0_ : Value} {x1 : Int} {r : Bool} (h0 : VR w0 S v0_ x1) (hF : spec_l22Level fu x1 = some r) :
    Calls Try.prog 106 [v0_].toArray w0 fun e w' => ∃ v, e = .returned v ∧ (Below w0.heap.size w0 w' ∧ VR w' (St ⟨w0, []⟩ S [] [] [] true) v r) := by
  obtain rfl := VR_int h0
  have H := Mem.start ⟨w0, []⟩ S
  refine enter Try.func106 rfl rfl (nle rfl) rfl fun a hf => ?_
  rw [spec_l22Level] at hF
  refine sq ?_
  refine reg ?_
  refine pRun_ok (tb := tab) (n := 5) tabOk 1 _ _ hf rfl rfl fun a hf => ?_
  refine wl_end ?_
  refine then_n ?_
  refine sq ?_
  refine reg ?_
  refine pRun_ok (tb := tab) (n := 5) tabOk 1 _ _ hf rfl rfl fun a hf => ?_
  obtain ⟨y, hy, hF⟩ := bind_some hF
  refine wl0 rfl (op_call hf TF.cl97 rfl (by decide) (spec_l1In_ok (S := fun _ => True) mk_int mk_int mk_int hy) fun v w a hp hf => ?_)
  obtain ⟨hb, hp⟩ := hp
  obtain rfl := VR_bool hp
  have H := H.keep hb
  refine pRun_ok (tb := tab) (n := 5) tabOk 1 _ _ hf rfl rfl fun a hf => ?_
  refine wl_end ?_
  refine then_n ?_
  refine wp_ret (?_)
  obtain rfl := Option.some.inj hF
  refine ret_1 (fn := Try.f106) (r := .tmp 2) hf rfl (rv_tmp hf rfl) ?_
  exact ⟨_, rfl, H.bel, mk_bool⟩

/- loop.example/g00897/spec.l22Kind -/
set_option maxHeartbeats 1000000 in
theorem spec_l22Kind_ok {fu : Nat} {w0 : World} {S : Nat → Prop} {v0_ : Value} {a' : Amplifier} {r : Bool} (h0 : VR w0 S v0_ a') (hF : spec_l22Kind fu a' = some r) :
    Calls Try.prog 139 [v0_].toArray w0 fun e w' => ∃ v, e = .returned v ∧ (Below w0.heap.size w0 w' ∧ VR w' (St ⟨w0, []⟩ S [] [] [] true) v r) := by
  obtain rfl := Amplifier_open h0
  have H := Mem.start ⟨w0, []⟩ S
  refine enter Try.func139 rfl rfl (nle rfl) rfl fun a hf => ?_
  rw [spec_l22Kind] at hF
  refine sq ?_
  refine reg ?_
  refine wl0 rfl (op_box hf H rfl rfl (by decide) fun b' a w hf H => ?_)
  refine pRun_ok (tb := tab) (n := 16) tabOk 1 _ _ hf rfl rfl fun a hf => ?_
  refine wl_end ?_
  refine then_n ?_
  refine sq ?_
  obtain ⟨c, hGc, hF⟩ := bind_some hF
  refine mid (fun a w => Fr a 16 [(2, (.bool c))] ∧ Mem ⟨w0, []⟩ S [] [] [] [] w) ?_ ?_
  · refine reg ?_
    refine pRun_ok (tb := tab) (n := 16) tabOk 1 _ _ hf rfl rfl fun a hf => ?_
    refine wl0 rfl (op_q hf (rq_loadB hf H TF.ls3 0 rfl rfl rfl) rfl (by decide) fun a hf => ?_)
    obtain ⟨y, hy, hGc⟩ := bind_some hGc
    refine wl0 rfl (op_call hf TF.cl97 rfl (by decide) (spec_l1In_ok (S := fun _ => True) mk_int mk_int mk_int hy) fun v w a hp hf => ?_)
    obtain ⟨hb, hp⟩ := hp
    obtain rfl := VR_bool hp
    have H := H.keep hb
    refine pRun_ok (tb := tab) (n := 16) tabOk 1 _ _ hf rfl rfl fun a hf => ?_
    refine (Bool.eq_false_or_eq_true (y)).elim (fun hc => ?_) (fun hc => ?_)
    · rw [if_pos hc] at hGc
      have hf := hf.lit 6 rfl hc
      refine pRun_ok (tb := tab) (n := 16) tabOk 1 _ _ hf rfl rfl fun a hf => ?_
      refine wlg hf rfl rfl rfl (op_q hf (rq_loadB hf H TF.ls3 0 rfl rfl rfl) rfl (by decide) fun a hf => ?_)
      obtain ⟨y2, hy2, hGc⟩ := bind_some hGc
      refine wlg hf rfl rfl rfl (op_call hf TF.cl106 rfl (by decide) (spec_l22Level_ok (S := fun _ => True) mk_int hy2) fun v2 w a hp2 hf => ?_)
      obtain ⟨hb2, hp2⟩ := hp2
      obtain rfl := VR_bool hp2
      have H := H.keep hb2
      refine pRun_ok (tb := tab) (n := 16) tabOk 2 _ _ hf rfl rfl fun a hf => ?_
      refine (Bool.eq_false_or_eq_true (y2)).elim (fun hc2 => ?_) (fun hc2 => ?_)
      · rw [if_pos hc2] at hGc
        have hf := hf.lit 11 rfl hc2
        refine pRun_ok (tb := tab) (n := 16) tabOk 1 _ _ hf rfl rfl fun a hf => ?_
        refine wlg hf rfl rfl rfl (op_q hf (rq_loadB hf H TF.ls3 0 rfl rfl rfl) rfl (by decide) fun a hf => ?_)
        obtain ⟨y3, hy3, hGc⟩ := bind_some hGc
        refine wlg hf rfl rfl rfl (op_call hf TF.cl97 rfl (by decide) (spec_l1In_ok (S := fun _ => True) mk_int mk_int mk_int hy3) fun v3 w a hp3 hf => ?_)
        obtain ⟨hb3, hp3⟩ := hp3
        obtain rfl := VR_bool hp3
        have H := H.keep hb3
        refine pRun_ok (tb := tab) (n := 16) tabOk 2 _ _ hf rfl rfl fun a hf => ?_
        obtain rfl := Option.some.inj hGc
        have hf := hf.prune [2] rfl
        have H := H.let [false] [] [] []
        exact wl_end ⟨hf, H⟩
      · rw [if_neg (nt hc2)] at hGc
        have hf := hf.lit 11 rfl hc2
        refine pRun_ok (tb := tab) (n := 16) tabOk 5 _ _ hf rfl rfl fun a hf => ?_
        obtain rfl := Option.some.inj hGc
        have hf := hf.prune [2] rfl
        have H := H.let [false] [] [] []
        exact wl_end ⟨hf, H⟩
    · rw [if_neg (nt hc)] at hGc
      have hf := hf.lit 6 rfl hc
      refine pRun_ok (tb := tab) (n := 16) tabOk 10 _ _ hf rfl rfl fun a hf => ?_
      obtain rfl := Option.some.inj hGc
      have hf := hf.prune [2] rfl
      have H := H.let [false] [] [] []
      exact wl_end ⟨hf, H⟩
  rintro a w ⟨hf, H⟩
  refine then_n ?_
  refine wp_ret (?_)
  obtain rfl := Option.some.inj hF
  refine ret_1 (fn := Try.f139) (r := .tmp 2) hf rfl (rv_tmp hf rfl) ?_
  exact ⟨_, rfl, H.bel, mk_bool⟩

/- loop.example/g00897/spec.l22Loss -/
set_option maxHeartbeats 1000000 in
theorem spec_l22Loss_ok {fu : Nat} {w0 : World} {S : Nat → Prop} {v0_ : Value} {s' : Span} {r : Int} (h0 : VR w0 S v0_ s') (hF : spec_l22Loss fu s' = some r) :
    Calls Try.prog 100 [v0_].toArray w0 fun e w' => ∃ v, e = .returned v ∧ (Below w0.heap.size w0 w' ∧ VR w' (St ⟨w0, []⟩ S [] [] [] true) v r) := by
  obtain rfl := Span_open h0
  have H := Mem.start ⟨w0, []⟩ S
  refine enter Try.func100 rfl rfl (nle rfl) rfl fun a hf => ?_
  rw [spec_l22Loss] at hF
  refine sq ?_
  refine reg ?_
  refine wl0 rfl (op_box hf H rfl rfl (by decide) fun b' a w hf H => ?_)
  refine pRun_ok (tb := tab) (n := 14) tabOk 1 _ _ hf rfl rfl fun a hf => ?_
  refine wl_end ?_
  refine then_n ?_
  refine sq ?_
  refine reg ?_
  refine pRun_ok (tb := tab) (n := 14) tabOk 1 _ _ hf rfl rfl fun a hf => ?_
  refine wl0 rfl (op_q hf (rq_loadB hf H TF.ls3 0 rfl rfl rfl) rfl (by decide) fun a hf => ?_)
  refine pRun_ok (tb := tab) (n := 14) tabOk 1 _ _ hf rfl rfl fun a hf => ?_
  refine wl0 rfl (op_q hf (rq_loadB hf H TF.ls3 0 rfl rfl rfl) rfl (by decide) fun a hf => ?_)
  refine pRun_ok (tb := tab) (n := 14) tabOk 2 _ _ hf rfl rfl fun a hf => ?_
  obtain ⟨q, hq, hF⟩ := bind_some hF
  refine wl0 rfl (op_q hf (rq_quo hf rfl rfl hq) rfl (by decide) fun a hf => ?_)
  refine pRun_ok (tb := tab) (n := 14) tabOk 1 _ _ hf rfl rfl fun a hf => ?_
  refine wl0 rfl (op_q hf (rq_loadB hf H TF.ls3 0 rfl rfl rfl) rfl (by decide) fun a hf => ?_)
  refine pRun_ok (tb := tab) (n := 14) tabOk 3 _ _ hf rfl rfl fun a hf => ?_
  have hf := hf.prune [2] rfl
  refine wl_end ?_
  refine then_n ?_
  refine wp_ret (?_)
  obtain rfl := Option.some.inj hF
  refine ret_1 (fn := Try.f100) (r := .tmp 2) hf rfl (rv_tmp hf rfl) ?_
  exact ⟨_, rfl, H.bel, mk_int⟩

/- loop.example/g00897/spec.l1Least -/
set_option maxHeartbeats 1000000 in
theorem spec_l1Least_ok {fu : Nat} {w0 : World} {S : Nat → Prop} {v0_ : Value} {v1_ : Value} {a' : Int} {b' : Int} {r : Int} (h0 : VR w0 S v0_ a') (h1 : VR w0 S v1_ b') (hF : spec_l1Least fu a' b' = some r) :
    Calls Try.prog 162 [v0_, v1_].toArray w0 fun e w' => ∃ v, e = .returned v ∧ (Below w0.heap.size w0 w' ∧ VR w' (St ⟨w0, []⟩ S [] [] [] true) v r) := by
  obtain rfl := VR_int h0
  obtain rfl := VR_int h1
  have H := Mem.start ⟨w0, []⟩ S
  refine enter Try.func162 rfl rfl (nle rfl) rfl fun a hf => ?_
  rw [spec_l1Least] at hF
  refine sq ?_
  refine reg ?_
  refine pRun_ok (tb := tab) (n := 10) tabOk 1 _ _ hf rfl rfl fun a hf => ?_
  refine wl_end ?_
  refine then_n ?_
  refine sq ?_
  refine sq ?_
  refine reg ?_
  refine pRun_ok (tb := tab) (n := 10) tabOk 3 _ _ hf rfl rfl fun a hf => ?_
  refine wl_end ?_
  refine then_n ?_
  refine (Bool.eq_false_or_eq_true (decide (a' < b'))).elim (fun hc => ?_) (fun hc => ?_)
  · rw [if_pos hc] at hF
    refine cd_t hf rfl hc ?_
    refine sq ?_
    refine reg ?_
    refine pRun_ok (tb := tab) (n := 10) tabOk 2 _ _ hf rfl rfl fun a hf => ?_
    refine wl_end ?_
    refine then_n ?_
    refine wp_ret (then_r (?_))
    obtain rfl := Option.some.inj hF
    refine ret_1 (fn := Try.f162) (r := .tmp 4) hf rfl (rv_tmp hf rfl) ?_
    exact ⟨_, rfl, H.bel, mk_int⟩
  · rw [if_neg (nt hc)] at hF
    refine cd_f hf rfl hc ?_
    refine wp_skip ?_
    refine then_n ?_
    refine sq ?_
    refine reg ?_
    refine pRun_ok (tb := tab) (n := 10) tabOk 2 _ _ hf rfl rfl fun a hf => ?_
    refine wl_end ?_
    refine then_n ?_
    refine wp_ret (?_)
    obtain rfl := Option.some.inj hF
    refine ret_1 (fn := Try.f162) (r := .tmp 4) hf rfl (rv_tmp hf rfl) ?_
    exact ⟨_, rfl, H.bel, mk_int⟩

/- loop.example/g00897/spec.l1Most -/
set_option maxHeartbeats 1000000 in
theorem spec_l1Most_ok {fu : Nat} {w0 : World} {S : Nat → Prop} {v0_ : Value} {v1_ : Value} {a' : Int} {b' : Int} {r : Int} (h0 : VR w0 S v0_ a') (h1 : VR w0 S v1_ b') (hF : spec_l1Most fu a' b' = some r) :
    Calls Try.prog 161 [v0_, v1_].toArray w0 fun e w' => ∃ v, e = .returned v ∧ (Below w0.heap.size w0 w' ∧ VR w' (St ⟨w0, []⟩ S [] [] [] true) v r) := by
  obtain rfl := VR_int h0
  obtain rfl := VR_int h1
  have H := Mem.start ⟨w0, []⟩ S
  refine enter Try.func161 rfl rfl (nle rfl) rfl fun a hf => ?_
  rw [spec_l1Most] at hF
  refine sq ?_
  refine reg ?_
  refine pRun_ok (tb := tab) (n := 10) tabOk 1 _ _ hf rfl rfl fun a hf => ?_
  refine wl_end ?_
  refine then_n ?_
  refine sq ?_
  refine sq ?_
  refine reg ?_
  refine pRun_ok (tb := tab) (n := 10) tabOk 3 _ _ hf rfl rfl fun a hf => ?_
  refine wl_end ?_
  refine then_n ?_
  refine (Bool.eq_false_or_eq_true (decide (a' > b'))).elim (fun hc => ?_) (fun hc => ?_)
  · rw [if_pos hc] at hF
    refine cd_t hf rfl hc ?_
    refine sq ?_
    refine reg ?_
    refine pRun_ok (tb := tab) (n := 10) tabOk 2 _ _ hf rfl rfl fun a hf => ?_
    refine wl_end ?_
    refine then_n ?_
    refine wp_ret (then_r (?_))
    obtain rfl := Option.some.inj hF
    refine ret_1 (fn := Try.f161) (r := .tmp 4) hf rfl (rv_tmp hf rfl) ?_
    exact ⟨_, rfl, H.bel, mk_int⟩
  · rw [if_neg (nt hc)] at hF
    refine cd_f hf rfl hc ?_
    refine wp_skip ?_
    refine then_n ?_
    refine sq ?_
    refine reg ?_
    refine pRun_ok (tb := tab) (n := 10) tabOk 2 _ _ hf rfl rfl fun a hf => ?_
    refine wl_end ?_
    refine then_n ?_
    refine wp_ret (?_)
    obtain rfl := Option.some.inj hF
    refine ret_1 (fn := Try.f161) (r := .tmp 4) hf rfl (rv_tmp hf rfl) ?_
    exact ⟨_, rfl, H.bel, mk_int⟩

/- loop.example/g00897/spec.l22Raise -/
set_option maxHeartbeats 1000000 in
theorem spec_l22Raise_ok {fu : Nat} {w0 : World} {S : Nat → Prop} {v0_ : Value} {v1_ : Value} {a' : Amplifier} {level : Int} {r : Int} (h0 : VR w0 S v0_ a') (h1 : VR w0 S v1_ level) (hF : spec_l22Raise fu a' level = some r) :
    Calls Try.prog 140 [v0_, v1_].toArray w0 fun e w' => ∃ v, e = .returned v ∧ (Below w0.heap.size w0 w' ∧ VR w' (St ⟨w0, []⟩ S [] [] [] true) v r) := by
  obtain rfl := Amplifier_open h0
  obtain rfl := VR_int h1
  have H := Mem.start ⟨w0, []⟩ S
  refine enter Try.func140 rfl rfl (nle rfl) rfl fun a hf => ?_
  rw [spec_l22Raise] at hF
  refine sq ?_
  refine reg ?_
  refine wl0 rfl (op_box hf H rfl rfl (by decide) fun b' a w hf H => ?_)
  refine pRun_ok (tb := tab) (n := 14) tabOk 1 _ _ hf rfl rfl fun a hf => ?_
  refine wl_end ?_
  refine then_n ?_
  refine sq ?_
  refine reg ?_
  refine pRun_ok (tb := tab) (n := 14) tabOk 3 _ _ hf rfl rfl fun a hf => ?_
  refine wl0 rfl (op_q hf (rq_loadB hf H TF.ls3 0 rfl rfl rfl) rfl (by decide) fun a hf => ?_)
  refine pRun_ok (tb := tab) (n := 14) tabOk 2 _ _ hf rfl rfl fun a hf => ?_
  refine wl0 rfl (op_q hf (rq_loadB hf H TF.ls3 0 rfl rfl rfl) rfl (by decide) fun a hf => ?_)
  obtain ⟨y, hy, hF⟩ := bind_some hF
  refine wl0 rfl (op_call hf TF.cl162 rfl (by decide) (spec_l1Least_ok (S := fun _ => True) mk_int mk_int hy) fun v w a hp hf => ?_)
  obtain ⟨hb, hp⟩ := hp
  obtain rfl := VR_int hp
  have H := H.keep hb
  obtain ⟨y2, hy2, hF⟩ := bind_some hF
  refine wl0 rfl (op_call hf TF.cl161 rfl (by decide) (spec_l1Most_ok (S := fun _ => True) mk_int mk_int hy2) fun v2 w a hp2 hf => ?_)
  obtain ⟨hb2, hp2⟩ := hp2
  obtain rfl := VR_int hp2
  have H := H.keep hb2
  refine pRun_ok (tb := tab) (n := 14) tabOk 1 _ _ hf rfl rfl fun a hf => ?_
  refine wl_end ?_
  refine then_n ?_
  refine wp_ret (?_)
  obtain rfl := Option.some.inj hF
  refine ret_1 (fn := Try.f140) (r := .tmp 4) hf rfl (rv_tmp hf rfl) ?_
  exact ⟨_, rfl, H.bel, mk_int⟩

/- loop.example/g00897/spec.PlaceAmplifiers -/
set_option maxHeartbeats 1000000 in
theorem spec_PlaceAmplifiers_ok {fu : Nat} {w0 : World} {S : Nat → Prop} {v0_ : Value} {v1_ : Value} {v2_ : Value} {v3_ : Value} {line : List Span} {a' : Amplifier} {launch : Int} {need : Int} {r : List Amplifier × Bool} (h0 : VR w0 S v0_ line) (h1 : VR w0 S v1_ a') (h2 : VR w0 S v2_ launch) (h3 : VR w0 S v3_ need) (hF : spec_PlaceAmplifiers fu line a' launch need = some r) :
    Calls Try.prog 81 [v0_, v1_, v2_, v3_].toArray w0 fun e w' => ∃ v, e = .returned v ∧ (Below w0.heap.size w0 w' ∧ ∃ F0, ∃ u0 u1, v = .tuple #[u0, u1] ∧ VO w' F0 u0 r.1 ∧ VR w' (St ⟨w0, []⟩ S [] [] [] true) u1 r.2 ∧ New w0 w' F0) := by
  obtain ⟨A, c, rfl, hl⟩ := VR_list h0
  obtain rfl := Amplifier_open h1
  obtain rfl := VR_int h2
  obtain rfl := VR_int h3
  have H := Mem.start ⟨w0, []⟩ S
  have H := H.pushArg (MP.val [(.slice A line.length c)] line) hl
  refine enter Try.func81 rfl rfl (nle rfl) rfl fun a hf => ?_
  rw [spec_PlaceAmplifiers] at hF
  refine sq ?_
  refine reg ?_
  refine wl0 rfl (op_box hf H rfl rfl (by decide) fun b' a w hf H => ?_)
  refine pRun_ok (tb := tab) (n := 85) tabOk 2 _ _ hf rfl rfl fun a hf => ?_
  refine wl_end ?_
  refine then_n ?_
  refine sq ?_
  refine reg ?_
  refine wl0 rfl (op_bslice hf H (.sh true) rfl 88 ([] : List Amplifier) [] rfl (fun w => by kernel_rfl) rfl (by decide) rfl trivial el0 (by decide) fun A2 a w hf H => ?_)
  refine pRun_ok (tb := tab) (n := 85) tabOk 1 _ _ hf rfl rfl fun a hf => ?_
  refine wl_end ?_
  refine then_n ?_
  refine sq ?_
  refine sq ?_
  obtain ⟨c2, hGc2, hF⟩ := bind_some hF
  refine mid (fun a w => Fr a 85 [(0, (.slice A line.length c)), (2, (.int .i64 launch)), (3, (.int .i64 need)), (5, (.pointer (some ⟨b', 0, none⟩))), (10, (.slice A2 0 0)), (32, (.bool c2))] ∧ Mem ⟨w0, []⟩ S [⟨b', 88, [(.int .i64 a'.After), (.int .i64 a'.Gain), (.int .i64 a'.Output), (.int .i64 a'.Noise)]⟩] [⟨.sh true, 88, A2, 0, (([] : List Amplifier) : List Amplifier)⟩] [] [(false, MP.val [(.slice A line.length c)] (line : List Span))] w) ?_ ?_
  · refine reg ?_
    refine pRun_ok (tb := tab) (n := 85) tabOk 1 _ _ hf rfl rfl fun a hf => ?_
    obtain ⟨y, hy, hGc2⟩ := bind_some hGc2
    refine wl0 rfl (op_call hf TF.cl138 rfl (by decide) (spec_l22Line_ok (S := fun _ => True) (mk_list (rep_true (α := List Span) (H.get 0 rfl))) hy) fun v w a hp hf => ?_)
    obtain ⟨hb, hp⟩ := hp
    obtain rfl := VR_bool hp
    have H := H.keep hb
    refine pRun_ok (tb := tab) (n := 85) tabOk 2 _ _ hf rfl rfl fun a hf => ?_
    refine (Bool.eq_false_or_eq_true (!y)).elim (fun hc => ?_) (fun hc => ?_)
    · rw [if_pos hc] at hGc2
      have hf := hf.lit 18 rfl hc
      refine pRun_ok (tb := tab) (n := 85) tabOk 14 _ _ hf rfl rfl fun a hf => ?_
      obtain rfl := Option.some.inj hGc2
      have hf := hf.prune [0, 2, 3, 5, 10, 32] rfl
      have H := H.let [true] [true] [] [0]
      exact wl_end ⟨hf, H⟩
    · rw [if_neg (nt hc)] at hGc2
      have hf := hf.lit 18 rfl hc
      refine wlg hf rfl rfl rfl (op_q hf (rq_loadBN hf H TF.la88 0 rfl rfl rfl rfl) rfl (by decide) fun a hf => ?_)
      obtain ⟨y2, hy2, hGc2⟩ := bind_some hGc2
      refine wlg hf rfl rfl rfl (op_call hf TF.cl139 rfl (by decide) (spec_l22Kind_ok (S := fun _ => True) Amplifier_mkv hy2) fun v2 w a hp2 hf => ?_)
      obtain ⟨hb2, hp2⟩ := hp2
      obtain rfl := VR_bool hp2
      have H := H.keep hb2
      refine pRun_ok (tb := tab) (n := 85) tabOk 3 _ _ hf rfl rfl fun a hf => ?_
      refine (Bool.eq_false_or_eq_true (!y2)).elim (fun hc2 => ?_) (fun hc2 => ?_)
      · rw [if_pos hc2] at hGc2
        have hf := hf.lit 23 rfl hc2
        refine pRun_ok (tb := tab) (n := 85) tabOk 9 _ _ hf rfl rfl fun a hf => ?_
        obtain rfl := Option.some.inj hGc2
        have hf := hf.prune [0, 2, 3, 5, 10, 32] rfl
        have H := H.let [true] [true] [] [0]
        exact wl_end ⟨hf, H⟩
      · rw [if_neg (nt hc2)] at hGc2
        have hf := hf.lit 23 rfl hc2
        refine pRun_ok (tb := tab) (n := 85) tabOk 1 _ _ hf rfl rfl fun a hf => ?_
        obtain ⟨y3, hy3, hGc2⟩ := bind_some hGc2
        refine wlg hf rfl rfl rfl (op_call hf TF.cl106 rfl (by decide) (spec_l22Level_ok (S := fun _ => True) mk_int hy3) fun v3 w a hp3 hf => ?_)
        obtain ⟨hb3, hp3⟩ := hp3
        obtain rfl := VR_bool hp3
        have H := H.keep hb3
        refine pRun_ok (tb := tab) (n := 85) tabOk 3 _ _ hf rfl rfl fun a hf => ?_
        refine (Bool.eq_false_or_eq_true (!y3)).elim (fun hc3 => ?_) (fun hc3 => ?_)
        · rw [if_pos hc3] at hGc2
          have hf := hf.lit 28 rfl hc3
          refine pRun_ok (tb := tab) (n := 85) tabOk 4 _ _ hf rfl rfl fun a hf => ?_
          obtain rfl := Option.some.inj hGc2
          have hf := hf.prune [0, 2, 3, 5, 10, 32] rfl
          have H := H.let [true] [true] [] [0]
          exact wl_end ⟨hf, H⟩
        · rw [if_neg (nt hc3)] at hGc2
          have hf := hf.lit 28 rfl hc3
          refine pRun_ok (tb := tab) (n := 85) tabOk 1 _ _ hf rfl rfl fun a hf => ?_
          obtain ⟨y4, hy4, hGc2⟩ := bind_some hGc2
          refine wlg hf rfl rfl rfl (op_call hf TF.cl106 rfl (by decide) (spec_l22Level_ok (S := fun _ => True) mk_int hy4) fun v4 w a hp4 hf => ?_)
          obtain ⟨hb4, hp4⟩ := hp4
          obtain rfl := VR_bool hp4
          have H := H.keep hb4
          refine pRun_ok (tb := tab) (n := 85) tabOk 2 _ _ hf rfl rfl fun a hf => ?_
          obtain rfl := Option.some.inj hGc2
          have hf := hf.prune [0, 2, 3, 5, 10, 32] rfl
          have H := H.let [true] [true] [] [0]
          exact wl_end ⟨hf, H⟩
  rintro a w ⟨hf, H⟩
  refine then_n ?_
  refine (Bool.eq_false_or_eq_true (c2)).elim (fun hc4 => ?_) (fun hc4 => ?_)
  · rw [if_pos hc4] at hF
    refine cd_t hf rfl hc4 ?_
    refine sq ?_
    refine reg ?_
    refine pRun_ok (tb := tab) (n := 85) tabOk 3 _ _ hf rfl rfl fun a hf => ?_
    refine wl_end ?_
    refine then_n ?_
    refine wp_ret (then_r (?_))
    have H := H.rowOwn 0 rfl rfl
    obtain ⟨F, H⟩ := H.freezeOwn 0 rfl
    have H := H.lend 0 rfl
    obtain rfl := Option.some.inj hF
    refine ret_2 (fn := Try.f81) (r := .tmp 8) (s := .tmp 9) hf rfl (rv_tmp hf rfl) (rv_tmp hf rfl) ?_
    have hN := H.ends (X := [(⟨F, MP.own F [(.slice A2 0 0)] (([] : List Amplifier) : List Amplifier)⟩ : DI)])
    simp only [List.flatMap_cons, List.flatMap_nil, List.append_nil, List.append_assoc] at hN
    exact ⟨_, rfl, H.bel, F, _, _, rfl, (mko_list (H.ownAt 0 rfl)), mk_bool, hN⟩
  · rw [if_neg (nt hc4)] at hF
    refine cd_f hf rfl hc4 ?_
    refine wp_skip ?_
    refine then_n ?_
    refine sq ?_
    refine reg ?_
    refine pRun_ok (tb := tab) (n := 85) tabOk 2 _ _ hf rfl rfl fun a hf => ?_
    refine wl_end ?_
    refine then_n ?_
    refine sq ?_
    refine sq ?_
    refine reg ?_
    refine pRun_ok (tb := tab) (n := 85) tabOk 1 _ _ hf rfl rfl fun a hf => ?_
    refine wl_end ?_
    refine then_n ?_
    obtain ⟨out2, hB1, hF⟩ := bind_some hF
    have hf := hf.prune [0, 3, 5, 10, 11, 12] rfl
    have H := H.let [true] [true] [] [0]
    have hI : (fun (s : List Amplifier × Int × Int) (a : Act) (w : World) => match s with | (out', now, i) => ∃ (A3 : Option Addr) (c3 : Nat), Fr a 85 [(0, (.slice A line.length c)), (3, (.int .i64 need)), (5, (.pointer (some ⟨b', 0, none⟩))), (10, (.slice A3 out'.length c3)), (11, (.int .i64 now)), (12, (.int .i64 i))] ∧ Mem ⟨w0, []⟩ S [⟨b', 88, [(.int .i64 a'.After), (.int .i64 a'.Gain), (.int .i64 a'.Output), (.int .i64 a'.Noise)]⟩] [⟨.sh true, 88, A3, c3, (out' : List Amplifier)⟩] [] [(false, MP.val [(.slice A line.length c)] (line : List Span))] w) (([] : List Amplifier), launch, 0) a w := ⟨A2, 0, hf, H⟩
    refine mid (fun a w => ∃ s : List Amplifier × Int × Int, out2 = Out.next s ∧ (fun (s : List Amplifier × Int × Int) (a : Act) (w : World) => match s with | (out', now, i) => ∃ (A3 : Option Addr) (c3 : Nat), Fr a 85 [(0, (.slice A line.length c)), (3, (.int .i64 need)), (5, (.pointer (some ⟨b', 0, none⟩))), (10, (.slice A3 out'.length c3)), (11, (.int .i64 now)), (12, (.int .i64 i))] ∧ Mem ⟨w0, []⟩ S [⟨b', 88, [(.int .i64 a'.After), (.int .i64 a'.Gain), (.int .i64 a'.Output), (.int .i64 a'.Noise)]⟩] [⟨.sh true, 88, A3, c3, (out' : List Amplifier)⟩] [] [(false, MP.val [(.slice A line.length c)] (line : List Span))] w) s a w) ?_ ?_
    · refine wp_block ?_
      refine loop_rule (fun k (s : List Amplifier × Int × Int) => spec_PlaceAmplifiers_L1 fu line a' need k s.1 s.2.1 s.2.2 = some out2) (fun (s : List Amplifier × Int × Int) (a : Act) (w : World) => match s with | (out', now, i) => ∃ (A3 : Option Addr) (c3 : Nat), Fr a 85 [(0, (.slice A line.length c)), (3, (.int .i64 need)), (5, (.pointer (some ⟨b', 0, none⟩))), (10, (.slice A3 out'.length c3)), (11, (.int .i64 now)), (12, (.int .i64 i))] ∧ Mem ⟨w0, []⟩ S [⟨b', 88, [(.int .i64 a'.After), (.int .i64 a'.Gain), (.int .i64 a'.Output), (.int .i64 a'.Noise)]⟩] [⟨.sh true, 88, A3, c3, (out' : List Amplifier)⟩] [] [(false, MP.val [(.slice A line.length c)] (line : List Span))] w) (fun s h => by cases h) ?_ fu (([] : List Amplifier), launch, 0) a w hB1 hI
      rintro fk ⟨out', now, i⟩ a w hR1 hI
      replace hR1 : spec_PlaceAmplifiers_L1 fu line a' need (fk + 1) out' now i = some out2 := hR1
      rw [spec_PlaceAmplifiers_L1] at hR1
      obtain ⟨A3, c3, hf, H⟩ := hI
      refine sq ?_
      refine sq ?_
      refine reg ?_
      refine pRun_ok (tb := tab) (n := 85) tabOk 4 _ _ hf rfl rfl fun a hf => ?_
      refine wl_end ?_
      refine then_n ?_
      refine (Bool.eq_false_or_eq_true (decide (i < (line.length : Int)))).elim (fun hc5 => ?_) (fun hc5 => ?_)
      · rw [if_pos hc5] at hR1
        refine cd_t hf rfl hc5 ?_
        refine wp_skip ?_
        refine then_n ?_
        refine sq ?_
        refine wp_block ?_
        refine sq ?_
        refine reg ?_
        refine pRun_ok (tb := tab) (n := 85) tabOk 3 _ _ hf rfl rfl fun a hf => ?_
        obtain ⟨e, he, hR1⟩ := bind_some hR1
        refine wl0 rfl (op_iaddr hf H Try.underlying96 TF.sz28 0 rfl rfl rfl he (by decide) fun p o cs a hf hr H => ?_)
        obtain rfl := Span_cells hr
        refine wl0 rfl (op_q hf (rq_loadIN hf H TF.la28 0 0 rfl rfl rfl rfl) rfl (by decide) fun a hf => ?_)
        obtain ⟨y5, hy5, hR1⟩ := bind_some hR1
        refine wl0 rfl (op_call hf TF.cl100 rfl (by decide) (spec_l22Loss_ok (S := fun _ => True) Span_mkv hy5) fun v5 w a hp5 hf => ?_)
        obtain ⟨hb5, hp5⟩ := hp5
        obtain rfl := VR_int hp5
        have H := H.keep hb5
        refine pRun_ok (tb := tab) (n := 85) tabOk 2 _ _ hf rfl rfl fun a hf => ?_
        refine wl_end ?_
        refine then_n ?_
        refine sq ?_
        refine sq ?_
        obtain ⟨c4, hGc4, hR1⟩ := bind_some hR1
        refine mid (fun a w => Fr a 85 [(0, (.slice A line.length c)), (3, (.int .i64 need)), (5, (.pointer (some ⟨b', 0, none⟩))), (10, (.slice A3 out'.length c3)), (11, (.int .i64 (w64 (now - y5)))), (12, (.int .i64 i)), (55, (.bool c4))] ∧ Mem ⟨w0, []⟩ S [⟨b', 88, [(.int .i64 a'.After), (.int .i64 a'.Gain), (.int .i64 a'.Output), (.int .i64 a'.Noise)]⟩] [⟨.sh true, 88, A3, c3, (out' : List Amplifier)⟩] [] [(false, MP.val [(.slice A line.length c)] (line : List Span))] w) ?_ ?_
        · refine reg ?_
          refine pRun_ok (tb := tab) (n := 85) tabOk 1 _ _ hf rfl rfl fun a hf => ?_
          obtain ⟨y6, hy6, hGc4⟩ := bind_some hGc4
          refine wl0 rfl (op_call hf TF.cl106 rfl (by decide) (spec_l22Level_ok (S := fun _ => True) mk_int hy6) fun v6 w a hp6 hf => ?_)
          obtain ⟨hb6, hp6⟩ := hp6
          obtain rfl := VR_bool hp6
          have H := H.keep hb6
          refine pRun_ok (tb := tab) (n := 85) tabOk 2 _ _ hf rfl rfl fun a hf => ?_
          refine (Bool.eq_false_or_eq_true (!y6)).elim (fun hc6 => ?_) (fun hc6 => ?_)
          · rw [if_pos hc6] at hGc4
            have hf := hf.lit 51 rfl hc6
            refine pRun_ok (tb := tab) (n := 85) tabOk 4 _ _ hf rfl rfl fun a hf => ?_
            obtain rfl := Option.some.inj hGc4
            have hf := hf.prune [0, 3, 5, 10, 11, 12, 55] rfl
            have H := H.let [true] [true] [] [1]
            exact wl_end ⟨hf, H⟩
          · rw [if_neg (nt hc6)] at hGc4
            have hf := hf.lit 51 rfl hc6
            refine pRun_ok (tb := tab) (n := 85) tabOk 4 _ _ hf rfl rfl fun a hf => ?_
            obtain rfl := Option.some.inj hGc4
            have hf := hf.prune [0, 3, 5, 10, 11, 12, 55] rfl
            have H := H.let [true] [true] [] [1]
            exact wl_end ⟨hf, H⟩
        rintro a w ⟨hf, H⟩
        refine then_n ?_
        refine (Bool.eq_false_or_eq_true (c4)).elim (fun hc7 => ?_) (fun hc7 => ?_)
        · rw [if_pos hc7] at hR1
          refine cd_t hf rfl hc7 ?_
          refine sq ?_
          refine reg ?_
          refine wl0 rfl (op_bslice hf H (.sh true) rfl 88 ([] : List Amplifier) [] rfl (fun w => by kernel_rfl) rfl (by decide) rfl trivial el0 (by decide) fun A4 a w hf H => ?_)
          refine pRun_ok (tb := tab) (n := 85) tabOk 2 _ _ hf rfl rfl fun a hf => ?_
          refine wl_end ?_
          refine then_n ?_
          refine wp_ret (then_r (blk_r (then_r (then_r (blk_r (then_r (then_r (?_))))))))
          have H := H.rowOwn 0 rfl rfl
          obtain ⟨F2, H⟩ := H.freezeOwn 0 rfl
          have H := H.lend 0 rfl
          obtain rfl := Option.some.inj hR1
          replace hF := on_ret hF
          obtain rfl := Option.some.inj hF
          refine ret_2 (fn := Try.f81) (r := .tmp 8) (s := .tmp 9) hf rfl (rv_tmp hf rfl) (rv_tmp hf rfl) ?_
          have hN := H.ends (X := [(⟨F2, MP.own F2 [(.slice A4 0 0)] (([] : List Amplifier) : List Amplifier)⟩ : DI)])
          simp only [List.flatMap_cons, List.flatMap_nil, List.append_nil, List.append_assoc] at hN
          exact ⟨_, rfl, H.bel, F2, _, _, rfl, (mko_list (H.ownAt 0 rfl)), mk_bool, hN⟩
        · rw [if_neg (nt hc7)] at hR1
          refine cd_f hf rfl hc7 ?_
          refine wp_skip ?_
          refine then_n ?_
          refine sq ?_
          obtain ⟨c5, hGc5, hR1⟩ := bind_some hR1
          refine mid (fun a w => Fr a 85 [(0, (.slice A line.length c)), (3, (.int .i64 need)), (5, (.pointer (some ⟨b', 0, none⟩))), (10, (.slice A3 out'.length c3)), (11, (.int .i64 (w64 (now - y5)))), (12, (.int .i64 i)), (73, (.bool c5))] ∧ Mem ⟨w0, []⟩ S [⟨b', 88, [(.int .i64 a'.After), (.int .i64 a'.Gain), (.int .i64 a'.Output), (.int .i64 a'.Noise)]⟩] [⟨.sh true, 88, A3, c3, (out' : List Amplifier)⟩] [] [(false, MP.val [(.slice A line.length c)] (line : List Span))] w) ?_ ?_
          · refine reg ?_
            refine pRun_ok (tb := tab) (n := 85) tabOk 6 _ _ hf rfl rfl fun a hf => ?_
            refine (Bool.eq_false_or_eq_true (decide ((w64 (i + 1)) < (line.length : Int)))).elim (fun hc8 => ?_) (fun hc8 => ?_)
            · rw [if_pos hc8] at hGc5
              have hf := hf.lit 62 rfl hc8
              refine pRun_ok (tb := tab) (n := 85) tabOk 4 _ _ hf rfl rfl fun a hf => ?_
              obtain ⟨e2, he2, hGc5⟩ := bind_some hGc5
              refine wlg hf rfl rfl rfl (op_iaddr hf H Try.underlying96 TF.sz28 0 rfl rfl rfl he2 (by decide) fun p2 o2 cs2 a hf hr2 H => ?_)
              obtain rfl := Span_cells hr2
              refine wlg hf rfl rfl rfl (op_q hf (rq_loadIN hf H TF.la28 0 0 rfl rfl rfl rfl) rfl (by decide) fun a hf => ?_)
              obtain ⟨y7, hy7, hGc5⟩ := bind_some hGc5
              refine wlg hf rfl rfl rfl (op_call hf TF.cl100 rfl (by decide) (spec_l22Loss_ok (S := fun _ => True) Span_mkv hy7) fun v7 w a hp7 hf => ?_)
              obtain ⟨hb7, hp7⟩ := hp7
              obtain rfl := VR_int hp7
              have H := H.keep hb7
              refine pRun_ok (tb := tab) (n := 85) tabOk 4 _ _ hf rfl rfl fun a hf => ?_
              obtain rfl := Option.some.inj hGc5
              have hf := hf.prune [0, 3, 5, 10, 11, 12, 73] rfl
              have H := H.let [true] [true] [] [1]
              exact wl_end ⟨hf, H⟩
            · rw [if_neg (nt hc8)] at hGc5
              have hf := hf.lit 62 rfl hc8
              refine pRun_ok (tb := tab) (n := 85) tabOk 11 _ _ hf rfl rfl fun a hf => ?_
              obtain rfl := Option.some.inj hGc5
              have hf := hf.prune [0, 3, 5, 10, 11, 12, 73] rfl
              have H := H.let [true] [true] [] [0]
              exact wl_end ⟨hf, H⟩
          rintro a w ⟨hf, H⟩
          refine then_n ?_
          refine (Bool.eq_false_or_eq_true (c5)).elim (fun hc9 => ?_) (fun hc9 => ?_)
          · rw [if_pos hc9] at hR1
            refine cd_t hf rfl hc9 ?_
            refine sq ?_
            refine reg ?_
            refine wl0 rfl (op_q hf (rq_loadBN hf H TF.la88 0 rfl rfl rfl rfl) rfl (by decide) fun a hf => ?_)
            refine wl0 rfl (op_alloc hf H TF.zv88 rfl (by decide) fun b2 a w hf H => ?_)
            refine wl0 rfl (op_storeB hf H 0 TF.sz88 rfl rfl rfl rfl rfl rfl (nle rfl) fun w H => ?_)
            refine wl_end ?_
            refine then_n ?_
            refine sq ?_
            refine reg ?_
            refine pRun_ok (tb := tab) (n := 85) tabOk 2 _ _ hf rfl rfl fun a hf => ?_
            refine wl0 rfl (op_storeB hf H 0 TF.sz3 rfl rfl rfl rfl rfl rfl (nle rfl) fun w H => ?_)
            refine wl_end ?_
            refine then_n ?_
            refine sq ?_
            refine reg ?_
            refine pRun_ok (tb := tab) (n := 85) tabOk 1 _ _ hf rfl rfl fun a hf => ?_
            refine wl0 rfl (op_q hf (rq_loadBN hf H TF.la88 0 rfl rfl rfl rfl) rfl (by decide) fun a hf => ?_)
            refine wl0 rfl (op_bslice hf H (.sh true) rfl 88 ([({ After := i, Gain := a'.Gain, Output := a'.Output, Noise := a'.Noise } : Amplifier)] : List Amplifier) [(.int .i64 i), (.int .i64 a'.Gain), (.int .i64 a'.Output), (.int .i64 a'.Noise)] rfl (fun w => by kernel_rfl) rfl (by decide) rfl trivial (el1 (y := ({ After := i, Gain := a'.Gain, Output := a'.Output, Noise := a'.Noise } : Amplifier)) (Amplifier_mk (x := ({ After := i, Gain := a'.Gain, Output := a'.Output, Noise := a'.Noise } : Amplifier)))) (by decide) fun A5 a w hf H => ?_)
            obtain ⟨l, hl, hR1⟩ := bind_some hR1
            refine wl0 rfl (op_appR hf H Try.underlying63 TF.ai88 rfl (by decide) 1 0 rfl rfl rfl rfl (.inr rfl) hl (by decide) fun A6 c6 a w hf H => ?_)
            refine pRun_ok (tb := tab) (n := 85) tabOk 1 _ _ hf rfl rfl fun a hf => ?_
            refine wl_end ?_
            refine then_n ?_
            refine reg ?_
            refine wl0 rfl (op_q hf (rq_loadBN hf H TF.la88 1 rfl rfl rfl rfl) rfl (by decide) fun a hf => ?_)
            refine pRun_ok (tb := tab) (n := 85) tabOk 1 _ _ hf rfl rfl fun a hf => ?_
            obtain ⟨y8, hy8, hR1⟩ := bind_some hR1
            refine wl0 rfl (op_call hf TF.cl140 rfl (by decide) (spec_l22Raise_ok (S := fun _ => True) Amplifier_mkv mk_int hy8) fun v8 w a hp8 hf => ?_)
            obtain ⟨hb8, hp8⟩ := hp8
            obtain rfl := VR_int hp8
            have H := H.keep hb8
            refine pRun_ok (tb := tab) (n := 85) tabOk 1 _ _ hf rfl rfl fun a hf => ?_
            refine wl_end ?_
            refine blk_n ?_
            refine then_n ?_
            refine reg ?_
            refine pRun_ok (tb := tab) (n := 85) tabOk 3 _ _ hf rfl rfl fun a hf => ?_
            have hf := hf.prune [0, 3, 5, 10, 11, 12] rfl
            refine wl_end ?_
            have hf := hf.prune [0, 3, 5, 10, 11, 12] rfl
            have H := H.let [false, true] [false, true] [] [0]
            exact then_n ⟨(l, y8, w64 (i + 1)), hR1, A6, c6, hf, H⟩
          · rw [if_neg (nt hc9)] at hR1
            refine cd_f hf rfl hc9 ?_
            refine wp_skip ?_
            refine blk_n ?_
            refine then_n ?_
            refine reg ?_
            refine pRun_ok (tb := tab) (n := 85) tabOk 3 _ _ hf rfl rfl fun a hf => ?_
            refine wl_end ?_
            have hf := hf.prune [0, 3, 5, 10, 11, 12] rfl
            have H := H.let [true] [true] [] [0]
            exact then_n ⟨(out', w64 (now - y5), w64 (i + 1)), hR1, A3, c3, hf, H⟩
      · rw [if_neg (nt hc5)] at hR1
        refine cd_f hf rfl hc5 ?_
        refine wp_exit (then_x (then_x (blk_e (?_))))
        have hf := hf.prune [0, 3, 5, 10, 11, 12] rfl
        have H := H.let [true] [true] [] [0]
        exact ⟨(out', now, i), (Option.some.inj hR1).symm, A3, c3, hf, H⟩
    rintro a w ⟨⟨out3, now2, i2⟩, rfl, A7, c7, hf, H⟩
    replace hF := on_next hF
    dsimp only at hF
    refine then_n ?_
    refine sq ?_
    refine reg ?_
    refine pRun_ok (tb := tab) (n := 85) tabOk 3 _ _ hf rfl rfl fun a hf => ?_
    refine wl_end ?_
    refine then_n ?_
    refine wp_ret (?_)
    have H := H.rowOwn 0 rfl rfl
    obtain ⟨F3, H⟩ := H.freezeOwn 0 rfl
    have H := H.lend 0 rfl
    obtain rfl := Option.some.inj hF
    refine ret_2 (fn := Try.f81) (r := .tmp 8) (s := .tmp 9) hf rfl (rv_tmp hf rfl) (rv_tmp hf rfl) ?_
    have hN := H.ends (X := [(⟨F3, MP.own F3 [(.slice A7 out3.length c7)] (out3 : List Amplifier)⟩ : DI)])
    simp only [List.flatMap_cons, List.flatMap_nil, List.append_nil, List.append_assoc] at hN
    exact ⟨_, rfl, H.bel, F3, _, _, rfl, (mko_list (H.ownAt 0 rfl)), mk_bool, hN⟩

/- loop.example/g00897/impl.areAmplifiers -/
set_option maxHeartbeats 1000000 in
theorem impl_areAmplifiers_ok {fu : Nat} {w0 : World} {S : Nat → Prop} {v0_ : Value} {v1_ : Value} {list : List Amplifier} {spans : Int} {r : Bool} (h0 : VR w0 S v0_ list) (h1 : VR w0 S v1_ spans) (hF : impl_areAmplifiers fu list spans = some r) :
    Calls Try.prog 121 [v0_, v1_].toArray w0 fun e w' => ∃ v, e = .returned v ∧ (Below w0.heap.size w0 w' ∧ VR w' (St ⟨w0, []⟩ S [] [] [] true) v r) := by
  obtain ⟨A, c, rfl, hl⟩ := VR_list h0
  obtain rfl := VR_int h1
  have H := Mem.start ⟨w0, []⟩ S
  have H := H.pushArg (MP.val [(.slice A list.length c)] list) hl
  refine enter Try.func121 rfl rfl (nle rfl) rfl fun a hf => ?_
  rw [impl_areAmplifiers] at hF
  refine sq ?_
  refine reg ?_
  refine pRun_ok (tb := tab) (n := 41) tabOk 1 _ _ hf rfl rfl fun a hf => ?_
  refine wl_end ?_
  refine then_n ?_
  refine sq ?_
  refine sq ?_
  refine reg ?_
  refine pRun_ok (tb := tab) (n := 41) tabOk 3 _ _ hf rfl rfl fun a hf => ?_
  refine wl_end ?_
  refine then_n ?_
  obtain ⟨out', hB1, hF⟩ := bind_some hF
  have hf := hf.prune [0, 1, 7, 8, 9] rfl
  have H := H.let [] [] [] [0]
  have hI : (fun (s : Int) (a : Act) (w : World) => match s with | i => Fr a 41 [(0, (.slice A list.length c)), (1, (.int .i64 spans)), (7, (.slice A list.length c)), (8, (.int .i64 (list.length : Int))), (9, (.int .i64 i))] ∧ Mem ⟨w0, []⟩ S [] [] [] [(false, MP.val [(.slice A list.length c)] (list : List Amplifier))] w) 0 a w0 := ⟨hf, H⟩
  refine mid (fun a w => ∃ s : Int, out' = Out.next s ∧ (fun (s : Int) (a : Act) (w : World) => match s with | i => Fr a 41 [(0, (.slice A list.length c)), (1, (.int .i64 spans)), (7, (.slice A list.length c)), (8, (.int .i64 (list.length : Int))), (9, (.int .i64 i))] ∧ Mem ⟨w0, []⟩ S [] [] [] [(false, MP.val [(.slice A list.length c)] (list : List Amplifier))] w) s a w) ?_ ?_
  · refine wp_block ?_
    refine loop_rule (fun k (s : Int) => impl_areAmplifiers_L1 fu list spans k s = some out') (fun (s : Int) (a : Act) (w : World) => match s with | i => Fr a 41 [(0, (.slice A list.length c)), (1, (.int .i64 spans)), (7, (.slice A list.length c)), (8, (.int .i64 (list.length : Int))), (9, (.int .i64 i))] ∧ Mem ⟨w0, []⟩ S [] [] [] [(false, MP.val [(.slice A list.length c)] (list : List Amplifier))] w) (fun s h => by cases h) ?_ fu 0 a w0 hB1 hI
    rintro fk i a w hR1 hI
    replace hR1 : impl_areAmplifiers_L1 fu list spans (fk + 1) i = some out' := hR1
    rw [impl_areAmplifiers_L1] at hR1
    obtain ⟨hf, H⟩ := hI
    refine sq ?_
    refine reg ?_
    refine pRun_ok (tb := tab) (n := 41) tabOk 1 _ _ hf rfl rfl fun a hf => ?_
    refine wl_end ?_
    refine then_n ?_
    refine sq ?_
    refine (Bool.eq_false_or_eq_true (decide (i < (list.length : Int)))).elim (fun hc => ?_) (fun hc => ?_)
    · rw [if_pos hc] at hR1
      refine cd_t hf rfl hc ?_
      refine wp_skip ?_
      refine then_n ?_
      refine sq ?_
      refine wp_block ?_
      refine sq ?_
      refine reg ?_
      refine pRun_ok (tb := tab) (n := 41) tabOk 1 _ _ hf rfl rfl fun a hf => ?_
      obtain ⟨e, he, hR1⟩ := bind_some hR1
      refine wl0 rfl (op_iaddr hf H Try.underlying63 TF.sz88 0 rfl rfl rfl he (by decide) fun p o cs a hf hr H => ?_)
      obtain rfl := Amplifier_cells hr
      refine wl0 rfl (op_q hf (rq_loadIN hf H TF.la88 0 0 rfl rfl rfl rfl) rfl (by decide) fun a hf => ?_)
      refine wl0 rfl (op_alloc hf H TF.zv88 rfl (by decide) fun b' a w hf H => ?_)
      refine pRun_ok (tb := tab) (n := 41) tabOk 1 _ _ hf rfl rfl fun a hf => ?_
      refine wl0 rfl (op_storeB hf H 0 TF.sz88 rfl rfl rfl rfl rfl rfl (nle rfl) fun w H => ?_)
      refine wl_end ?_
      refine then_n ?_
      refine sq ?_
      refine drawn [] (bs := [false, false, false, false, false, false, false, false, false, false, false, false, false, false, false, false, false, false, false, false, false, false, false, false, false, false]) (fuel := 26) (Checked.mixed Try.checked) rfl rfl fun w hb => ?_
      have H := H.keep hb
      refine str (fun w => Mem ⟨w0, []⟩ S [⟨b', 88, [(.int .i64 e.After), (.int .i64 e.Gain), (.int .i64 e.Output), (.int .i64 e.Noise)]⟩] [] [] [(false, MP.cells ⟨p, o, none⟩ [(.int .i64 e.After), (.int .i64 e.Gain), (.int .i64 e.Output), (.int .i64 e.Noise)]), (false, MP.val [(.slice A list.length c)] (list : List Amplifier))] w) (fun w H => trivial) ?_
      have hS : Mem ⟨w0, []⟩ S [⟨b', 88, [(.int .i64 e.After), (.int .i64 e.Gain), (.int .i64 e.Output), (.int .i64 e.Noise)]⟩] [] [] [(false, MP.cells ⟨p, o, none⟩ [(.int .i64 e.After), (.int .i64 e.Gain), (.int .i64 e.Output), (.int .i64 e.Noise)]), (false, MP.val [(.slice A list.length c)] (list : List Amplifier))] w := H.let [true] [] [] [0, 1]
      refine tkS (i := 0) (bs' := [true, false, false, false, false, false, false, false, false, false, false, false, false, false, false, false, false, false, false, false, false, false, false, false, false, false]) [] rfl rfl rfl (by decide) hf (by kernel_rfl) (by kernel_rfl) hS (fun w H => rq_loadBN hf H TF.la88 0 rfl rfl rfl rfl) rfl fun a hf => ?_
      obtain ⟨y, hy, hR1⟩ := bind_some hR1
      refine on1 (i := 1) (bs' := [true, true, false, false, false, false, false, false, false, false, false, false, false, false, false, false, false, false, false, false, false, false, false, false, false, false]) (by kernel_rfl) rfl rfl rfl (op_call hf TF.cl142 rfl (by decide) (impl_isAmplifier_ok (S := fun _ => True) Amplifier_mkv hy) fun v w a hp hf => ?_)
      obtain ⟨hb, hp⟩ := hp
      obtain rfl := VR_bool hp
      have H := H.keep hb
      have hS : Mem ⟨w0, []⟩ S [⟨b', 88, [(.int .i64 e.After), (.int .i64 e.Gain), (.int .i64 e.Output), (.int .i64 e.Noise)]⟩] [] [] [(false, MP.cells ⟨p, o, none⟩ [(.int .i64 e.After), (.int .i64 e.Gain), (.int .i64 e.Output), (.int .i64 e.Noise)]), (false, MP.val [(.slice A list.length c)] (list : List Amplifier))] w := H.let [true] [] [] [0, 1]
      refine ⟨fun _ => hS, ?_⟩
      refine tkP (i := 2) (bs' := [true, true, true, false, false, false, false, false, false, false, false, false, false, false, false, false, false, false, false, false, false, false, false, false, false, false]) rfl rfl rfl (by decide) hf (by kernel_rfl) (fun _ => hS) (fun w => pOp_ok (tb := tab) tabOk hf rfl) rfl fun a hf => ?_
      refine tkP (i := 3) (bs' := [true, true, true, true, false, false, false, false, false, false, false, false, false, false, false, false, false, false, false, false, false, false, false, false, false, false]) rfl rfl rfl (by decide) hf (by kernel_rfl) (fun _ => hS) (fun w => pOp_ok (tb := tab) tabOk hf rfl) rfl fun a hf => ?_
      refine (Bool.eq_false_or_eq_true (!y)).elim (fun hc2 => ?_) (fun hc2 => ?_)
      · rw [if_pos hc2] at hR1
        have hf := hf.lit 17 rfl hc2
        refine tkU (i := 4) (bs' := [true, true, true, true, true, false, false, false, false, false, false, false, false, false, false, false, false, false, false, false, false, false, false, false, false, false]) rfl rfl rfl rfl rfl rfl (by decide) hf (by kernel_rfl) (fun _ => hS) rfl fun a hf => ?_
        refine tkU (i := 5) (bs' := [true, true, true, true, true, true, false, false, false, false, false, false, false, false, false, false, false, false, false, false, false, false, false, false, false, false]) rfl rfl rfl rfl rfl rfl (by decide) hf (by kernel_rfl) (fun _ => hS) rfl fun a hf => ?_
        refine tkU (i := 6) (bs' := [true, true, true, true, true, true, true, false, false, false, false, false, false, false, false, false, false, false, false, false, false, false, false, false, false, false]) rfl rfl rfl rfl rfl rfl (by decide) hf (by kernel_rfl) (fun _ => hS) rfl fun a hf => ?_
        refine tkU (i := 7) (bs' := [true, true, true, true, true, true, true, true, false, false, false, false, false, false, false, false, false, false, false, false, false, false, false, false, false, false]) rfl rfl rfl rfl rfl rfl (by decide) hf (by kernel_rfl) (fun _ => hS) rfl fun a hf => ?_
        refine tkU (i := 8) (bs' := [true, true, true, true, true, true, true, true, true, false, false, false, false, false, false, false, false, false, false, false, false, false, false, false, false, false]) rfl rfl rfl rfl rfl rfl (by decide) hf (by kernel_rfl) (fun _ => hS) rfl fun a hf => ?_
        refine tkU (i := 9) (bs' := [true, true, true, true, true, true, true, true, true, true, false, false, false, false, false, false, false, false, false, false, false, false, false, false, false, false]) rfl rfl rfl rfl rfl rfl (by decide) hf (by kernel_rfl) (fun _ => hS) rfl fun a hf => ?_
        refine tkP (i := 10) (bs' := [true, true, true, true, true, true, true, true, true, true, true, false, false, false, false, false, false, false, false, false, false, false, false, false, false, false]) rfl rfl rfl (by decide) hf (by kernel_rfl) (fun _ => hS) (fun w => pOp_ok (tb := tab) tabOk hf rfl) rfl fun a hf => ?_
        refine tkP (i := 11) (bs' := [true, true, true, true, true, true, true, true, true, true, true, true, false, false, false, false, false, false, false, false, false, false, false, false, false, false]) rfl rfl rfl (by decide) hf (by kernel_rfl) (fun _ => hS) (fun w => pOp_ok (tb := tab) tabOk hf rfl) rfl fun a hf => ?_
        refine tkU (i := 12) (bs' := [true, true, true, true, true, true, true, true, true, true, true, true, true, false, false, false, false, false, false, false, false, false, false, false, false, false]) rfl rfl rfl rfl rfl rfl (by decide) hf (by kernel_rfl) (fun _ => hS) rfl fun a hf => ?_
        refine tkU (i := 13) (bs' := [true, true, true, true, true, true, true, true, true, true, true, true, true, true, false, false, false, false, false, false, false, false, false, false, false, false]) rfl rfl rfl rfl rfl rfl (by decide) hf (by kernel_rfl) (fun _ => hS) rfl fun a hf => ?_
        refine tkU (i := 14) (bs' := [true, true, true, true, true, true, true, true, true, true, true, true, true, true, true, false, false, false, false, false, false, false, false, false, false, false]) rfl rfl rfl rfl rfl rfl (by decide) hf (by kernel_rfl) (fun _ => hS) rfl fun a hf => ?_
        refine tkUU (i := 15) (bs' := [true, true, true, true, true, true, true, true, true, true, true, true, true, true, true, true, false, false, false, false, false, false, false, false, false, false]) rfl rfl rfl rfl rfl (by decide) hf (by kernel_rfl) (fun _ => hS) rfl fun a hf => ?_
        refine tkUU (i := 16) (bs' := [true, true, true, true, true, true, true, true, true, true, true, true, true, true, true, true, true, false, false, false, false, false, false, false, false, false]) rfl rfl rfl rfl rfl (by decide) hf (by kernel_rfl) (fun _ => hS) rfl fun a hf => ?_
        refine tkUU (i := 17) (bs' := [true, true, true, true, true, true, true, true, true, true, true, true, true, true, true, true, true, true, false, false, false, false, false, false, false, false]) rfl rfl rfl rfl rfl (by decide) hf (by kernel_rfl) (fun _ => hS) rfl fun a hf => ?_
        refine tkUU (i := 18) (bs' := [true, true, true, true, true, true, true, true, true, true, true, true, true, true, true, true, true, true, true, false, false, false, false, false, false, false]) rfl rfl rfl rfl rfl (by decide) hf (by kernel_rfl) (fun _ => hS) rfl fun a hf => ?_
        refine tkUU (i := 19) (bs' := [true, true, true, true, true, true, true, true, true, true, true, true, true, true, true, true, true, true, true, true, false, false, false, false, false, false]) rfl rfl rfl rfl rfl (by decide) hf (by kernel_rfl) (fun _ => hS) rfl fun a hf => ?_
        refine tkUU (i := 20) (bs' := [true, true, true, true, true, true, true, true, true, true, true, true, true, true, true, true, true, true, true, true, true, false, false, false, false, false]) rfl rfl rfl rfl rfl (by decide) hf (by kernel_rfl) (fun _ => hS) rfl fun a hf => ?_
        refine tkUU (i := 21) (bs' := [true, true, true, true, true, true, true, true, true, true, true, true, true, true, true, true, true, true, true, true, true, true, false, false, false, false]) rfl rfl rfl rfl rfl (by decide) hf (by kernel_rfl) (fun _ => hS) rfl fun a hf => ?_
        refine tkUU (i := 22) (bs' := [true, true, true, true, true, true, true, true, true, true, true, true, true, true, true, true, true, true, true, true, true, true, true, false, false, false]) rfl rfl rfl rfl rfl (by decide) hf (by kernel_rfl) (fun _ => hS) rfl fun a hf => ?_
        refine tkUU (i := 23) (bs' := [true, true, true, true, true, true, true, true, true, true, true, true, true, true, true, true, true, true, true, true, true, true, true, true, false, false]) rfl rfl rfl rfl rfl (by decide) hf (by kernel_rfl) (fun _ => hS) rfl fun a hf => ?_
        refine tkU (i := 24) (bs' := [true, true, true, true, true, true, true, true, true, true, true, true, true, true, true, true, true, true, true, true, true, true, true, true, true, false]) rfl rfl rfl rfl rfl rfl (by decide) hf (by kernel_rfl) (fun _ => hS) rfl fun a hf => ?_
        refine tkP (i := 25) (bs' := [true, true, true, true, true, true, true, true, true, true, true, true, true, true, true, true, true, true, true, true, true, true, true, true, true, true]) rfl rfl rfl (by decide) hf (by kernel_rfl) (fun _ => hS) (fun w => pOp_ok (tb := tab) tabOk hf rfl) rfl fun a hf => ?_
        refine dn (by kernel_rfl) ?_
        have hf := hf.prune [0, 1, 7, 8, 9, 39] rfl
        refine then_n ?_
        refine cd_t hf rfl rfl ?_
        refine sq ?_
        refine reg ?_
        refine pRun_ok (tb := tab) (n := 41) tabOk 1 _ _ hf rfl rfl fun a hf => ?_
        refine wl_end ?_
        refine then_n ?_
        refine wp_ret (blk_r (then_r (then_r (blk_r (then_r (then_r (?_)))))))
        obtain rfl := Option.some.inj hR1
        replace hF := on_ret hF
        obtain rfl := Option.some.inj hF
        refine ret_1 (fn := Try.f121) (r := .tmp 4) hf rfl (rv_tmp hf rfl) ?_
        exact ⟨_, rfl, H.bel, mk_bool⟩
      · rw [if_neg (nt hc2)] at hR1
        have hf := hf.lit 17 rfl hc2
        refine tkPg (i := 4) (bs' := [true, true, true, true, true, false, false, false, false, false, false, false, false, false, false, false, false, false, false, false, false, false, false, false, false, false]) rfl rfl rfl rfl rfl (by decide) hf (by kernel_rfl) (fun _ => hS) (fun w => pOp_ok (tb := tab) tabOk hf rfl) rfl fun a hf => ?_
        refine tkSg (i := 5) (bs' := [true, true, true, true, true, true, false, false, false, false, false, false, false, false, false, false, false, false, false, false, false, false, false, false, false, false]) [] rfl rfl rfl rfl rfl (by decide) hf (by kernel_rfl) (by kernel_rfl) hS (fun w H => rq_loadB hf H TF.ls3 0 rfl rfl rfl) rfl fun a hf => ?_
        refine tkPg (i := 6) (bs' := [true, true, true, true, true, true, true, false, false, false, false, false, false, false, false, false, false, false, false, false, false, false, false, false, false, false]) rfl rfl rfl rfl rfl (by decide) hf (by kernel_rfl) (fun _ => hS) (fun w => pOp_ok (tb := tab) tabOk hf rfl) rfl fun a hf => ?_
        refine tkPg (i := 7) (bs' := [true, true, true, true, true, true, true, true, false, false, false, false, false, false, false, false, false, false, false, false, false, false, false, false, false, false]) rfl rfl rfl rfl rfl (by decide) hf (by kernel_rfl) (fun _ => hS) (fun w => pOp_ok (tb := tab) tabOk hf rfl) rfl fun a hf => ?_
        obtain ⟨y2, hy2, hR1⟩ := bind_some hR1
        refine on1g (i := 8) (bs' := [true, true, true, true, true, true, true, true, true, false, false, false, false, false, false, false, false, false, false, false, false, false, false, false, false, false]) (by kernel_rfl) rfl rfl rfl rfl hf rfl (op_call hf TF.cl98 rfl (by decide) (impl_within_ok (S := fun _ => True) mk_int mk_int mk_int hy2) fun v2 w a hp2 hf => ?_)
        obtain ⟨hb2, hp2⟩ := hp2
        obtain rfl := VR_bool hp2
        have H := H.keep hb2
        have hS : Mem ⟨w0, []⟩ S [⟨b', 88, [(.int .i64 e.After), (.int .i64 e.Gain), (.int .i64 e.Output), (.int .i64 e.Noise)]⟩] [] [] [(false, MP.cells ⟨p, o, none⟩ [(.int .i64 e.After), (.int .i64 e.Gain), (.int .i64 e.Output), (.int .i64 e.Noise)]), (false, MP.val [(.slice A list.length c)] (list : List Amplifier))] w := H.let [true] [] [] [0, 1]
        refine ⟨fun _ => hS, ?_⟩
        refine tkPg (i := 9) (bs' := [true, true, true, true, true, true, true, true, true, true, false, false, false, false, false, false, false, false, false, false, false, false, false, false, false, false]) rfl rfl rfl rfl rfl (by decide) hf (by kernel_rfl) (fun _ => hS) (fun w => pOp_ok (tb := tab) tabOk hf rfl) rfl fun a hf => ?_
        refine tkP (i := 10) (bs' := [true, true, true, true, true, true, true, true, true, true, true, false, false, false, false, false, false, false, false, false, false, false, false, false, false, false]) rfl rfl rfl (by decide) hf (by kernel_rfl) (fun _ => hS) (fun w => pOp_ok (tb := tab) tabOk hf rfl) rfl fun a hf => ?_
        refine tkP (i := 11) (bs' := [true, true, true, true, true, true, true, true, true, true, true, true, false, false, false, false, false, false, false, false, false, false, false, false, false, false]) rfl rfl rfl (by decide) hf (by kernel_rfl) (fun _ => hS) (fun w => pOp_ok (tb := tab) tabOk hf rfl) rfl fun a hf => ?_
        refine (Bool.eq_false_or_eq_true (!y2)).elim (fun hc3 => ?_) (fun hc3 => ?_)
        · rw [if_pos hc3] at hR1
          have hf := hf.lit 25 rfl hc3
          refine tkU (i := 12) (bs' := [true, true, true, true, true, true, true, true, true, true, true, true, true, false, false, false, false, false, false, false, false, false, false, false, false, false]) rfl rfl rfl rfl rfl rfl (by decide) hf (by kernel_rfl) (fun _ => hS) rfl fun a hf => ?_
          refine tkU (i := 13) (bs' := [true, true, true, true, true, true, true, true, true, true, true, true, true, true, false, false, false, false, false, false, false, false, false, false, false, false]) rfl rfl rfl rfl rfl rfl (by decide) hf (by kernel_rfl) (fun _ => hS) rfl fun a hf => ?_
          refine tkU (i := 14) (bs' := [true, true, true, true, true, true, true, true, true, true, true, true, true, true, true, false, false, false, false, false, false, false, false, false, false, false]) rfl rfl rfl rfl rfl rfl (by decide) hf (by kernel_rfl) (fun _ => hS) rfl fun a hf => ?_
          refine tkUU (i := 15) (bs' := [true, true, true, true, true, true, true, true, true, true, true, true, true, true, true, true, false, false, false, false, false, false, false, false, false, false]) rfl rfl rfl rfl rfl (by decide) hf (by kernel_rfl) (fun _ => hS) rfl fun a hf => ?_
          refine tkUU (i := 16) (bs' := [true, true, true, true, true, true, true, true, true, true, true, true, true, true, true, true, true, false, false, false, false, false, false, false, false, false]) rfl rfl rfl rfl rfl (by decide) hf (by kernel_rfl) (fun _ => hS) rfl fun a hf => ?_
          refine tkUU (i := 17) (bs' := [true, true, true, true, true, true, true, true, true, true, true, true, true, true, true, true, true, true, false, false, false, false, false, false, false, false]) rfl rfl rfl rfl rfl (by decide) hf (by kernel_rfl) (fun _ => hS) rfl fun a hf => ?_
          refine tkUU (i := 18) (bs' := [true, true, true, true, true, true, true, true, true, true, true, true, true, true, true, true, true, true, true, false, false, false, false, false, false, false]) rfl rfl rfl rfl rfl (by decide) hf (by kernel_rfl) (fun _ => hS) rfl fun a hf => ?_
          refine tkUU (i := 19) (bs' := [true, true, true, true, true, true, true, true, true, true, true, true, true, true, true, true, true, true, true, true, false, false, false, false, false, false]) rfl rfl rfl rfl rfl (by decide) hf (by kernel_rfl) (fun _ => hS) rfl fun a hf => ?_
          refine tkUU (i := 20) (bs' := [true, true, true, true, true, true, true, true, true, true, true, true, true, true, true, true, true, true, true, true, true, false, false, false, false, false]) rfl rfl rfl rfl rfl (by decide) hf (by kernel_rfl) (fun _ => hS) rfl fun a hf => ?_
          refine tkUU (i := 21) (bs' := [true, true, true, true, true, true, true, true, true, true, true, true, true, true, true, true, true, true, true, true, true, true, false, false, false, false]) rfl rfl rfl rfl rfl (by decide) hf (by kernel_rfl) (fun _ => hS) rfl fun a hf => ?_
          refine tkUU (i := 22) (bs' := [true, true, true, true, true, true, true, true, true, true, true, true, true, true, true, true, true, true, true, true, true, true, true, false, false, false]) rfl rfl rfl rfl rfl (by decide) hf (by kernel_rfl) (fun _ => hS) rfl fun a hf => ?_
          refine tkUU (i := 23) (bs' := [true, true, true, true, true, true, true, true, true, true, true, true, true, true, true, true, true, true, true, true, true, true, true, true, false, false]) rfl rfl rfl rfl rfl (by decide) hf (by kernel_rfl) (fun _ => hS) rfl fun a hf => ?_
          refine tkU (i := 24) (bs' := [true, true, true, true, true, true, true, true, true, true, true, true, true, true, true, true, true, true, true, true, true, true, true, true, true, false]) rfl rfl rfl rfl rfl rfl (by decide) hf (by kernel_rfl) (fun _ => hS) rfl fun a hf => ?_
          refine tkP (i := 25) (bs' := [true, true, true, true, true, true, true, true, true, true, true, true, true, true, true, true, true, true, true, true, true, true, true, true, true, true]) rfl rfl rfl (by decide) hf (by kernel_rfl) (fun _ => hS) (fun w => pOp_ok (tb := tab) tabOk hf rfl) rfl fun a hf => ?_
          refine dn (by kernel_rfl) ?_
          have hf := hf.prune [0, 1, 7, 8, 9, 18, 19, 20, 21, 22, 23, 39] rfl
          refine then_n ?_
          refine cd_t hf rfl rfl ?_
          refine sq ?_
          refine reg ?_
          refine pRun_ok (tb := tab) (n := 41) tabOk 1 _ _ hf rfl rfl fun a hf => ?_
          refine wl_end ?_
          refine then_n ?_
          refine wp_ret (blk_r (then_r (then_r (blk_r (then_r (then_r (?_)))))))
          obtain rfl := Option.some.inj hR1
          replace hF := on_ret hF
          obtain rfl := Option.some.inj hF
          refine ret_1 (fn := Try.f121) (r := .tmp 4) hf rfl (rv_tmp hf rfl) ?_
          exact ⟨_, rfl, H.bel, mk_bool⟩
        · rw [if_neg (nt hc3)] at hR1
          have hf := hf.lit 25 rfl hc3
          refine tkPg (i := 12) (bs' := [true, true, true, true, true, true, true, true, true, true, true, true, true, false, false, false, false, false, false, false, false, false, false, false, false, false]) rfl rfl rfl rfl rfl (by decide) hf (by kernel_rfl) (fun _ => hS) (fun w => pOp_ok (tb := tab) tabOk hf rfl) rfl fun a hf => ?_
          refine tkPg (i := 13) (bs' := [true, true, true, true, true, true, true, true, true, true, true, true, true, true, false, false, false, false, false, false, false, false, false, false, false, false]) rfl rfl rfl rfl rfl (by decide) hf (by kernel_rfl) (fun _ => hS) (fun w => pOp_ok (tb := tab) tabOk hf rfl) rfl fun a hf => ?_
          refine tkPg (i := 14) (bs' := [true, true, true, true, true, true, true, true, true, true, true, true, true, true, true, false, false, false, false, false, false, false, false, false, false, false]) rfl rfl rfl rfl rfl (by decide) hf (by kernel_rfl) (fun _ => hS) (fun w => pOp_ok (tb := tab) tabOk hf rfl) rfl fun a hf => ?_
          refine (Bool.eq_false_or_eq_true (decide (i > 0))).elim (fun hc4 => ?_) (fun hc4 => ?_)
          · rw [if_pos hc4] at hR1
            have hf := hf.lit 28 rfl hc4
            refine tkPg (i := 15) (bs' := [true, true, true, true, true, true, true, true, true, true, true, true, true, true, true, true, false, false, false, false, false, false, false, false, false, false]) rfl rfl rfl rfl rfl (by decide) hf (by kernel_rfl) (fun _ => hS) (fun w => pOp_ok (tb := tab) tabOk hf rfl) rfl fun a hf => ?_
            refine tkPg (i := 16) (bs' := [true, true, true, true, true, true, true, true, true, true, true, true, true, true, true, true, true, false, false, false, false, false, false, false, false, false]) rfl rfl rfl rfl rfl (by decide) hf (by kernel_rfl) (fun _ => hS) (fun w => pOp_ok (tb := tab) tabOk hf rfl) rfl fun a hf => ?_
            refine tkPg (i := 17) (bs' := [true, true, true, true, true, true, true, true, true, true, true, true, true, true, true, true, true, true, false, false, false, false, false, false, false, false]) rfl rfl rfl rfl rfl (by decide) hf (by kernel_rfl) (fun _ => hS) (fun w => pOp_ok (tb := tab) tabOk hf rfl) rfl fun a hf => ?_
            obtain ⟨e2, he2, hR1⟩ := bind_some hR1
            obtain ⟨p2, o2, cs2, hx, hr2, H⟩ := pre_iaddr H Try.underlying63 TF.sz88 1 rfl he2
            refine tkPg (i := 18) (bs' := [true, true, true, true, true, true, true, true, true, true, true, true, true, true, true, true, true, true, true, false, false, false, false, false, false, false]) rfl rfl rfl rfl rfl (by decide) hf (by kernel_rfl) (fun _ => hS) (fun w => rq_iaddrE hf rfl rfl rfl hx w) rfl fun a hf => ?_
            obtain rfl := Amplifier_cells hr2
            refine tkPg (i := 19) (bs' := [true, true, true, true, true, true, true, true, true, true, true, true, true, true, true, true, true, true, true, true, false, false, false, false, false, false]) rfl rfl rfl rfl rfl (by decide) hf (by kernel_rfl) (fun _ => hS) (fun w => pOp_ok (tb := tab) tabOk hf rfl) rfl fun a hf => ?_
            refine str (fun w => Mem ⟨w0, []⟩ S [⟨b', 88, [(.int .i64 e.After), (.int .i64 e.Gain), (.int .i64 e.Output), (.int .i64 e.Noise)]⟩] [] [] [(false, MP.cells ⟨p2, o2, none⟩ [(.int .i64 e2.After), (.int .i64 e2.Gain), (.int .i64 e2.Output), (.int .i64 e2.Noise)]), (false, MP.cells ⟨p, o, none⟩ [(.int .i64 e.After), (.int .i64 e.Gain), (.int .i64 e.Output), (.int .i64 e.Noise)]), (false, MP.val [(.slice A list.length c)] (list : List Amplifier))] w) (fun w H => H.let [true] [] [] [1, 2]) ?_
            have hS : Mem ⟨w0, []⟩ S [⟨b', 88, [(.int .i64 e.After), (.int .i64 e.Gain), (.int .i64 e.Output), (.int .i64 e.Noise)]⟩] [] [] [(false, MP.cells ⟨p2, o2, none⟩ [(.int .i64 e2.After), (.int .i64 e2.Gain), (.int .i64 e2.Output), (.int .i64 e2.Noise)]), (false, MP.cells ⟨p, o, none⟩ [(.int .i64 e.After), (.int .i64 e.Gain), (.int .i64 e.Output), (.int .i64 e.Noise)]), (false, MP.val [(.slice A list.length c)] (list : List Amplifier))] w := H.let [true] [] [] [0, 1, 2]
            refine tkSg (i := 20) (bs' := [true, true, true, true, true, true, true, true, true, true, true, true, true, true, true, true, true, true, true, true, true, false, false, false, false, false]) [] rfl rfl rfl rfl rfl (by decide) hf (by kernel_rfl) (by kernel_rfl) hS (fun w H => rq_loadI hf H TF.ls3 0 0 rfl rfl rfl) rfl fun a hf => ?_
            refine tkPg (i := 21) (bs' := [true, true, true, true, true, true, true, true, true, true, true, true, true, true, true, true, true, true, true, true, true, true, false, false, false, false]) rfl rfl rfl rfl rfl (by decide) hf (by kernel_rfl) (fun _ => hS) (fun w => pOp_ok (tb := tab) tabOk hf rfl) rfl fun a hf => ?_
            refine tkSg (i := 22) (bs' := [true, true, true, true, true, true, true, true, true, true, true, true, true, true, true, true, true, true, true, true, true, true, true, false, false, false]) [] rfl rfl rfl rfl rfl (by decide) hf (by kernel_rfl) (by kernel_rfl) hS (fun w H => rq_loadB hf H TF.ls3 0 rfl rfl rfl) rfl fun a hf => ?_
            refine tkPg (i := 23) (bs' := [true, true, true, true, true, true, true, true, true, true, true, true, true, true, true, true, true, true, true, true, true, true, true, true, false, false]) rfl rfl rfl rfl rfl (by decide) hf (by kernel_rfl) (fun _ => hS) (fun w => pOp_ok (tb := tab) tabOk hf rfl) rfl fun a hf => ?_
            refine tkPg (i := 24) (bs' := [true, true, true, true, true, true, true, true, true, true, true, true, true, true, true, true, true, true, true, true, true, true, true, true, true, false]) rfl rfl rfl rfl rfl (by decide) hf (by kernel_rfl) (fun _ => hS) (fun w => pOp_ok (tb := tab) tabOk hf rfl) rfl fun a hf => ?_
            refine tkP (i := 25) (bs' := [true, true, true, true, true, true, true, true, true, true, true, true, true, true, true, true, true, true, true, true, true, true, true, true, true, true]) rfl rfl rfl (by decide) hf (by kernel_rfl) (fun _ => hS) (fun w => pOp_ok (tb := tab) tabOk hf rfl) rfl fun a hf => ?_
            refine dn (by kernel_rfl) ?_
            refine then_n ?_
            refine (Bool.eq_false_or_eq_true (decide (e2.After ≥ e.After))).elim (fun hc5 => ?_) (fun hc5 => ?_)
            · rw [if_pos hc5] at hR1
              refine cd_t hf rfl hc5 ?_
              refine sq ?_
              refine reg ?_
              refine pRun_ok (tb := tab) (n := 41) tabOk 1 _ _ hf rfl rfl fun a hf => ?_
              have hf := hf.prune [4] rfl
              refine wl_end ?_
              refine then_n ?_
              refine wp_ret (blk_r (then_r (then_r (blk_r (then_r (then_r (?_)))))))
              obtain rfl := Option.some.inj hR1
              replace hF := on_ret hF
              obtain rfl := Option.some.inj hF
              refine ret_1 (fn := Try.f121) (r := .tmp 4) hf rfl (rv_tmp hf rfl) ?_
              exact ⟨_, rfl, H.bel, mk_bool⟩
            · rw [if_neg (nt hc5)] at hR1
              refine cd_f hf rfl hc5 ?_
              refine wp_skip ?_
              refine blk_n ?_
              refine then_n ?_
              refine reg ?_
              refine pRun_ok (tb := tab) (n := 41) tabOk 2 _ _ hf rfl rfl fun a hf => ?_
              have hf := hf.prune [0, 1, 7, 8, 9, 18, 19, 20, 21, 22, 23, 26, 27, 28, 29, 30, 31, 32, 33, 34, 35, 36, 37, 38] rfl
              refine wl_end ?_
              have hf := hf.prune [0, 1, 7, 8, 9] rfl
              have H := H.let [false] [] [] [2]
              exact then_n ⟨w64 (i + 1), hR1, hf, H⟩
          · rw [if_neg (nt hc4)] at hR1
            have hf := hf.lit 28 rfl hc4
            refine tkU (i := 15) (bs' := [true, true, true, true, true, true, true, true, true, true, true, true, true, true, true, true, false, false, false, false, false, false, false, false, false, false]) rfl rfl rfl rfl rfl rfl (by decide) hf (by kernel_rfl) (fun _ => hS) rfl fun a hf => ?_
            refine tkU (i := 16) (bs' := [true, true, true, true, true, true, true, true, true, true, true, true, true, true, true, true, true, false, false, false, false, false, false, false, false, false]) rfl rfl rfl rfl rfl rfl (by decide) hf (by kernel_rfl) (fun _ => hS) rfl fun a hf => ?_
            refine tkU (i := 17) (bs' := [true, true, true, true, true, true, true, true, true, true, true, true, true, true, true, true, true, true, false, false, false, false, false, false, false, false]) rfl rfl rfl rfl rfl rfl (by decide) hf (by kernel_rfl) (fun _ => hS) rfl fun a hf => ?_
            refine tkU (i := 18) (bs' := [true, true, true, true, true, true, true, true, true, true, true, true, true, true, true, true, true, true, true, false, false, false, false, false, false, false]) rfl rfl rfl rfl rfl rfl (by decide) hf (by kernel_rfl) (fun _ => hS) rfl fun a hf => ?_
            refine tkU (i := 19) (bs' := [true, true, true, true, true, true, true, true, true, true, true, true, true, true, true, true, true, true, true, true, false, false, false, false, false, false]) rfl rfl rfl rfl rfl rfl (by decide) hf (by kernel_rfl) (fun _ => hS) rfl fun a hf => ?_
            refine tkU (i := 20) (bs' := [true, true, true, true, true, true, true, true, true, true, true, true, true, true, true, true, true, true, true, true, true, false, false, false, false, false]) rfl rfl rfl rfl rfl rfl (by decide) hf (by kernel_rfl) (fun _ => hS) rfl fun a hf => ?_
            refine tkU (i := 21) (bs' := [true, true, true, true, true, true, true, true, true, true, true, true, true, true, true, true, true, true, true, true, true, true, false, false, false, false]) rfl rfl rfl rfl rfl rfl (by decide) hf (by kernel_rfl) (fun _ => hS) rfl fun a hf => ?_
            refine tkU (i := 22) (bs' := [true, true, true, true, true, true, true, true, true, true, true, true, true, true, true, true, true, true, true, true, true, true, true, false, false, false]) rfl rfl rfl rfl rfl rfl (by decide) hf (by kernel_rfl) (fun _ => hS) rfl fun a hf => ?_
            refine tkU (i := 23) (bs' := [true, true, true, true, true, true, true, true, true, true, true, true, true, true, true, true, true, true, true, true, true, true, true, true, false, false]) rfl rfl rfl rfl rfl rfl (by decide) hf (by kernel_rfl) (fun _ => hS) rfl fun a hf => ?_
            refine tkPg (i := 24) (bs' := [true, true, true, true, true, true, true, true, true, true, true, true, true, true, true, true, true, true, true, true, true, true, true, true, true, false]) rfl rfl rfl rfl rfl (by decide) hf (by kernel_rfl) (fun _ => hS) (fun w => pOp_ok (tb := tab) tabOk hf rfl) rfl fun a hf => ?_
            refine tkP (i := 25) (bs' := [true, true, true, true, true, true, true, true, true, true, true, true, true, true, true, true, true, true, true, true, true, true, true, true, true, true]) rfl rfl rfl (by decide) hf (by kernel_rfl) (fun _ => hS) (fun w => pOp_ok (tb := tab) tabOk hf rfl) rfl fun a hf => ?_
            refine dn (by kernel_rfl) ?_
            have hf := hf.prune [0, 1, 7, 8, 9, 18, 19, 20, 21, 22, 23, 26, 27, 28, 38, 39] rfl
            refine then_n ?_
            refine cd_f hf rfl rfl ?_
            refine wp_skip ?_
            refine blk_n ?_
            refine then_n ?_
            refine reg ?_
            refine pRun_ok (tb := tab) (n := 41) tabOk 2 _ _ hf rfl rfl fun a hf => ?_
            refine wl_end ?_
            have hf := hf.prune [0, 1, 7, 8, 9] rfl
            have H := H.let [false] [] [] [1]
            exact then_n ⟨w64 (i + 1), hR1, hf, H⟩
    · rw [if_neg (nt hc)] at hR1
      refine cd_f hf rfl hc ?_
      refine wp_exit (then_x (then_x (blk_e (?_))))
      have hf := hf.prune [0, 1, 7, 8, 9] rfl
      have H := H.let [] [] [] [0]
      exact ⟨i, (Option.some.inj hR1).symm, hf, H⟩
  rintro a w ⟨i2, rfl, hf, H⟩
  replace hF := on_next hF
  refine then_n ?_
  refine sq ?_
  refine reg ?_
  refine pRun_ok (tb := tab) (n := 41) tabOk 1 _ _ hf rfl rfl fun a hf => ?_
  refine wl_end ?_
  refine then_n ?_
  refine wp_ret (?_)
  obtain rfl := Option.some.inj hF
  refine ret_1 (fn := Try.f121) (r := .tmp 4) hf rfl (rv_tmp hf rfl) ?_
  exact ⟨_, rfl, H.bel, mk_bool⟩

/- loop.example/g00897/impl.profile -/
set_option maxHeartbeats 1000000 in
theorem impl_profile_ok {fu : Nat} {w0 : World} {S : Nat → Prop} {v0_ : Value} {v1_ : Value} {v2_ : Value} {line : List Span} {list : List Amplifier} {launch : Int} {r : List Int × List Int × Bool} (h0 : VR w0 S v0_ line) (h1 : VR w0 S v1_ list) (h2 : VR w0 S v2_ launch) (hF : impl_profile fu line list launch = some r) :
    Calls Try.prog 146 [v0_, v1_, v2_].toArray w0 fun e w' => ∃ v, e = .returned v ∧ (Below w0.heap.size w0 w' ∧ ∃ F0 F1, ∃ u0 u1 u2, v = .tuple #[u0, u1, u2] ∧ VO w' F0 u0 r.1 ∧ VO w' F1 u1 r.2.1 ∧ VR w' (St ⟨w0, []⟩ S [] [] [] true) u2 r.2.2 ∧ New w0 w' (F0 ++ F1)) := by
  obtain ⟨A, c, rfl, hl⟩ := VR_list h0
  obtain ⟨A2, c2, rfl, hl2⟩ := VR_list h1
  obtain rfl := VR_int h2
  have H := Mem.start ⟨w0, []⟩ S
  have H := H.pushArg (MP.val [(.slice A line.length c)] line) hl
  have H := H.pushArg (MP.val [(.slice A2 list.length c2)] list) hl2
  refine enter Try.func146 rfl rfl (nle rfl) rfl fun a hf => ?_
  rw [impl_profile] at hF
  refine sq ?_
  refine reg ?_
  refine pRun_ok (tb := tab) (n := 73) tabOk 3 _ _ hf rfl rfl fun a hf => ?_
  refine wl_end ?_
  refine then_n ?_
  refine sq ?_
  refine sq ?_
  obtain ⟨c3, hGc3, hF⟩ := bind_some hF
  refine mid (fun a w => Fr a 73 [(0, (.slice A line.length c)), (1, (.slice A2 list.length c2)), (2, (.int .i64 launch)), (30, (.bool c3))] ∧ Mem ⟨w0, []⟩ S [] [] [] [(false, MP.val [(.slice A2 list.length c2)] (list : List Amplifier)), (false, MP.val [(.slice A line.length c)] (line : List Span))] w) ?_ ?_
  · refine reg ?_
    refine pRun_ok (tb := tab) (n := 73) tabOk 1 _ _ hf rfl rfl fun a hf => ?_
    obtain ⟨y, hy, hGc3⟩ := bind_some hGc3
    refine wl0 rfl (op_call hf TF.cl141 rfl (by decide) (impl_isLine_ok (S := fun _ => True) (mk_list (rep_true (α := List Span) (H.get 1 rfl))) hy) fun v w a hp hf => ?_)
    obtain ⟨hb, hp⟩ := hp
    obtain rfl := VR_bool hp
    have H := H.keep hb
    refine pRun_ok (tb := tab) (n := 73) tabOk 2 _ _ hf rfl rfl fun a hf => ?_
    refine (Bool.eq_false_or_eq_true (!y)).elim (fun hc => ?_) (fun hc => ?_)
    · rw [if_pos hc] at hGc3
      have hf := hf.lit 19 rfl hc
      refine pRun_ok (tb := tab) (n := 73) tabOk 11 _ _ hf rfl rfl fun a hf => ?_
      obtain rfl := Option.some.inj hGc3
      have hf := hf.prune [0, 1, 2, 30] rfl
      have H := H.let [] [] [] [0, 1]
      exact wl_end ⟨hf, H⟩
    · rw [if_neg (nt hc)] at hGc3
      have hf := hf.lit 19 rfl hc
      refine pRun_ok (tb := tab) (n := 73) tabOk 3 _ _ hf rfl rfl fun a hf => ?_
      obtain ⟨y2, hy2, hGc3⟩ := bind_some hGc3
      refine wlg hf rfl rfl rfl (op_call hf TF.cl121 rfl (by decide) (impl_areAmplifiers_ok (S := fun _ => True) (mk_list (rep_true (α := List Amplifier) (H.get 0 rfl))) mk_int hy2) fun v2 w a hp2 hf => ?_)
      obtain ⟨hb2, hp2⟩ := hp2
      obtain rfl := VR_bool hp2
      have H := H.keep hb2
      refine pRun_ok (tb := tab) (n := 73) tabOk 3 _ _ hf rfl rfl fun a hf => ?_
      refine (Bool.eq_false_or_eq_true (!y2)).elim (fun hc2 => ?_) (fun hc2 => ?_)
      · rw [if_pos hc2] at hGc3
        have hf := hf.lit 26 rfl hc2
        refine pRun_ok (tb := tab) (n := 73) tabOk 4 _ _ hf rfl rfl fun a hf => ?_
        obtain rfl := Option.some.inj hGc3
        have hf := hf.prune [0, 1, 2, 30] rfl
        have H := H.let [] [] [] [0, 1]
        exact wl_end ⟨hf, H⟩
      · rw [if_neg (nt hc2)] at hGc3
        have hf := hf.lit 26 rfl hc2
        refine pRun_ok (tb := tab) (n := 73) tabOk 1 _ _ hf rfl rfl fun a hf => ?_
        obtain ⟨y3, hy3, hGc3⟩ := bind_some hGc3
        refine wlg hf rfl rfl rfl (op_call hf TF.cl107 rfl (by decide) (impl_isLevel_ok (S := fun _ => True) mk_int hy3) fun v3 w a hp3 hf => ?_)
        obtain ⟨hb3, hp3⟩ := hp3
        obtain rfl := VR_bool hp3
        have H := H.keep hb3
        refine pRun_ok (tb := tab) (n := 73) tabOk 2 _ _ hf rfl rfl fun a hf => ?_
        obtain rfl := Option.some.inj hGc3
        have hf := hf.prune [0, 1, 2, 30] rfl
        have H := H.let [] [] [] [0, 1]
        exact wl_end ⟨hf, H⟩
  rintro a w ⟨hf, H⟩
  refine then_n ?_
  refine (Bool.eq_false_or_eq_true (c3)).elim (fun hc3 => ?_) (fun hc3 => ?_)
  · rw [if_pos hc3] at hF
    refine cd_t hf rfl hc3 ?_
    refine sq ?_
    refine reg ?_
    refine pRun_ok (tb := tab) (n := 73) tabOk 3 _ _ hf rfl rfl fun a hf => ?_
    refine wl_end ?_
    refine then_n ?_
    refine wp_ret (then_r (?_))
    have H := H.ownNil (Int)
    have H := H.lend 0 rfl
    have H := H.ownNil (Int)
    have H := H.lend 0 rfl
    have H := H.frontD 1 rfl
    obtain rfl := Option.some.inj hF
    refine ret_3 (fn := Try.f146) (r := .tmp 6) (s := .tmp 7) (t := .tmp 8) hf rfl (rv_tmp hf rfl) (rv_tmp hf rfl) (rv_tmp hf rfl) ?_
    have hN := H.ends (X := [(⟨[], MP.own [] [(.slice none 0 0)] ([] : List Int)⟩ : DI), (⟨[], MP.own [] [(.slice none 0 0)] ([] : List Int)⟩ : DI)])
    simp only [List.flatMap_cons, List.flatMap_nil, List.append_nil, List.append_assoc] at hN
    exact ⟨_, rfl, H.bel, [], [], _, _, _, rfl, (mko_list (H.ownAt 0 rfl)), (mko_list (H.ownAt 1 rfl)), mk_bool, hN⟩
  · rw [if_neg (nt hc3)] at hF
    refine cd_f hf rfl hc3 ?_
    refine wp_skip ?_
    refine then_n ?_
    refine sq ?_
    refine reg ?_
    refine wl0 rfl (op_bslice hf H (.sh true) rfl 3 ([] : List Int) [] rfl (fun w => by kernel_rfl) rfl (by decide) rfl trivial el0 (by decide) fun A3 a w hf H => ?_)
    refine wl0 rfl (op_bslice hf H (.sh true) rfl 3 ([] : List Int) [] rfl (fun w => by kernel_rfl) rfl (by decide) rfl trivial el0 (by decide) fun A4 a w hf H => ?_)
    refine pRun_ok (tb := tab) (n := 73) tabOk 4 _ _ hf rfl rfl fun a hf => ?_
    refine wl_end ?_
    refine then_n ?_
    refine sq ?_
    refine sq ?_
    refine reg ?_
    refine pRun_ok (tb := tab) (n := 73) tabOk 3 _ _ hf rfl rfl fun a hf => ?_
    refine wl_end ?_
    refine then_n ?_
    obtain ⟨out', hB1, hF⟩ := bind_some hF
    have hf := hf.prune [1, 9, 10, 11, 34, 35, 36] rfl
    have H := H.let [] [true, true] [] [0, 1]
    have hI : (fun (s : List Int × List Int × Int × Int) (a : Act) (w : World) => match s with | (before, after, level, i) => ∃ (A5 : Option Addr) (c4 : Nat) (A6 : Option Addr) (c5 : Nat), Fr a 73 [(1, (.slice A2 list.length c2)), (9, (.slice A5 before.length c4)), (10, (.slice A6 after.length c5)), (11, (.int .i64 level)), (34, (.slice A line.length c)), (35, (.int .i64 (line.length : Int))), (36, (.int .i64 i))] ∧ Mem ⟨w0, []⟩ S [] [⟨.sh true, 3, A6, c5, (after : List Int)⟩, ⟨.sh true, 3, A5, c4, (before : List Int)⟩] [] [(false, MP.val [(.slice A2 list.length c2)] (list : List Amplifier)), (false, MP.val [(.slice A line.length c)] (line : List Span))] w) (([] : List Int), ([] : List Int), launch, 0) a w := ⟨A3, 0, A4, 0, hf, H⟩
    refine mid (fun a w => ∃ s : List Int × List Int × Int × Int, out' = Out.next s ∧ (fun (s : List Int × List Int × Int × Int) (a : Act) (w : World) => match s with | (before, after, level, i) => ∃ (A5 : Option Addr) (c4 : Nat) (A6 : Option Addr) (c5 : Nat), Fr a 73 [(1, (.slice A2 list.length c2)), (9, (.slice A5 before.length c4)), (10, (.slice A6 after.length c5)), (11, (.int .i64 level)), (34, (.slice A line.length c)), (35, (.int .i64 (line.length : Int))), (36, (.int .i64 i))] ∧ Mem ⟨w0, []⟩ S [] [⟨.sh true, 3, A6, c5, (after : List Int)⟩, ⟨.sh true, 3, A5, c4, (before : List Int)⟩] [] [(false, MP.val [(.slice A2 list.length c2)] (list : List Amplifier)), (false, MP.val [(.slice A line.length c)] (line : List Span))] w) s a w) ?_ ?_
    · refine wp_block ?_
      refine loop_rule (fun k (s : List Int × List Int × Int × Int) => impl_profile_L1 fu line list k s.1 s.2.1 s.2.2.1 s.2.2.2 = some out') (fun (s : List Int × List Int × Int × Int) (a : Act) (w : World) => match s with | (before, after, level, i) => ∃ (A5 : Option Addr) (c4 : Nat) (A6 : Option Addr) (c5 : Nat), Fr a 73 [(1, (.slice A2 list.length c2)), (9, (.slice A5 before.length c4)), (10, (.slice A6 after.length c5)), (11, (.int .i64 level)), (34, (.slice A line.length c)), (35, (.int .i64 (line.length : Int))), (36, (.int .i64 i))] ∧ Mem ⟨w0, []⟩ S [] [⟨.sh true, 3, A6, c5, (after : List Int)⟩, ⟨.sh true, 3, A5, c4, (before : List Int)⟩] [] [(false, MP.val [(.slice A2 list.length c2)] (list : List Amplifier)), (false, MP.val [(.slice A line.length c)] (line : List Span))] w) (fun s h => by cases h) ?_ fu (([] : List Int), ([] : List Int), launch, 0) a w hB1 hI
      rintro fk ⟨before, after, level, i⟩ a w hR1 hI
      replace hR1 : impl_profile_L1 fu line list (fk + 1) before after level i = some out' := hR1
      rw [impl_profile_L1] at hR1
      obtain ⟨A5, c4, A6, c5, hf, H⟩ := hI
      refine sq ?_
      refine reg ?_
      refine pRun_ok (tb := tab) (n := 73) tabOk 1 _ _ hf rfl rfl fun a hf => ?_
      refine wl_end ?_
      refine then_n ?_
      refine sq ?_
      refine (Bool.eq_false_or_eq_true (decide (i < (line.length : Int)))).elim (fun hc4 => ?_) (fun hc4 => ?_)
      · rw [if_pos hc4] at hR1
        refine cd_t hf rfl hc4 ?_
        refine wp_skip ?_
        refine then_n ?_
        refine sq ?_
        refine wp_block ?_
        refine sq ?_
        refine reg ?_
        refine pRun_ok (tb := tab) (n := 73) tabOk 1 _ _ hf rfl rfl fun a hf => ?_
        obtain ⟨e, he, hR1⟩ := bind_some hR1
        refine wl0 rfl (op_iaddr hf H Try.underlying96 TF.sz28 1 rfl rfl rfl he (by decide) fun p o cs a hf hr H => ?_)
        obtain rfl := Span_cells hr
        refine wl0 rfl (op_q hf (rq_loadIN hf H TF.la28 0 0 rfl rfl rfl rfl) rfl (by decide) fun a hf => ?_)
        refine wl0 rfl (op_alloc hf H TF.zv28 rfl (by decide) fun b' a w hf H => ?_)
        refine pRun_ok (tb := tab) (n := 73) tabOk 1 _ _ hf rfl rfl fun a hf => ?_
        refine wl0 rfl (op_storeB hf H 0 TF.sz28 rfl rfl rfl rfl rfl rfl (nle rfl) fun w H => ?_)
        refine wl_end ?_
        refine then_n ?_
        refine sq ?_
        refine reg ?_
        refine pRun_ok (tb := tab) (n := 73) tabOk 1 _ _ hf rfl rfl fun a hf => ?_
        refine wl0 rfl (op_q hf (rq_loadBN hf H TF.la28 0 rfl rfl rfl rfl) rfl (by decide) fun a hf => ?_)
        obtain ⟨y4, hy4, hR1⟩ := bind_some hR1
        refine wl0 rfl (op_call hf TF.cl102 rfl (by decide) (impl_lossOf_ok (S := fun _ => True) Span_mkv hy4) fun v4 w a hp4 hf => ?_)
        obtain ⟨hb4, hp4⟩ := hp4
        obtain rfl := VR_int hp4
        have H := H.keep hb4
        refine pRun_ok (tb := tab) (n := 73) tabOk 2 _ _ hf rfl rfl fun a hf => ?_
        refine wl_end ?_
        refine then_n ?_
        refine sq ?_
        refine sq ?_
        refine reg ?_
        refine pRun_ok (tb := tab) (n := 73) tabOk 1 _ _ hf rfl rfl fun a hf => ?_
        obtain ⟨y5, hy5, hR1⟩ := bind_some hR1
        refine wl0 rfl (op_call hf TF.cl107 rfl (by decide) (impl_isLevel_ok (S := fun _ => True) mk_int hy5) fun v5 w a hp5 hf => ?_)
        obtain ⟨hb5, hp5⟩ := hp5
        obtain rfl := VR_bool hp5
        have H := H.keep hb5
        refine pRun_ok (tb := tab) (n := 73) tabOk 1 _ _ hf rfl rfl fun a hf => ?_
        refine wl_end ?_
        refine then_n ?_
        refine (Bool.eq_false_or_eq_true (!y5)).elim (fun hc5 => ?_) (fun hc5 => ?_)
        · rw [if_pos hc5] at hR1
          refine cd_t hf rfl hc5 ?_
          refine sq ?_
          refine reg ?_
          refine pRun_ok (tb := tab) (n := 73) tabOk 3 _ _ hf rfl rfl fun a hf => ?_
          have hf := hf.prune [6, 7, 8] rfl
          refine wl_end ?_
          refine then_n ?_
          refine wp_ret (then_r (blk_r (then_r (then_r (blk_r (then_r (then_r (?_))))))))
          have H := H.ownNil (Int)
          have H := H.lend 0 rfl
          have H := H.ownNil (Int)
          have H := H.lend 0 rfl
          have H := H.frontD 1 rfl
          obtain rfl := Option.some.inj hR1
          replace hF := on_ret hF
          obtain rfl := Option.some.inj hF
          refine ret_3 (fn := Try.f146) (r := .tmp 6) (s := .tmp 7) (t := .tmp 8) hf rfl (rv_tmp hf rfl) (rv_tmp hf rfl) (rv_tmp hf rfl) ?_
          have hN := H.ends (X := [(⟨[], MP.own [] [(.slice none 0 0)] ([] : List Int)⟩ : DI), (⟨[], MP.own [] [(.slice none 0 0)] ([] : List Int)⟩ : DI)])
          simp only [List.flatMap_cons, List.flatMap_nil, List.append_nil, List.append_assoc] at hN
          exact ⟨_, rfl, H.bel, [], [], _, _, _, rfl, (mko_list (H.ownAt 0 rfl)), (mko_list (H.ownAt 1 rfl)), mk_bool, hN⟩
        · rw [if_neg (nt hc5)] at hR1
          refine cd_f hf rfl hc5 ?_
          refine wp_skip ?_
          refine then_n ?_
          refine sq ?_
          refine reg ?_
          refine pRun_ok (tb := tab) (n := 73) tabOk 2 _ _ hf rfl rfl fun a hf => ?_
          refine wl0 rfl (op_bslice hf H (.sh true) rfl 3 ([w64 (level - y4)] : List Int) [(.int .i64 (w64 (level - y4)))] rfl (fun w => by kernel_rfl) rfl (by decide) rfl trivial (el1 (y := w64 (level - y4)) rfl) (by decide) fun A7 a w hf H => ?_)
          obtain ⟨l, hl, hR1⟩ := bind_some hR1
          refine wl0 rfl (op_appR hf H Try.underlying35 TF.ai3 rfl (by decide) 2 0 rfl rfl rfl rfl (.inr rfl) hl (by decide) fun A8 c6 a w hf H => ?_)
          refine pRun_ok (tb := tab) (n := 73) tabOk 1 _ _ hf rfl rfl fun a hf => ?_
          have hf := hf.prune [1, 9, 10, 11, 12, 34, 35, 36] rfl
          refine wl_end ?_
          refine then_n ?_
          refine sq ?_
          refine sq ?_
          refine reg ?_
          refine pRun_ok (tb := tab) (n := 73) tabOk 3 _ _ hf rfl rfl fun a hf => ?_
          refine wl_end ?_
          refine then_n ?_
          obtain ⟨out2, hB2, hR1⟩ := bind_some hR1
          have hf := hf.prune [1, 9, 10, 11, 12, 34, 35, 36, 52, 53, 54] rfl
          have H := H.let [false] [false, true, true] [] [1, 2]
          have hI : (fun (s : Int × Int) (a : Act) (w : World) => match s with | (level2, i2) => Fr a 73 [(1, (.slice A2 list.length c2)), (9, (.slice A8 l.length c6)), (10, (.slice A6 after.length c5)), (11, (.int .i64 level2)), (12, (.int .i64 i)), (34, (.slice A line.length c)), (35, (.int .i64 (line.length : Int))), (36, (.int .i64 i)), (52, (.slice A2 list.length c2)), (53, (.int .i64 (list.length : Int))), (54, (.int .i64 i2))] ∧ Mem ⟨w0, []⟩ S [] [⟨.sh true, 3, A6, c5, (after : List Int)⟩, ⟨.sh true, 3, A8, c6, (l : List Int)⟩] [] [(false, MP.val [(.slice A2 list.length c2)] (list : List Amplifier)), (false, MP.val [(.slice A line.length c)] (line : List Span))] w) (w64 (level - y4), 0) a w := ⟨hf, H⟩
          refine mid (fun a w => ∃ s : Int × Int, out2 = s ∧ (fun (s : Int × Int) (a : Act) (w : World) => match s with | (level2, i2) => Fr a 73 [(1, (.slice A2 list.length c2)), (9, (.slice A8 l.length c6)), (10, (.slice A6 after.length c5)), (11, (.int .i64 level2)), (12, (.int .i64 i)), (34, (.slice A line.length c)), (35, (.int .i64 (line.length : Int))), (36, (.int .i64 i)), (52, (.slice A2 list.length c2)), (53, (.int .i64 (list.length : Int))), (54, (.int .i64 i2))] ∧ Mem ⟨w0, []⟩ S [] [⟨.sh true, 3, A6, c5, (after : List Int)⟩, ⟨.sh true, 3, A8, c6, (l : List Int)⟩] [] [(false, MP.val [(.slice A2 list.length c2)] (list : List Amplifier)), (false, MP.val [(.slice A line.length c)] (line : List Span))] w) s a w) ?_ ?_
          · refine wp_block ?_
            refine loop_rule (fun k (s : Int × Int) => impl_profile_L2 fu list i k s.1 s.2 = some out2) (fun (s : Int × Int) (a : Act) (w : World) => match s with | (level2, i2) => Fr a 73 [(1, (.slice A2 list.length c2)), (9, (.slice A8 l.length c6)), (10, (.slice A6 after.length c5)), (11, (.int .i64 level2)), (12, (.int .i64 i)), (34, (.slice A line.length c)), (35, (.int .i64 (line.length : Int))), (36, (.int .i64 i)), (52, (.slice A2 list.length c2)), (53, (.int .i64 (list.length : Int))), (54, (.int .i64 i2))] ∧ Mem ⟨w0, []⟩ S [] [⟨.sh true, 3, A6, c5, (after : List Int)⟩, ⟨.sh true, 3, A8, c6, (l : List Int)⟩] [] [(false, MP.val [(.slice A2 list.length c2)] (list : List Amplifier)), (false, MP.val [(.slice A line.length c)] (line : List Span))] w) (fun s h => by cases h) ?_ fu (w64 (level - y4), 0) a w hB2 hI
            rintro fk ⟨level2, i2⟩ a w hR2 hI
            replace hR2 : impl_profile_L2 fu list i (fk + 1) level2 i2 = some out2 := hR2
            rw [impl_profile_L2] at hR2
            obtain ⟨hf, H⟩ := hI
            refine sq ?_
            refine reg ?_
            refine pRun_ok (tb := tab) (n := 73) tabOk 1 _ _ hf rfl rfl fun a hf => ?_
            refine wl_end ?_
            refine then_n ?_
            refine sq ?_
            refine (Bool.eq_false_or_eq_true (decide (i2 < (list.length : Int)))).elim (fun hc6 => ?_) (fun hc6 => ?_)
            · rw [if_pos hc6] at hR2
              refine cd_t hf rfl hc6 ?_
              refine wp_skip ?_
              refine then_n ?_
              refine sq ?_
              refine wp_block ?_
              refine sq ?_
              refine reg ?_
              obtain ⟨e2, he2, hR2⟩ := bind_some hR2
              refine wl0 rfl (op_iaddr hf H Try.underlying63 TF.sz88 0 rfl rfl rfl he2 (by decide) fun p2 o2 cs2 a hf hr2 H => ?_)
              obtain rfl := Amplifier_cells hr2
              refine wl0 rfl (op_q hf (rq_loadIN hf H TF.la88 0 0 rfl rfl rfl rfl) rfl (by decide) fun a hf => ?_)
              refine wl0 rfl (op_alloc hf H TF.zv88 rfl (by decide) fun b2 a w hf H => ?_)
              refine wl0 rfl (op_storeB hf H 0 TF.sz88 rfl rfl rfl rfl rfl rfl (nle rfl) fun w H => ?_)
              refine wl_end ?_
              refine then_n ?_
              refine sq ?_
              refine reg ?_
              refine pRun_ok (tb := tab) (n := 73) tabOk 1 _ _ hf rfl rfl fun a hf => ?_
              refine wl0 rfl (op_q hf (rq_loadB hf H TF.ls3 0 rfl rfl rfl) rfl (by decide) fun a hf => ?_)
              refine pRun_ok (tb := tab) (n := 73) tabOk 2 _ _ hf rfl rfl fun a hf => ?_
              refine wl_end ?_
              refine then_n ?_
              refine (Bool.eq_false_or_eq_true (e2.After == i)).elim (fun hc7 => ?_) (fun hc7 => ?_)
              · rw [if_pos hc7] at hR2
                refine cd_t hf rfl hc7 ?_
                refine reg ?_
                refine pRun_ok (tb := tab) (n := 73) tabOk 1 _ _ hf rfl rfl fun a hf => ?_
                refine wl0 rfl (op_q hf (rq_loadBN hf H TF.la88 0 rfl rfl rfl rfl) rfl (by decide) fun a hf => ?_)
                obtain ⟨y6, hy6, hR2⟩ := bind_some hR2
                refine wl0 rfl (op_call hf TF.cl143 rfl (by decide) (impl_amplified_ok (S := fun _ => True) mk_int Amplifier_mkv hy6) fun v6 w a hp6 hf => ?_)
                obtain ⟨hb6, hp6⟩ := hp6
                obtain rfl := VR_int hp6
                have H := H.keep hb6
                refine pRun_ok (tb := tab) (n := 73) tabOk 1 _ _ hf rfl rfl fun a hf => ?_
                refine wl_end ?_
                refine blk_n ?_
                refine then_n ?_
                refine reg ?_
                refine pRun_ok (tb := tab) (n := 73) tabOk 2 _ _ hf rfl rfl fun a hf => ?_
                refine wl_end ?_
                have hf := hf.prune [1, 9, 10, 11, 12, 34, 35, 36, 52, 53, 54] rfl
                have H := H.let [false] [true, true] [] [1, 2]
                exact then_n ⟨(y6, w64 (i2 + 1)), hR2, hf, H⟩
              · rw [if_neg (nt hc7)] at hR2
                refine cd_f hf rfl hc7 ?_
                refine wp_skip ?_
                refine blk_n ?_
                refine then_n ?_
                refine reg ?_
                refine pRun_ok (tb := tab) (n := 73) tabOk 2 _ _ hf rfl rfl fun a hf => ?_
                refine wl_end ?_
                have hf := hf.prune [1, 9, 10, 11, 12, 34, 35, 36, 52, 53, 54] rfl
                have H := H.let [false] [true, true] [] [1, 2]
                exact then_n ⟨(level2, w64 (i2 + 1)), hR2, hf, H⟩
            · rw [if_neg (nt hc6)] at hR2
              refine cd_f hf rfl hc6 ?_
              refine wp_exit (then_x (then_x (blk_e (?_))))
              have hf := hf.prune [1, 9, 10, 11, 12, 34, 35, 36, 52, 53, 54] rfl
              have H := H.let [] [true, true] [] [0, 1]
              exact ⟨(level2, i2), (Option.some.inj hR2).symm, hf, H⟩
          rintro a w ⟨⟨level3, i3⟩, rfl, hf, H⟩
          dsimp only at hR1
          refine then_n ?_
          refine reg ?_
          refine pRun_ok (tb := tab) (n := 73) tabOk 2 _ _ hf rfl rfl fun a hf => ?_
          refine wl0 rfl (op_bslice hf H (.sh true) rfl 3 ([level3] : List Int) [(.int .i64 level3)] rfl (fun w => by kernel_rfl) rfl (by decide) rfl trivial (el1 (y := level3) rfl) (by decide) fun A9 a w hf H => ?_)
          obtain ⟨l2, hl2, hR1⟩ := bind_some hR1
          refine wl0 rfl (op_appR hf H Try.underlying35 TF.ai3 rfl (by decide) 1 0 rfl rfl rfl rfl (.inr rfl) hl2 (by decide) fun A10 c7 a w hf H => ?_)
          refine pRun_ok (tb := tab) (n := 73) tabOk 1 _ _ hf rfl rfl fun a hf => ?_
          refine wl_end ?_
          refine blk_n ?_
          refine then_n ?_
          refine reg ?_
          refine pRun_ok (tb := tab) (n := 73) tabOk 2 _ _ hf rfl rfl fun a hf => ?_
          refine wl_end ?_
          have hf := hf.prune [1, 9, 10, 11, 34, 35, 36] rfl
          have H := H.let [] [false, true, true] [] [0, 1]
          exact then_n ⟨(l, l2, level3, w64 (i + 1)), hR1, A8, c6, A10, c7, hf, H⟩
      · rw [if_neg (nt hc4)] at hR1
        refine cd_f hf rfl hc4 ?_
        refine wp_exit (then_x (then_x (blk_e (?_))))
        have hf := hf.prune [1, 9, 10, 11, 34, 35, 36] rfl
        have H := H.let [] [true, true] [] [0, 1]
        exact ⟨(before, after, level, i), (Option.some.inj hR1).symm, A5, c4, A6, c5, hf, H⟩
    rintro a w ⟨⟨before2, after2, level4, i4⟩, rfl, A11, c8, A12, c9, hf, H⟩
    replace hF := on_next hF
    dsimp only at hF
    refine then_n ?_
    refine sq ?_
    refine reg ?_
    refine pRun_ok (tb := tab) (n := 73) tabOk 5 _ _ hf rfl rfl fun a hf => ?_
    refine wl_end ?_
    refine then_n ?_
    refine wp_ret (?_)
    have H := H.rowOwn 1 rfl rfl
    obtain ⟨F, H⟩ := H.freezeOwn 1 rfl
    have H := H.lend 0 rfl
    have H := H.rowOwn 0 rfl rfl
    obtain ⟨F2, H⟩ := H.freezeOwn 0 rfl
    have H := H.lend 0 rfl
    have H := H.frontD 1 rfl
    obtain rfl := Option.some.inj hF
    refine ret_3 (fn := Try.f146) (r := .tmp 6) (s := .tmp 7) (t := .tmp 8) hf rfl (rv_tmp hf rfl) (rv_tmp hf rfl) (rv_tmp hf rfl) ?_
    have hN := H.ends (X := [(⟨F, MP.own F [(.slice A11 before2.length c8)] (before2 : List Int)⟩ : DI), (⟨F2, MP.own F2 [(.slice A12 after2.length c9)] (after2 : List Int)⟩ : DI)])
    simp only [List.flatMap_cons, List.flatMap_nil, List.append_nil, List.append_assoc] at hN
    exact ⟨_, rfl, H.bel, F, F2, _, _, _, rfl, (mko_list (H.ownAt 0 rfl)), (mko_list (H.ownAt 1 rfl)), mk_bool, hN⟩

/- slices.Min[[]int,int] -/
set_option maxHeartbeats 1000000 in
theorem slices_Min_int_int_ok {fu : Nat} {w0 : World} {S : Nat → Prop} {v0_ : Value} {x1 : List Int} {r : Int} (h0 : VR w0 S v0_ x1) (hF : slices_Min_int_int fu x1 = some r) :
    Calls Try.prog 147 [v0_].toArray w0 fun e w' => ∃ v, e = .returned v ∧ (Below w0.heap.size w0 w' ∧ VR w' (St ⟨w0, []⟩ S [] [] [] true) v r) := by
  obtain ⟨A, c, rfl, hl⟩ := VR_list h0
  have H := Mem.start ⟨w0, []⟩ S
  have H := H.pushArg (MP.val [(.slice A x1.length c)] x1) hl
  refine enter Try.func147 rfl rfl (nle rfl) rfl fun a hf => ?_
  rw [slices_Min_int_int] at hF
  refine sq ?_
  refine reg ?_
  refine pRun_ok (tb := tab) (n := 25) tabOk 1 _ _ hf rfl rfl fun a hf => ?_
  refine wl_end ?_
  refine then_n ?_
  refine sq ?_
  refine sq ?_
  refine reg ?_
  refine pRun_ok (tb := tab) (n := 25) tabOk 3 _ _ hf rfl rfl fun a hf => ?_
  refine wl_end ?_
  refine then_n ?_
  refine (Bool.eq_false_or_eq_true (decide ((x1.length : Int) < 1))).elim (fun hc => ?_) (fun hc => ?_)
  · rw [if_pos hc] at hF
    refine cd_t hf rfl hc ?_
    refine reg ?_
    cases hF
  · rw [if_neg (nt hc)] at hF
    refine cd_f hf rfl hc ?_
    refine wp_skip ?_
    refine then_n ?_
    refine sq ?_
    refine reg ?_
    refine pRun_ok (tb := tab) (n := 25) tabOk 1 _ _ hf rfl rfl fun a hf => ?_
    obtain ⟨e, he, hF⟩ := bind_some hF
    refine wl0 rfl (op_iaddr hf H Try.underlying35 TF.sz3 0 rfl rfl rfl he (by decide) fun p o cs a hf hr H => ?_)
    obtain rfl := hr
    refine wl0 rfl (op_q hf (rq_loadI hf H TF.ls3 0 0 rfl rfl rfl) rfl (by decide) fun a hf => ?_)
    refine pRun_ok (tb := tab) (n := 25) tabOk 1 _ _ hf rfl rfl fun a hf => ?_
    refine wl_end ?_
    refine then_n ?_
    refine sq ?_
    refine sq ?_
    refine reg ?_
    refine pRun_ok (tb := tab) (n := 25) tabOk 1 _ _ hf rfl rfl fun a hf => ?_
    refine wl_end ?_
    refine then_n ?_
    obtain ⟨out', hB1, hF⟩ := bind_some hF
    have hf := hf.prune [0, 3, 4] rfl
    have H := H.let [] [] [] [1]
    have hI : (fun (s : Int × Int) (a : Act) (w : World) => match s with | (m, i) => Fr a 25 [(0, (.slice A x1.length c)), (3, (.int .i64 m)), (4, (.int .i64 i))] ∧ Mem ⟨w0, []⟩ S [] [] [] [(false, MP.val [(.slice A x1.length c)] (x1 : List Int))] w) (e, 1) a w0 := ⟨hf, H⟩
    refine mid (fun a w => ∃ s : Int × Int, out' = s ∧ (fun (s : Int × Int) (a : Act) (w : World) => match s with | (m, i) => Fr a 25 [(0, (.slice A x1.length c)), (3, (.int .i64 m)), (4, (.int .i64 i))] ∧ Mem ⟨w0, []⟩ S [] [] [] [(false, MP.val [(.slice A x1.length c)] (x1 : List Int))] w) s a w) ?_ ?_
    · refine wp_block ?_
      refine loop_rule (fun k (s : Int × Int) => slices_Min_int_int_L1 fu x1 k s.1 s.2 = some out') (fun (s : Int × Int) (a : Act) (w : World) => match s with | (m, i) => Fr a 25 [(0, (.slice A x1.length c)), (3, (.int .i64 m)), (4, (.int .i64 i))] ∧ Mem ⟨w0, []⟩ S [] [] [] [(false, MP.val [(.slice A x1.length c)] (x1 : List Int))] w) (fun s h => by cases h) ?_ fu (e, 1) a w0 hB1 hI
      rintro fk ⟨m, i⟩ a w hR1 hI
      replace hR1 : slices_Min_int_int_L1 fu x1 (fk + 1) m i = some out' := hR1
      rw [slices_Min_int_int_L1] at hR1
      obtain ⟨hf, H⟩ := hI
      refine sq ?_
      refine sq ?_
      refine reg ?_
      refine pRun_ok (tb := tab) (n := 25) tabOk 4 _ _ hf rfl rfl fun a hf => ?_
      refine wl_end ?_
      refine then_n ?_
      refine (Bool.eq_false_or_eq_true (decide (i < (x1.length : Int)))).elim (fun hc2 => ?_) (fun hc2 => ?_)
      · rw [if_pos hc2] at hR1
        refine cd_t hf rfl hc2 ?_
        refine wp_skip ?_
        refine then_n ?_
        refine sq ?_
        refine wp_block ?_
        refine reg ?_
        refine pRun_ok (tb := tab) (n := 25) tabOk 3 _ _ hf rfl rfl fun a hf => ?_
        obtain ⟨e2, he2, hR1⟩ := bind_some hR1
        refine wl0 rfl (op_iaddr hf H Try.underlying35 TF.sz3 0 rfl rfl rfl he2 (by decide) fun p2 o2 cs2 a hf hr2 H => ?_)
        obtain rfl := hr2
        refine wl0 rfl (op_q hf (rq_loadI hf H TF.ls3 0 0 rfl rfl rfl) rfl (by decide) fun a hf => ?_)
        refine pRun_ok (tb := tab) (n := 25) tabOk 2 _ _ hf rfl rfl fun a hf => ?_
        refine wl_end ?_
        refine blk_n ?_
        refine then_n ?_
        refine reg ?_
        refine pRun_ok (tb := tab) (n := 25) tabOk 3 _ _ hf rfl rfl fun a hf => ?_
        refine wl_end ?_
        have hf := hf.prune [0, 3, 4] rfl
        have H := H.let [] [] [] [1]
        exact then_n ⟨(gmin m e2, w64 (i + 1)), hR1, hf, H⟩
      · rw [if_neg (nt hc2)] at hR1
        refine cd_f hf rfl hc2 ?_
        refine wp_exit (then_x (then_x (blk_e (?_))))
        have hf := hf.prune [0, 3, 4] rfl
        have H := H.let [] [] [] [0]
        exact ⟨(m, i), (Option.some.inj hR1).symm, hf, H⟩
    rintro a w ⟨⟨m2, i2⟩, rfl, hf, H⟩
    dsimp only at hF
    refine then_n ?_
    refine sq ?_
    refine reg ?_
    refine pRun_ok (tb := tab) (n := 25) tabOk 2 _ _ hf rfl rfl fun a hf => ?_
    refine wl_end ?_
    refine then_n ?_
    refine wp_ret (?_)
    obtain rfl := Option.some.inj hF
    refine ret_1 (fn := Try.f147) (r := .tmp 2) hf rfl (rv_tmp hf rfl) ?_
    exact ⟨_, rfl, H.bel, mk_int⟩
end AT
