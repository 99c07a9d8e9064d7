/- The Go functions do what is told of them, by program (gen.py). -/
import Derived.Test.YtijgfgfolkbkoaaW0
set_option linter.unusedVariables false
set_option linter.unusedSimpArgs false
set_option maxRecDepth 100000
namespace AT
open Go Go.RowKit Go.Proofs

/- loop.example/g00897/laws.eqAmplifier -/
set_option maxHeartbeats 1000000 in
theorem laws_eqAmplifier_ok {fu : Nat} {w0 : World} {S : Nat → Prop} {v0_ : Value} {v1_ : Value} {a' : Amplifier} {b' : Amplifier} {r : Bool} (h0 : VR w0 S v0_ a') (h1 : VR w0 S v1_ b') (hF : laws_eqAmplifier fu a' b' = some r) :
    Calls Try.prog 122 [v0_, v1_].toArray w0 fun e w' => ∃ v, e = .returned v ∧ (Below w0.heap.size w0 w' ∧ VR w' (St ⟨w0, []⟩ S [] [] [] true) v r) := by
  obtain rfl := Amplifier_open h0
  obtain rfl := Amplifier_open h1
  have H := Mem.start ⟨w0, []⟩ S
  refine enter Try.func122 rfl rfl (nle rfl) rfl fun a hf => ?_
  rw [laws_eqAmplifier] at hF
  refine sq ?_
  refine reg ?_
  refine wl0 rfl (op_box hf H rfl rfl (by decide) fun b2 a w hf H => ?_)
  refine wl0 rfl (op_box hf H rfl rfl (by decide) fun b3 a w hf H => ?_)
  refine pRun_ok (tb := tab) (n := 25) tabOk 1 _ _ hf rfl rfl fun a hf => ?_
  refine wl_end ?_
  refine then_n ?_
  refine sq ?_
  refine sq ?_
  refine reg ?_
  refine pRun_ok (tb := tab) (n := 25) tabOk 1 _ _ hf rfl rfl fun a hf => ?_
  refine wl0 rfl (op_q hf (rq_loadB hf H TF.ls3 1 rfl rfl rfl) rfl (by decide) fun a hf => ?_)
  refine pRun_ok (tb := tab) (n := 25) tabOk 1 _ _ hf rfl rfl fun a hf => ?_
  refine wl0 rfl (op_q hf (rq_loadB hf H TF.ls3 0 rfl rfl rfl) rfl (by decide) fun a hf => ?_)
  refine pRun_ok (tb := tab) (n := 25) tabOk 1 _ _ hf rfl rfl fun a hf => ?_
  refine wl_end ?_
  refine then_n ?_
  refine (Bool.eq_false_or_eq_true (a'.After != b'.After)).elim (fun hc => ?_) (fun hc => ?_)
  · rw [if_pos hc] at hF
    refine cd_t hf rfl hc ?_
    refine sq ?_
    refine reg ?_
    refine pRun_ok (tb := tab) (n := 25) tabOk 1 _ _ hf rfl rfl fun a hf => ?_
    refine wl_end ?_
    refine then_n ?_
    refine wp_ret (then_r (?_))
    obtain rfl := Option.some.inj hF
    refine ret_1 (fn := Try.f122) (r := .tmp 4) hf rfl (rv_tmp hf rfl) ?_
    exact ⟨_, rfl, H.bel, mk_bool⟩
  · rw [if_neg (nt hc)] at hF
    refine cd_f hf rfl hc ?_
    refine wp_skip ?_
    refine then_n ?_
    refine sq ?_
    refine sq ?_
    refine reg ?_
    refine pRun_ok (tb := tab) (n := 25) tabOk 1 _ _ hf rfl rfl fun a hf => ?_
    refine wl0 rfl (op_q hf (rq_loadB hf H TF.ls3 1 rfl rfl rfl) rfl (by decide) fun a hf => ?_)
    refine pRun_ok (tb := tab) (n := 25) tabOk 1 _ _ hf rfl rfl fun a hf => ?_
    refine wl0 rfl (op_q hf (rq_loadB hf H TF.ls3 0 rfl rfl rfl) rfl (by decide) fun a hf => ?_)
    refine pRun_ok (tb := tab) (n := 25) tabOk 1 _ _ hf rfl rfl fun a hf => ?_
    refine wl_end ?_
    refine then_n ?_
    refine (Bool.eq_false_or_eq_true (a'.Gain != b'.Gain)).elim (fun hc2 => ?_) (fun hc2 => ?_)
    · rw [if_pos hc2] at hF
      refine cd_t hf rfl hc2 ?_
      refine sq ?_
      refine reg ?_
      refine pRun_ok (tb := tab) (n := 25) tabOk 1 _ _ hf rfl rfl fun a hf => ?_
      have hf := hf.prune [4] rfl
      refine wl_end ?_
      refine then_n ?_
      refine wp_ret (then_r (?_))
      obtain rfl := Option.some.inj hF
      refine ret_1 (fn := Try.f122) (r := .tmp 4) hf rfl (rv_tmp hf rfl) ?_
      exact ⟨_, rfl, H.bel, mk_bool⟩
    · rw [if_neg (nt hc2)] at hF
      refine cd_f hf rfl hc2 ?_
      refine wp_skip ?_
      refine then_n ?_
      refine sq ?_
      refine sq ?_
      refine reg ?_
      refine pRun_ok (tb := tab) (n := 25) tabOk 1 _ _ hf rfl rfl fun a hf => ?_
      refine wl0 rfl (op_q hf (rq_loadB hf H TF.ls3 1 rfl rfl rfl) rfl (by decide) fun a hf => ?_)
      refine pRun_ok (tb := tab) (n := 25) tabOk 1 _ _ hf rfl rfl fun a hf => ?_
      refine wl0 rfl (op_q hf (rq_loadB hf H TF.ls3 0 rfl rfl rfl) rfl (by decide) fun a hf => ?_)
      refine pRun_ok (tb := tab) (n := 25) tabOk 1 _ _ hf rfl rfl fun a hf => ?_
      have hf := hf.prune [2, 3, 19] rfl
      refine wl_end ?_
      refine then_n ?_
      refine (Bool.eq_false_or_eq_true (a'.Output != b'.Output)).elim (fun hc3 => ?_) (fun hc3 => ?_)
      · rw [if_pos hc3] at hF
        refine cd_t hf rfl hc3 ?_
        refine sq ?_
        refine reg ?_
        refine pRun_ok (tb := tab) (n := 25) tabOk 1 _ _ hf rfl rfl fun a hf => ?_
        refine wl_end ?_
        refine then_n ?_
        refine wp_ret (then_r (?_))
        obtain rfl := Option.some.inj hF
        refine ret_1 (fn := Try.f122) (r := .tmp 4) hf rfl (rv_tmp hf rfl) ?_
        exact ⟨_, rfl, H.bel, mk_bool⟩
      · rw [if_neg (nt hc3)] at hF
        refine cd_f hf rfl hc3 ?_
        refine wp_skip ?_
        refine then_n ?_
        refine sq ?_
        refine sq ?_
        refine reg ?_
        refine pRun_ok (tb := tab) (n := 25) tabOk 1 _ _ hf rfl rfl fun a hf => ?_
        refine wl0 rfl (op_q hf (rq_loadB hf H TF.ls3 1 rfl rfl rfl) rfl (by decide) fun a hf => ?_)
        refine pRun_ok (tb := tab) (n := 25) tabOk 1 _ _ hf rfl rfl fun a hf => ?_
        refine wl0 rfl (op_q hf (rq_loadB hf H TF.ls3 0 rfl rfl rfl) rfl (by decide) fun a hf => ?_)
        refine pRun_ok (tb := tab) (n := 25) tabOk 1 _ _ hf rfl rfl fun a hf => ?_
        refine wl_end ?_
        refine then_n ?_
        refine (Bool.eq_false_or_eq_true (a'.Noise != b'.Noise)).elim (fun hc4 => ?_) (fun hc4 => ?_)
        · rw [if_pos hc4] at hF
          refine cd_t hf rfl hc4 ?_
          refine sq ?_
          refine reg ?_
          refine pRun_ok (tb := tab) (n := 25) tabOk 1 _ _ hf rfl rfl fun a hf => ?_
          refine wl_end ?_
          refine then_n ?_
          refine wp_ret (then_r (?_))
          obtain rfl := Option.some.inj hF
          refine ret_1 (fn := Try.f122) (r := .tmp 4) hf rfl (rv_tmp hf rfl) ?_
          exact ⟨_, rfl, H.bel, mk_bool⟩
        · rw [if_neg (nt hc4)] at hF
          refine cd_f hf rfl hc4 ?_
          refine wp_skip ?_
          refine then_n ?_
          refine sq ?_
          refine reg ?_
          refine pRun_ok (tb := tab) (n := 25) tabOk 1 _ _ hf rfl rfl fun a hf => ?_
          refine wl_end ?_
          refine then_n ?_
          refine wp_ret (?_)
          obtain rfl := Option.some.inj hF
          refine ret_1 (fn := Try.f122) (r := .tmp 4) hf rfl (rv_tmp hf rfl) ?_
          exact ⟨_, rfl, H.bel, mk_bool⟩

/- loop.example/g00897/laws.eqAmplifierS -/
set_option maxHeartbeats 1000000 in
theorem laws_eqAmplifierS_ok {fu : Nat} {w0 : World} {S : Nat → Prop} {v0_ : Value} {v1_ : Value} {a' : List Amplifier} {b' : List Amplifier} {r : Bool} (h0 : VR w0 S v0_ a') (h1 : VR w0 S v1_ b') (hF : laws_eqAmplifierS fu a' b' = some r) :
    Calls Try.prog 58 [v0_, v1_].toArray w0 fun e w' => ∃ v, e = .returned v ∧ (Below w0.heap.size w0 w' ∧ VR w' (St ⟨w0, []⟩ S [] [] [] true) v r) := by
  obtain ⟨A, c, rfl, hl⟩ := VR_list h0
  obtain ⟨A2, c2, rfl, hl2⟩ := VR_list h1
  have H := Mem.start ⟨w0, []⟩ S
  have H := H.pushArg (MP.val [(.slice A a'.length c)] a') hl
  have H := H.pushArg (MP.val [(.slice A2 b'.length c2)] b') hl2
  refine enter Try.func58 rfl rfl (nle rfl) rfl fun a hf => ?_
  rw [laws_eqAmplifierS] at hF
  refine sq ?_
  refine reg ?_
  refine pRun_ok (tb := tab) (n := 27) tabOk 1 _ _ hf rfl rfl fun a hf => ?_
  refine wl_end ?_
  refine then_n ?_
  refine sq ?_
  refine sq ?_
  refine reg ?_
  refine pRun_ok (tb := tab) (n := 27) tabOk 5 _ _ hf rfl rfl fun a hf => ?_
  refine wl_end ?_
  refine then_n ?_
  refine (Bool.eq_false_or_eq_true ((a'.length : Int) != (b'.length : Int))).elim (fun hc => ?_) (fun hc => ?_)
  · rw [if_pos hc] at hF
    refine cd_t hf rfl hc ?_
    refine sq ?_
    refine reg ?_
    refine pRun_ok (tb := tab) (n := 27) tabOk 1 _ _ hf rfl rfl fun a hf => ?_
    refine wl_end ?_
    refine then_n ?_
    refine wp_ret (then_r (?_))
    obtain rfl := Option.some.inj hF
    refine ret_1 (fn := Try.f58) (r := .tmp 4) hf rfl (rv_tmp hf rfl) ?_
    exact ⟨_, rfl, H.bel, mk_bool⟩
  · rw [if_neg (nt hc)] at hF
    refine cd_f hf rfl hc ?_
    refine wp_skip ?_
    refine then_n ?_
    refine sq ?_
    refine sq ?_
    refine reg ?_
    refine pRun_ok (tb := tab) (n := 27) tabOk 1 _ _ hf rfl rfl fun a hf => ?_
    refine wl_end ?_
    refine then_n ?_
    obtain ⟨out', hB1, hF⟩ := bind_some hF
    have hf := hf.prune [0, 1, 5] rfl
    have H := H.let [] [] [] [0, 1]
    have hI : (fun (s : Int) (a : Act) (w : World) => match s with | i => Fr a 27 [(0, (.slice A a'.length c)), (1, (.slice A2 b'.length c2)), (5, (.int .i64 i))] ∧ Mem ⟨w0, []⟩ S [] [] [] [(false, MP.val [(.slice A2 b'.length c2)] (b' : List Amplifier)), (false, MP.val [(.slice A a'.length c)] (a' : List Amplifier))] w) 0 a w0 := ⟨hf, H⟩
    refine mid (fun a w => ∃ s : Int, out' = Out.next s ∧ (fun (s : Int) (a : Act) (w : World) => match s with | i => Fr a 27 [(0, (.slice A a'.length c)), (1, (.slice A2 b'.length c2)), (5, (.int .i64 i))] ∧ Mem ⟨w0, []⟩ S [] [] [] [(false, MP.val [(.slice A2 b'.length c2)] (b' : List Amplifier)), (false, MP.val [(.slice A a'.length c)] (a' : List Amplifier))] w) s a w) ?_ ?_
    · refine wp_block ?_
      refine loop_rule (fun k (s : Int) => laws_eqAmplifierS_L1 fu a' b' k s = some out') (fun (s : Int) (a : Act) (w : World) => match s with | i => Fr a 27 [(0, (.slice A a'.length c)), (1, (.slice A2 b'.length c2)), (5, (.int .i64 i))] ∧ Mem ⟨w0, []⟩ S [] [] [] [(false, MP.val [(.slice A2 b'.length c2)] (b' : List Amplifier)), (false, MP.val [(.slice A a'.length c)] (a' : List Amplifier))] w) (fun s h => by cases h) ?_ fu 0 a w0 hB1 hI
      rintro fk i a w hR1 hI
      replace hR1 : laws_eqAmplifierS_L1 fu a' b' (fk + 1) i = some out' := hR1
      rw [laws_eqAmplifierS_L1] at hR1
      obtain ⟨hf, H⟩ := hI
      refine sq ?_
      refine sq ?_
      refine reg ?_
      refine pRun_ok (tb := tab) (n := 27) tabOk 4 _ _ hf rfl rfl fun a hf => ?_
      refine wl_end ?_
      refine then_n ?_
      refine (Bool.eq_false_or_eq_true (decide (i < (a'.length : Int)))).elim (fun hc2 => ?_) (fun hc2 => ?_)
      · rw [if_pos hc2] at hR1
        refine cd_t hf rfl hc2 ?_
        refine wp_skip ?_
        refine then_n ?_
        refine sq ?_
        refine wp_block ?_
        refine sq ?_
        refine drawn [] (bs := [false, false, false, false, false, false, false, false, false, false]) (fuel := 10) (Checked.mixed Try.checked) rfl rfl fun w hb => ?_
        have H := H.keep hb
        refine tkP (i := 0) (bs' := [true, false, false, false, false, false, false, false, false, false]) rfl rfl rfl (by decide) hf (by kernel_rfl) (fun _ => trivial) (fun w => pOp_ok (tb := tab) tabOk hf rfl) rfl fun a hf => ?_
        refine tkP (i := 1) (bs' := [true, true, false, false, false, false, false, false, false, false]) rfl rfl rfl (by decide) hf (by kernel_rfl) (fun _ => trivial) (fun w => pOp_ok (tb := tab) tabOk hf rfl) rfl fun a hf => ?_
        obtain ⟨e, he, hR1⟩ := bind_some hR1
        obtain ⟨p, o, cs, hx, hr, H⟩ := pre_iaddr H Try.underlying63 TF.sz88 1 rfl he
        refine tkP (i := 2) (bs' := [true, true, true, false, false, false, false, false, false, false]) rfl rfl rfl (by decide) hf (by kernel_rfl) (fun _ => trivial) (fun w => rq_iaddrE hf rfl rfl rfl hx w) rfl fun a hf => ?_
        obtain rfl := Amplifier_cells hr
        refine str (fun w => Mem ⟨w0, []⟩ S [] [] [] [(false, MP.cells ⟨p, o, none⟩ [(.int .i64 e.After), (.int .i64 e.Gain), (.int .i64 e.Output), (.int .i64 e.Noise)]), (false, MP.val [(.slice A2 b'.length c2)] (b' : List Amplifier)), (false, MP.val [(.slice A a'.length c)] (a' : List Amplifier))] w) (fun w H => trivial) ?_
        have hS : Mem ⟨w0, []⟩ S [] [] [] [(false, MP.cells ⟨p, o, none⟩ [(.int .i64 e.After), (.int .i64 e.Gain), (.int .i64 e.Output), (.int .i64 e.Noise)]), (false, MP.val [(.slice A2 b'.length c2)] (b' : List Amplifier)), (false, MP.val [(.slice A a'.length c)] (a' : List Amplifier))] w := H.let [] [] [] [0, 1, 2]
        refine tkS (i := 3) (bs' := [true, true, true, true, false, false, false, false, false, false]) [] rfl rfl rfl (by decide) hf (by kernel_rfl) (by kernel_rfl) hS (fun w H => rq_loadIN hf H TF.la88 0 0 rfl rfl rfl rfl) rfl fun a hf => ?_
        refine tkP (i := 4) (bs' := [true, true, true, true, true, false, false, false, false, false]) rfl rfl rfl (by decide) hf (by kernel_rfl) (fun _ => hS) (fun w => pOp_ok (tb := tab) tabOk hf rfl) rfl fun a hf => ?_
        refine tkP (i := 5) (bs' := [true, true, true, true, true, true, false, false, false, false]) rfl rfl rfl (by decide) hf (by kernel_rfl) (fun _ => hS) (fun w => pOp_ok (tb := tab) tabOk hf rfl) rfl fun a hf => ?_
        obtain ⟨e2, he2, hR1⟩ := bind_some hR1
        obtain ⟨p2, o2, cs2, hx2, hr2, H⟩ := pre_iaddr H Try.underlying63 TF.sz88 1 rfl he2
        refine tkP (i := 6) (bs' := [true, true, true, true, true, true, true, false, false, false]) rfl rfl rfl (by decide) hf (by kernel_rfl) (fun _ => hS) (fun w => rq_iaddrE hf rfl rfl rfl hx2 w) rfl fun a hf => ?_
        obtain rfl := Amplifier_cells hr2
        refine str (fun w => Mem ⟨w0, []⟩ S [] [] [] [(false, MP.cells ⟨p2, o2, none⟩ [(.int .i64 e2.After), (.int .i64 e2.Gain), (.int .i64 e2.Output), (.int .i64 e2.Noise)]), (false, MP.cells ⟨p, o, none⟩ [(.int .i64 e.After), (.int .i64 e.Gain), (.int .i64 e.Output), (.int .i64 e.Noise)]), (false, MP.val [(.slice A2 b'.length c2)] (b' : List Amplifier)), (false, MP.val [(.slice A a'.length c)] (a' : List Amplifier))] w) (fun w H => H.let [] [] [] [1, 2, 3]) ?_
        have hS : Mem ⟨w0, []⟩ S [] [] [] [(false, MP.cells ⟨p2, o2, none⟩ [(.int .i64 e2.After), (.int .i64 e2.Gain), (.int .i64 e2.Output), (.int .i64 e2.Noise)]), (false, MP.cells ⟨p, o, none⟩ [(.int .i64 e.After), (.int .i64 e.Gain), (.int .i64 e.Output), (.int .i64 e.Noise)]), (false, MP.val [(.slice A2 b'.length c2)] (b' : List Amplifier)), (false, MP.val [(.slice A a'.length c)] (a' : List Amplifier))] w := H.let [] [] [] [0, 1, 2, 3]
        refine tkS (i := 7) (bs' := [true, true, true, true, true, true, true, true, false, false]) [] rfl rfl rfl (by decide) hf (by kernel_rfl) (by kernel_rfl) hS (fun w H => rq_loadIN hf H TF.la88 0 0 rfl rfl rfl rfl) rfl fun a hf => ?_
        obtain ⟨y, hy, hR1⟩ := bind_some hR1
        refine on1 (i := 8) (bs' := [true, true, true, true, true, true, true, true, true, false]) (by kernel_rfl) rfl rfl rfl (op_call hf TF.cl122 rfl (by decide) (laws_eqAmplifier_ok (S := fun _ => True) Amplifier_mkv Amplifier_mkv hy) fun v w a hp hf => ?_)
        obtain ⟨hb, hp⟩ := hp
        obtain rfl := VR_bool hp
        have H := H.keep hb
        have hS : Mem ⟨w0, []⟩ S [] [] [] [(false, MP.cells ⟨p2, o2, none⟩ [(.int .i64 e2.After), (.int .i64 e2.Gain), (.int .i64 e2.Output), (.int .i64 e2.Noise)]), (false, MP.cells ⟨p, o, none⟩ [(.int .i64 e.After), (.int .i64 e.Gain), (.int .i64 e.Output), (.int .i64 e.Noise)]), (false, MP.val [(.slice A2 b'.length c2)] (b' : List Amplifier)), (false, MP.val [(.slice A a'.length c)] (a' : List Amplifier))] w := H.let [] [] [] [0, 1, 2, 3]
        refine ⟨fun _ => hS, ?_⟩
        refine tkP (i := 9) (bs' := [true, true, true, true, true, true, true, true, true, true]) rfl rfl rfl (by decide) hf (by kernel_rfl) (fun _ => hS) (fun w => pOp_ok (tb := tab) tabOk hf rfl) rfl fun a hf => ?_
        refine dn (by kernel_rfl) ?_
        have hf := hf.prune [0, 1, 5, 26] rfl
        refine then_n ?_
        refine (Bool.eq_false_or_eq_true (!y)).elim (fun hc3 => ?_) (fun hc3 => ?_)
        · rw [if_pos hc3] at hR1
          refine cd_t hf rfl hc3 ?_
          refine sq ?_
          refine reg ?_
          refine pRun_ok (tb := tab) (n := 27) tabOk 1 _ _ hf rfl rfl fun a hf => ?_
          refine wl_end ?_
          refine then_n ?_
          refine wp_ret (blk_r (then_r (then_r (blk_r (then_r (then_r (?_)))))))
          obtain rfl := Option.some.inj hR1
          replace hF := on_ret hF
          obtain rfl := Option.some.inj hF
          refine ret_1 (fn := Try.f58) (r := .tmp 4) hf rfl (rv_tmp hf rfl) ?_
          exact ⟨_, rfl, H.bel, mk_bool⟩
        · rw [if_neg (nt hc3)] at hR1
          refine cd_f hf rfl hc3 ?_
          refine wp_skip ?_
          refine blk_n ?_
          refine then_n ?_
          refine reg ?_
          refine pRun_ok (tb := tab) (n := 27) tabOk 3 _ _ hf rfl rfl fun a hf => ?_
          refine wl_end ?_
          have hf := hf.prune [0, 1, 5] rfl
          have H := H.let [] [] [] [2, 3]
          exact then_n ⟨w64 (i + 1), hR1, hf, H⟩
      · rw [if_neg (nt hc2)] at hR1
        refine cd_f hf rfl hc2 ?_
        refine wp_exit (then_x (then_x (blk_e (?_))))
        have hf := hf.prune [0, 1, 5] rfl
        have H := H.let [] [] [] [0, 1]
        exact ⟨i, (Option.some.inj hR1).symm, hf, H⟩
    rintro a w ⟨i2, rfl, hf, H⟩
    replace hF := on_next hF
    refine then_n ?_
    refine sq ?_
    refine reg ?_
    refine pRun_ok (tb := tab) (n := 27) tabOk 1 _ _ hf rfl rfl fun a hf => ?_
    refine wl_end ?_
    refine then_n ?_
    refine wp_ret (?_)
    obtain rfl := Option.some.inj hF
    refine ret_1 (fn := Try.f58) (r := .tmp 4) hf rfl (rv_tmp hf rfl) ?_
    exact ⟨_, rfl, H.bel, mk_bool⟩

/- loop.example/g00897/laws.FnExactWorstLevel -/
set_option maxHeartbeats 1000000 in
theorem laws_FnExactWorstLevel_ok {fu : Nat} {w0 : World} {S : Nat → Prop} {v0_ : Value} {v1_ : Value} {v2_ : Value} {aLine : List Span} {aList : List Amplifier} {aLaunch : Int} {r : Bool} (h0 : VR w0 S v0_ aLine) (h1 : VR w0 S v1_ aList) (h2 : VR w0 S v2_ aLaunch) (hF : laws_FnExactWorstLevel fu aLine aList aLaunch = some r) :
    Calls Try.prog 21 [v0_, v1_, v2_].toArray w0 fun e w' => ∃ v, e = .returned v ∧ (Below w0.heap.size w0 w' ∧ VR w' (St ⟨w0, []⟩ S [] [] [] true) v r) := by
  obtain ⟨A, c, rfl, hl⟩ := VR_list h0
  obtain ⟨A2, c2, rfl, hl2⟩ := VR_list h1
  obtain rfl := VR_int h2
  have H := Mem.start ⟨w0, []⟩ S
  have H := H.pushArg (MP.val [(.slice A aLine.length c)] aLine) hl
  have H := H.pushArg (MP.val [(.slice A2 aList.length c2)] aList) hl2
  refine enter Try.func21 rfl rfl (nle rfl) rfl fun a hf => ?_
  rw [laws_FnExactWorstLevel] at hF
  refine sq ?_
  refine reg ?_
  refine pRun_ok (tb := tab) (n := 71) tabOk 1 _ _ hf rfl rfl fun a hf => ?_
  refine wl_end ?_
  refine then_n ?_
  refine sq ?_
  refine reg ?_
  refine pRun_ok (tb := tab) (n := 71) tabOk 1 _ _ hf rfl rfl fun a hf => ?_
  refine wl_end ?_
  refine then_n ?_
  refine sq ?_
  refine reg ?_
  refine pRun_ok (tb := tab) (n := 71) tabOk 2 _ _ hf rfl rfl fun a hf => ?_
  obtain ⟨y, hy, hF⟩ := bind_some hF
  refine wl0 rfl (op_call hf TF.cl80 rfl (by decide) (laws_szSpanS_ok (S := fun _ => True) (mk_list (rep_true (α := List Span) (H.get 1 rfl))) mk_int hy) fun v w a hp hf => ?_)
  obtain ⟨hb, hp⟩ := hp
  obtain rfl := VR_int hp
  have H := H.keep hb
  refine pRun_ok (tb := tab) (n := 71) tabOk 1 _ _ hf rfl rfl fun a hf => ?_
  refine wl_end ?_
  refine then_n ?_
  refine sq ?_
  refine sq ?_
  refine reg ?_
  refine pRun_ok (tb := tab) (n := 71) tabOk 2 _ _ hf rfl rfl fun a hf => ?_
  refine wl_end ?_
  refine then_n ?_
  refine (Bool.eq_false_or_eq_true (decide (y < 0))).elim (fun hc => ?_) (fun hc => ?_)
  · rw [if_pos hc] at hF
    refine cd_t hf rfl hc ?_
    refine sq ?_
    refine reg ?_
    refine pRun_ok (tb := tab) (n := 71) tabOk 1 _ _ hf rfl rfl fun a hf => ?_
    refine wl_end ?_
    refine then_n ?_
    refine wp_ret (then_r (?_))
    obtain rfl := Option.some.inj hF
    refine ret_1 (fn := Try.f21) (r := .tmp 6) hf rfl (rv_tmp hf rfl) ?_
    exact ⟨_, rfl, H.bel, mk_bool⟩
  · rw [if_neg (nt hc)] at hF
    refine cd_f hf rfl hc ?_
    refine wp_skip ?_
    refine then_n ?_
    refine sq ?_
    refine reg ?_
    refine pRun_ok (tb := tab) (n := 71) tabOk 2 _ _ hf rfl rfl fun a hf => ?_
    obtain ⟨y2, hy2, hF⟩ := bind_some hF
    refine wl0 rfl (op_call hf TF.cl54 rfl (by decide) (laws_szAmplifierS_ok (S := fun _ => True) (mk_list (rep_true (α := List Amplifier) (H.get 0 rfl))) mk_int hy2) fun v2 w a hp2 hf => ?_)
    obtain ⟨hb2, hp2⟩ := hp2
    obtain rfl := VR_int hp2
    have H := H.keep hb2
    refine pRun_ok (tb := tab) (n := 71) tabOk 1 _ _ hf rfl rfl fun a hf => ?_
    refine wl_end ?_
    refine then_n ?_
    refine sq ?_
    refine sq ?_
    refine reg ?_
    refine pRun_ok (tb := tab) (n := 71) tabOk 2 _ _ hf rfl rfl fun a hf => ?_
    refine wl_end ?_
    refine then_n ?_
    refine (Bool.eq_false_or_eq_true (decide (y2 < 0))).elim (fun hc2 => ?_) (fun hc2 => ?_)
    · rw [if_pos hc2] at hF
      refine cd_t hf rfl hc2 ?_
      refine sq ?_
      refine reg ?_
      refine pRun_ok (tb := tab) (n := 71) tabOk 1 _ _ hf rfl rfl fun a hf => ?_
      have hf := hf.prune [6] rfl
      refine wl_end ?_
      refine then_n ?_
      refine wp_ret (then_r (?_))
      obtain rfl := Option.some.inj hF
      refine ret_1 (fn := Try.f21) (r := .tmp 6) hf rfl (rv_tmp hf rfl) ?_
      exact ⟨_, rfl, H.bel, mk_bool⟩
    · rw [if_neg (nt hc2)] at hF
      refine cd_f hf rfl hc2 ?_
      refine wp_skip ?_
      refine then_n ?_
      refine sq ?_
      refine reg ?_
      refine pRun_ok (tb := tab) (n := 71) tabOk 1 _ _ hf rfl rfl fun a hf => ?_
      obtain ⟨y3, hy3, hF⟩ := bind_some hF
      refine wl0 rfl (op_call hf TF.cl82 rfl (by decide) (laws_toSpanS_ok (S := fun _ => True) (mk_list (rep_true (α := List Span) (H.get 1 rfl))) hy3) fun v3 w a hp3 hf => ?_)
      obtain ⟨hb3, F, hp4, hN⟩ := hp3
      obtain ⟨A3, c3, rfl, hl3⟩ := VO_list hp4
      have H := H.addOwn hb3 (X := [(⟨F, MP.own F [(.slice A3 y3.length c3)] (y3 : List Span)⟩ : DI)]) (by simpa using hN.1) (ps1 hl3 ps0) (by simpa using hN.2)
      have H := H.lend 0 rfl
      refine pRun_ok (tb := tab) (n := 71) tabOk 1 _ _ hf rfl rfl fun a hf => ?_
      obtain ⟨y4, hy4, hF⟩ := bind_some hF
      refine wl0 rfl (op_call hf TF.cl56 rfl (by decide) (laws_toAmplifierS_ok (S := fun _ => True) (mk_list (rep_true (α := List Amplifier) (H.get 1 rfl))) hy4) fun v4 w a hp5 hf => ?_)
      obtain ⟨hb4, F3, hp6, hN2⟩ := hp5
      obtain ⟨A4, c4, rfl, hl4⟩ := VO_list hp6
      have H := H.addOwn hb4 (X := [(⟨F3, MP.own F3 [(.slice A4 y4.length c4)] (y4 : List Amplifier)⟩ : DI)]) (by simpa using hN2.1) (ps1 hl4 ps0) (by simpa using hN2.2)
      have H := H.lend 0 rfl
      refine pRun_ok (tb := tab) (n := 71) tabOk 1 _ _ hf rfl rfl fun a hf => ?_
      obtain ⟨y5, hy5, hF⟩ := bind_some hF
      refine wl0 rfl (op_call hf TF.cl91 rfl (by decide) (spec_WorstLevel_ok (S := fun _ => True) (mk_list (rep_true (α := List Span) (H.get 1 rfl))) (mk_list (rep_true (α := List Amplifier) (H.get 0 rfl))) mk_int hy5) fun v5 w a hp7 hf => ?_)
      obtain ⟨hb5, v6, v7, v8, rfl, hp8, hp9, hp10⟩ := hp7
      obtain rfl := VR_int hp8
      obtain rfl := VR_int hp9
      obtain rfl := VR_bool hp10
      have H := H.keep hb5
      refine pRun_ok (tb := tab) (n := 71) tabOk 7 _ _ hf rfl rfl fun a hf => ?_
      have hf := hf.prune [0, 1, 2, 8, 9, 10] rfl
      refine wl_end ?_
      refine then_n ?_
      refine sq ?_
      refine reg ?_
      refine pRun_ok (tb := tab) (n := 71) tabOk 1 _ _ hf rfl rfl fun a hf => ?_
      obtain ⟨y6, hy6, hF⟩ := bind_some hF
      refine wl0 rfl (op_call hf TF.cl82 rfl (by decide) (laws_toSpanS_ok (S := fun _ => True) (mk_list (rep_true (α := List Span) (H.get 3 rfl))) hy6) fun v9 w a hp11 hf => ?_)
      obtain ⟨hb6, F5, hp12, hN3⟩ := hp11
      obtain ⟨A5, c5, rfl, hl5⟩ := VO_list hp12
      have H := H.addOwn hb6 (X := [(⟨F5, MP.own F5 [(.slice A5 y6.length c5)] (y6 : List Span)⟩ : DI)]) (by simpa using hN3.1) (ps1 hl5 ps0) (by simpa using hN3.2)
      have H := H.lend 0 rfl
      refine pRun_ok (tb := tab) (n := 71) tabOk 1 _ _ hf rfl rfl fun a hf => ?_
      refine wl_end ?_
      refine then_n ?_
      refine sq ?_
      refine reg ?_
      refine pRun_ok (tb := tab) (n := 71) tabOk 1 _ _ hf rfl rfl fun a hf => ?_
      obtain ⟨y7, hy7, hF⟩ := bind_some hF
      refine wl0 rfl (op_call hf TF.cl56 rfl (by decide) (laws_toAmplifierS_ok (S := fun _ => True) (mk_list (rep_true (α := List Amplifier) (H.get 3 rfl))) hy7) fun v10 w a hp13 hf => ?_)
      obtain ⟨hb7, F7, hp14, hN4⟩ := hp13
      obtain ⟨A6, c6, rfl, hl6⟩ := VO_list hp14
      have H := H.addOwn hb7 (X := [(⟨F7, MP.own F7 [(.slice A6 y7.length c6)] (y7 : List Amplifier)⟩ : DI)]) (by simpa using hN4.1) (ps1 hl6 ps0) (by simpa using hN4.2)
      have H := H.lend 0 rfl
      refine pRun_ok (tb := tab) (n := 71) tabOk 1 _ _ hf rfl rfl fun a hf => ?_
      refine wl_end ?_
      refine then_n ?_
      refine sq ?_
      refine reg ?_
      refine pRun_ok (tb := tab) (n := 71) tabOk 3 _ _ hf rfl rfl fun a hf => ?_
      obtain ⟨y8, hy8, hF⟩ := bind_some hF
      refine wl0 rfl (op_call hf TF.cl92 rfl (by decide) (impl_WorstLevel_ok (S := fun _ => True) (mk_list (rep_true (α := List Span) (H.get 1 rfl))) (mk_list (rep_true (α := List Amplifier) (H.get 0 rfl))) mk_int hy8) fun v11 w a hp15 hf => ?_)
      obtain ⟨hb8, v12, v13, v14, rfl, hp16, hp17, hp18⟩ := hp15
      obtain rfl := VR_int hp16
      obtain rfl := VR_int hp17
      obtain rfl := VR_bool hp18
      have H := H.keep hb8
      refine pRun_ok (tb := tab) (n := 71) tabOk 7 _ _ hf rfl rfl fun a hf => ?_
      have hf := hf.prune [0, 1, 8, 9, 10, 11, 12, 13, 14, 15] rfl
      refine wl_end ?_
      refine then_n ?_
      refine sq ?_
      refine sq ?_
      obtain ⟨c7, hGc7, hF⟩ := bind_some hF
      refine mid (fun a w => Fr a 71 [(0, (.slice A aLine.length c)), (1, (.slice A2 aList.length c2)), (11, (.slice A5 y6.length c5)), (12, (.slice A6 y7.length c6)), (60, (.bool c7))] ∧ Mem ⟨w0, []⟩ S [] [] [⟨F7, MP.own F7 [(.slice A6 y7.length c6)] (y7 : List Amplifier)⟩, ⟨F5, MP.own F5 [(.slice A5 y6.length c5)] (y6 : List Span)⟩] [(true, MP.val [(.slice A6 y7.length c6)] (y7 : List Amplifier)), (true, MP.val [(.slice A5 y6.length c5)] (y6 : List Span)), (false, MP.val [(.slice A2 aList.length c2)] (aList : List Amplifier)), (false, MP.val [(.slice A aLine.length c)] (aLine : List Span))] w) ?_ ?_
      · refine reg ?_
        refine pRun_ok (tb := tab) (n := 71) tabOk 4 _ _ hf rfl rfl fun a hf => ?_
        refine (Bool.eq_false_or_eq_true (y8.1 != y5.1)).elim (fun hc3 => ?_) (fun hc3 => ?_)
        · rw [if_pos hc3] at hGc7
          have hf := hf.lit 51 rfl hc3
          refine pRun_ok (tb := tab) (n := 71) tabOk 9 _ _ hf rfl rfl fun a hf => ?_
          obtain rfl := Option.some.inj hGc7
          have hf := hf.prune [0, 1, 11, 12, 60] rfl
          have H := H.let [] [] [true, true, false, false] [0, 1, 4, 5]
          exact wl_end ⟨hf, H⟩
        · rw [if_neg (nt hc3)] at hGc7
          have hf := hf.lit 51 rfl hc3
          refine pRun_ok (tb := tab) (n := 71) tabOk 5 _ _ hf rfl rfl fun a hf => ?_
          refine (Bool.eq_false_or_eq_true (y8.2.1 != y5.2.1)).elim (fun hc4 => ?_) (fun hc4 => ?_)
          · rw [if_pos hc4] at hGc7
            have hf := hf.lit 56 rfl hc4
            refine pRun_ok (tb := tab) (n := 71) tabOk 4 _ _ hf rfl rfl fun a hf => ?_
            obtain rfl := Option.some.inj hGc7
            have hf := hf.prune [0, 1, 11, 12, 60] rfl
            have H := H.let [] [] [true, true, false, false] [0, 1, 4, 5]
            exact wl_end ⟨hf, H⟩
          · rw [if_neg (nt hc4)] at hGc7
            have hf := hf.lit 56 rfl hc4
            refine pRun_ok (tb := tab) (n := 71) tabOk 4 _ _ hf rfl rfl fun a hf => ?_
            obtain rfl := Option.some.inj hGc7
            have hf := hf.prune [0, 1, 11, 12, 60] rfl
            have H := H.let [] [] [true, true, false, false] [0, 1, 4, 5]
            exact wl_end ⟨hf, H⟩
      rintro a w ⟨hf, H⟩
      refine then_n ?_
      refine (Bool.eq_false_or_eq_true (c7)).elim (fun hc5 => ?_) (fun hc5 => ?_)
      · rw [if_pos hc5] at hF
        refine cd_t hf rfl hc5 ?_
        refine sq ?_
        refine reg ?_
        refine pRun_ok (tb := tab) (n := 71) tabOk 1 _ _ hf rfl rfl fun a hf => ?_
        refine wl_end ?_
        refine then_n ?_
        refine wp_ret (then_r (?_))
        obtain rfl := Option.some.inj hF
        refine ret_1 (fn := Try.f21) (r := .tmp 6) hf rfl (rv_tmp hf rfl) ?_
        exact ⟨_, rfl, H.bel, mk_bool⟩
      · rw [if_neg (nt hc5)] at hF
        refine cd_f hf rfl hc5 ?_
        refine wp_skip ?_
        refine then_n ?_
        refine sq ?_
        refine sq ?_
        refine reg ?_
        refine pRun_ok (tb := tab) (n := 71) tabOk 2 _ _ hf rfl rfl fun a hf => ?_
        obtain ⟨y9, hy9, hF⟩ := bind_some hF
        refine wl0 rfl (op_call hf TF.cl82 rfl (by decide) (laws_toSpanS_ok (S := fun _ => True) (mk_list (rep_true (α := List Span) (H.get 3 rfl))) hy9) fun v15 w a hp19 hf => ?_)
        obtain ⟨hb9, F9, hp20, hN5⟩ := hp19
        obtain ⟨A7, c8, rfl, hl7⟩ := VO_list hp20
        have H := H.addOwn hb9 (X := [(⟨F9, MP.own F9 [(.slice A7 y9.length c8)] (y9 : List Span)⟩ : DI)]) (by simpa using hN5.1) (ps1 hl7 ps0) (by simpa using hN5.2)
        have H := H.lend 0 rfl
        obtain ⟨y10, hy10, hF⟩ := bind_some hF
        refine wl0 rfl (op_call hf TF.cl85 rfl (by decide) (laws_eqSpanS_ok (S := fun _ => True) (mk_list (rep_true (α := List Span) (H.get 2 rfl))) (mk_list (rep_true (α := List Span) (H.get 0 rfl))) hy10) fun v16 w a hp21 hf => ?_)
        obtain ⟨hb10, hp21⟩ := hp21
        obtain rfl := VR_bool hp21
        have H := H.keep hb10
        refine pRun_ok (tb := tab) (n := 71) tabOk 1 _ _ hf rfl rfl fun a hf => ?_
        refine wl_end ?_
        refine then_n ?_
        refine (Bool.eq_false_or_eq_true (!y10)).elim (fun hc6 => ?_) (fun hc6 => ?_)
        · rw [if_pos hc6] at hF
          refine cd_t hf rfl hc6 ?_
          refine sq ?_
          refine reg ?_
          refine pRun_ok (tb := tab) (n := 71) tabOk 1 _ _ hf rfl rfl fun a hf => ?_
          refine wl_end ?_
          refine then_n ?_
          refine wp_ret (then_r (?_))
          obtain rfl := Option.some.inj hF
          refine ret_1 (fn := Try.f21) (r := .tmp 6) hf rfl (rv_tmp hf rfl) ?_
          exact ⟨_, rfl, H.bel, mk_bool⟩
        · rw [if_neg (nt hc6)] at hF
          refine cd_f hf rfl hc6 ?_
          refine wp_skip ?_
          refine then_n ?_
          refine sq ?_
          refine sq ?_
          refine reg ?_
          refine pRun_ok (tb := tab) (n := 71) tabOk 2 _ _ hf rfl rfl fun a hf => ?_
          obtain ⟨y11, hy11, hF⟩ := bind_some hF
          refine wl0 rfl (op_call hf TF.cl56 rfl (by decide) (laws_toAmplifierS_ok (S := fun _ => True) (mk_list (rep_true (α := List Amplifier) (H.get 3 rfl))) hy11) fun v17 w a hp22 hf => ?_)
          obtain ⟨hb11, F11, hp23, hN6⟩ := hp22
          obtain ⟨A8, c9, rfl, hl8⟩ := VO_list hp23
          have H := H.addOwn hb11 (X := [(⟨F11, MP.own F11 [(.slice A8 y11.length c9)] (y11 : List Amplifier)⟩ : DI)]) (by simpa using hN6.1) (ps1 hl8 ps0) (by simpa using hN6.2)
          have H := H.lend 0 rfl
          obtain ⟨y12, hy12, hF⟩ := bind_some hF
          refine wl0 rfl (op_call hf TF.cl58 rfl (by decide) (laws_eqAmplifierS_ok (S := fun _ => True) (mk_list (rep_true (α := List Amplifier) (H.get 2 rfl))) (mk_list (rep_true (α := List Amplifier) (H.get 0 rfl))) hy12) fun v18 w a hp24 hf => ?_)
          obtain ⟨hb12, hp24⟩ := hp24
          obtain rfl := VR_bool hp24
          have H := H.keep hb12
          refine pRun_ok (tb := tab) (n := 71) tabOk 1 _ _ hf rfl rfl fun a hf => ?_
          have hf := hf.prune [70] rfl
          refine wl_end ?_
          refine then_n ?_
          refine (Bool.eq_false_or_eq_true (!y12)).elim (fun hc7 => ?_) (fun hc7 => ?_)
          · rw [if_pos hc7] at hF
            refine cd_t hf rfl hc7 ?_
            refine sq ?_
            refine reg ?_
            refine pRun_ok (tb := tab) (n := 71) tabOk 1 _ _ hf rfl rfl fun a hf => ?_
            refine wl_end ?_
            refine then_n ?_
            refine wp_ret (then_r (?_))
            obtain rfl := Option.some.inj hF
            refine ret_1 (fn := Try.f21) (r := .tmp 6) hf rfl (rv_tmp hf rfl) ?_
            exact ⟨_, rfl, H.bel, mk_bool⟩
          · rw [if_neg (nt hc7)] at hF
            refine cd_f hf rfl hc7 ?_
            refine wp_skip ?_
            refine then_n ?_
            refine sq ?_
            refine reg ?_
            refine pRun_ok (tb := tab) (n := 71) tabOk 1 _ _ hf rfl rfl fun a hf => ?_
            refine wl_end ?_
            refine then_n ?_
            refine wp_ret (?_)
            obtain rfl := Option.some.inj hF
            refine ret_1 (fn := Try.f21) (r := .tmp 6) hf rfl (rv_tmp hf rfl) ?_
            exact ⟨_, rfl, H.bel, mk_bool⟩
end AT
