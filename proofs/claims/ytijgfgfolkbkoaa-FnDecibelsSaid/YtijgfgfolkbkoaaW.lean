/- The Go functions do what is told of them, by program (gen.py). -/
import Derived.Test.YtijgfgfolkbkoaaW0
set_option linter.unusedVariables false
set_option linter.unusedSimpArgs false
set_option maxRecDepth 100000
namespace AT
open Go Go.RowKit Go.Proofs

/- loop.example/g00897/impl.MostSpans -/
set_option maxHeartbeats 1000000 in
theorem impl_MostSpans_ok {fu : Nat} {w0 : World} {S : Nat → Prop} {v0_ : Value} {v1_ : Value} {v2_ : Value} {s' : Span} {launch : Int} {need : Int} {r : Int × Bool} (h0 : VR w0 S v0_ s') (h1 : VR w0 S v1_ launch) (h2 : VR w0 S v2_ need) (hF : impl_MostSpans fu s' launch need = some r) :
    Calls Try.prog 32 [v0_, v1_, v2_].toArray w0 fun e w' => ∃ v, e = .returned v ∧ (Below w0.heap.size w0 w' ∧ ∃ u0 u1, v = .tuple #[u0, u1] ∧ VR w' (St ⟨w0, []⟩ S [] [] [] true) u0 r.1 ∧ VR w' (St ⟨w0, []⟩ S [] [] [] true) u1 r.2) := by
  obtain rfl := Span_open h0
  obtain rfl := VR_int h1
  obtain rfl := VR_int h2
  have H := Mem.start ⟨w0, []⟩ S
  refine enter Try.func32 rfl rfl (nle rfl) rfl fun a hf => ?_
  rw [impl_MostSpans] at hF
  refine sq ?_
  refine reg ?_
  refine wl0 rfl (op_box hf H rfl rfl (by decide) fun b' a w hf H => ?_)
  refine pRun_ok (tb := tab) (n := 38) tabOk 2 _ _ hf rfl rfl fun a hf => ?_
  refine wl_end ?_
  refine then_n ?_
  refine sq ?_
  refine sq ?_
  obtain ⟨c, hGc, hF⟩ := bind_some hF
  refine mid (fun a w => Fr a 38 [(1, (.int .i64 launch)), (2, (.int .i64 need)), (3, (.pointer (some ⟨b', 0, none⟩))), (21, (.bool c))] ∧ Mem ⟨w0, []⟩ S [⟨b', 28, [(.int .i64 s'.Length), (.int .i64 s'.Loss), (.int .i64 s'.Splices)]⟩] [] [] [] w) ?_ ?_
  · refine reg ?_
    refine wl0 rfl (op_q hf (rq_loadBN hf H TF.la28 0 rfl rfl rfl rfl) rfl (by decide) fun a hf => ?_)
    obtain ⟨y, hy, hGc⟩ := bind_some hGc
    refine wl0 rfl (op_call hf TF.cl101 rfl (by decide) (impl_isSpan_ok (S := fun _ => True) Span_mkv hy) fun v w a hp hf => ?_)
    obtain ⟨hb, hp⟩ := hp
    obtain rfl := VR_bool hp
    have H := H.keep hb
    refine pRun_ok (tb := tab) (n := 38) tabOk 2 _ _ hf rfl rfl fun a hf => ?_
    refine (Bool.eq_false_or_eq_true (!y)).elim (fun hc => ?_) (fun hc => ?_)
    · rw [if_pos hc] at hGc
      have hf := hf.lit 12 rfl hc
      refine pRun_ok (tb := tab) (n := 38) tabOk 9 _ _ hf rfl rfl fun a hf => ?_
      obtain rfl := Option.some.inj hGc
      have hf := hf.prune [1, 2, 3, 21] rfl
      have H := H.let [true] [] [] []
      exact wl_end ⟨hf, H⟩
    · rw [if_neg (nt hc)] at hGc
      have hf := hf.lit 12 rfl hc
      refine pRun_ok (tb := tab) (n := 38) tabOk 1 _ _ hf rfl rfl fun a hf => ?_
      obtain ⟨y2, hy2, hGc⟩ := bind_some hGc
      refine wlg hf rfl rfl rfl (op_call hf TF.cl107 rfl (by decide) (impl_isLevel_ok (S := fun _ => True) mk_int hy2) fun v2 w a hp2 hf => ?_)
      obtain ⟨hb2, hp2⟩ := hp2
      obtain rfl := VR_bool hp2
      have H := H.keep hb2
      refine pRun_ok (tb := tab) (n := 38) tabOk 3 _ _ hf rfl rfl fun a hf => ?_
      refine (Bool.eq_false_or_eq_true (!y2)).elim (fun hc2 => ?_) (fun hc2 => ?_)
      · rw [if_pos hc2] at hGc
        have hf := hf.lit 17 rfl hc2
        refine pRun_ok (tb := tab) (n := 38) tabOk 4 _ _ hf rfl rfl fun a hf => ?_
        obtain rfl := Option.some.inj hGc
        have hf := hf.prune [1, 2, 3, 21] rfl
        have H := H.let [true] [] [] []
        exact wl_end ⟨hf, H⟩
      · rw [if_neg (nt hc2)] at hGc
        have hf := hf.lit 17 rfl hc2
        refine pRun_ok (tb := tab) (n := 38) tabOk 1 _ _ hf rfl rfl fun a hf => ?_
        obtain ⟨y3, hy3, hGc⟩ := bind_some hGc
        refine wlg hf rfl rfl rfl (op_call hf TF.cl107 rfl (by decide) (impl_isLevel_ok (S := fun _ => True) mk_int hy3) fun v3 w a hp3 hf => ?_)
        obtain ⟨hb3, hp3⟩ := hp3
        obtain rfl := VR_bool hp3
        have H := H.keep hb3
        refine pRun_ok (tb := tab) (n := 38) tabOk 2 _ _ hf rfl rfl fun a hf => ?_
        obtain rfl := Option.some.inj hGc
        have hf := hf.prune [1, 2, 3, 21] rfl
        have H := H.let [true] [] [] []
        exact wl_end ⟨hf, H⟩
  rintro a w ⟨hf, H⟩
  refine then_n ?_
  refine (Bool.eq_false_or_eq_true (c)).elim (fun hc3 => ?_) (fun hc3 => ?_)
  · rw [if_pos hc3] at hF
    refine cd_t hf rfl hc3 ?_
    refine sq ?_
    refine reg ?_
    refine pRun_ok (tb := tab) (n := 38) tabOk 2 _ _ hf rfl rfl fun a hf => ?_
    refine wl_end ?_
    refine then_n ?_
    refine wp_ret (then_r (?_))
    obtain rfl := Option.some.inj hF
    refine ret_2 (fn := Try.f32) (r := .tmp 6) (s := .tmp 7) hf rfl (rv_tmp hf rfl) (rv_tmp hf rfl) ?_
    exact ⟨_, rfl, H.bel, _, _, rfl, mk_int, mk_bool⟩
  · rw [if_neg (nt hc3)] at hF
    refine cd_f hf rfl hc3 ?_
    refine wp_skip ?_
    refine then_n ?_
    refine sq ?_
    refine reg ?_
    refine pRun_ok (tb := tab) (n := 38) tabOk 1 _ _ hf rfl rfl fun a hf => ?_
    refine wl_end ?_
    refine then_n ?_
    refine sq ?_
    obtain ⟨out', hB1, hF⟩ := bind_some hF
    have hf := hf.prune [1, 2, 3, 8] rfl
    have H := H.let [true] [] [] []
    have hI : (fun (s : Int) (a : Act) (w : World) => match s with | count => Fr a 38 [(1, (.int .i64 launch)), (2, (.int .i64 need)), (3, (.pointer (some ⟨b', 0, none⟩))), (8, (.int .i64 count))] ∧ Mem ⟨w0, []⟩ S [⟨b', 28, [(.int .i64 s'.Length), (.int .i64 s'.Loss), (.int .i64 s'.Splices)]⟩] [] [] [] w) 0 a w := ⟨hf, H⟩
    refine mid (fun a w => ∃ s : Int, out' = s ∧ (fun (s : Int) (a : Act) (w : World) => match s with | count => Fr a 38 [(1, (.int .i64 launch)), (2, (.int .i64 need)), (3, (.pointer (some ⟨b', 0, none⟩))), (8, (.int .i64 count))] ∧ Mem ⟨w0, []⟩ S [⟨b', 28, [(.int .i64 s'.Length), (.int .i64 s'.Loss), (.int .i64 s'.Splices)]⟩] [] [] [] w) s a w) ?_ ?_
    · refine wp_block ?_
      refine loop_rule (fun k (s : Int) => impl_MostSpans_L1 fu s' launch need k s = some out') (fun (s : Int) (a : Act) (w : World) => match s with | count => Fr a 38 [(1, (.int .i64 launch)), (2, (.int .i64 need)), (3, (.pointer (some ⟨b', 0, none⟩))), (8, (.int .i64 count))] ∧ Mem ⟨w0, []⟩ S [⟨b', 28, [(.int .i64 s'.Length), (.int .i64 s'.Loss), (.int .i64 s'.Splices)]⟩] [] [] [] w) (fun s h => by cases h) ?_ fu 0 a w hB1 hI
      rintro fk count a w hR1 hI
      replace hR1 : impl_MostSpans_L1 fu s' launch need (fk + 1) count = some out' := hR1
      rw [impl_MostSpans_L1] at hR1
      obtain ⟨hf, H⟩ := hI
      refine sq ?_
      refine sq ?_
      obtain ⟨c2, hGc2, hR1⟩ := bind_some hR1
      refine mid (fun a w => Fr a 38 [(1, (.int .i64 launch)), (2, (.int .i64 need)), (3, (.pointer (some ⟨b', 0, none⟩))), (8, (.int .i64 count)), (34, (.bool c2))] ∧ Mem ⟨w0, []⟩ S [⟨b', 28, [(.int .i64 s'.Length), (.int .i64 s'.Loss), (.int .i64 s'.Splices)]⟩] [] [] [] w) ?_ ?_
      · refine reg ?_
        refine pRun_ok (tb := tab) (n := 38) tabOk 3 _ _ hf rfl rfl fun a hf => ?_
        refine (Bool.eq_false_or_eq_true (decide (count < 12))).elim (fun hc4 => ?_) (fun hc4 => ?_)
        · rw [if_pos hc4] at hGc2
          have hf := hf.lit 24 rfl hc4
          refine pRun_ok (tb := tab) (n := 38) tabOk 3 _ _ hf rfl rfl fun a hf => ?_
          refine wlg hf rfl rfl rfl (op_q hf (rq_loadBN hf H TF.la28 0 rfl rfl rfl rfl) rfl (by decide) fun a hf => ?_)
          obtain ⟨y4, hy4, hGc2⟩ := bind_some hGc2
          refine wlg hf rfl rfl rfl (op_call hf TF.cl102 rfl (by decide) (impl_lossOf_ok (S := fun _ => True) Span_mkv hy4) fun v4 w a hp4 hf => ?_)
          obtain ⟨hb4, hp4⟩ := hp4
          obtain rfl := VR_int hp4
          have H := H.keep hb4
          refine pRun_ok (tb := tab) (n := 38) tabOk 5 _ _ hf rfl rfl fun a hf => ?_
          obtain rfl := Option.some.inj hGc2
          have hf := hf.prune [1, 2, 3, 8, 34] rfl
          have H := H.let [true] [] [] []
          exact wl_end ⟨hf, H⟩
        · rw [if_neg (nt hc4)] at hGc2
          have hf := hf.lit 24 rfl hc4
          refine pRun_ok (tb := tab) (n := 38) tabOk 10 _ _ hf rfl rfl fun a hf => ?_
          obtain rfl := Option.some.inj hGc2
          have hf := hf.prune [1, 2, 3, 8, 34] rfl
          have H := H.let [true] [] [] []
          exact wl_end ⟨hf, H⟩
      rintro a w ⟨hf, H⟩
      refine then_n ?_
      refine (Bool.eq_false_or_eq_true (c2)).elim (fun hc5 => ?_) (fun hc5 => ?_)
      · rw [if_pos hc5] at hR1
        refine cd_t hf rfl hc5 ?_
        refine wp_skip ?_
        refine then_n ?_
        refine wp_block ?_
        refine reg ?_
        refine pRun_ok (tb := tab) (n := 38) tabOk 3 _ _ hf rfl rfl fun a hf => ?_
        refine wl_end ?_
        refine blk_n ?_
        have hf := hf.prune [1, 2, 3, 8] rfl
        have H := H.let [true] [] [] []
        exact then_n ⟨w64 (count + 1), hR1, hf, H⟩
      · rw [if_neg (nt hc5)] at hR1
        refine cd_f hf rfl hc5 ?_
        refine wp_exit (then_x (then_x (blk_e (?_))))
        have hf := hf.prune [1, 2, 3, 8] rfl
        have H := H.let [true] [] [] []
        exact ⟨count, (Option.some.inj hR1).symm, hf, H⟩
    rintro a w ⟨count2, rfl, hf, H⟩
    refine then_n ?_
    refine sq ?_
    refine reg ?_
    refine pRun_ok (tb := tab) (n := 38) tabOk 3 _ _ hf rfl rfl fun a hf => ?_
    refine wl_end ?_
    refine then_n ?_
    refine wp_ret (?_)
    obtain rfl := Option.some.inj hF
    refine ret_2 (fn := Try.f32) (r := .tmp 6) (s := .tmp 7) hf rfl (rv_tmp hf rfl) (rv_tmp hf rfl) ?_
    exact ⟨_, rfl, H.bel, _, _, rfl, mk_int, mk_bool⟩

/- loop.example/g00897/spec.l22Span -/
set_option maxHeartbeats 1000000 in
theorem spec_l22Span_ok {fu : Nat} {w0 : World} {S : Nat → Prop} {v0_ : Value} {s' : Span} {r : Bool} (h0 : VR w0 S v0_ s') (hF : spec_l22Span fu s' = some r) :
    Calls Try.prog 99 [v0_].toArray w0 fun e w' => ∃ v, e = .returned v ∧ (Below w0.heap.size w0 w' ∧ VR w' (St ⟨w0, []⟩ S [] [] [] true) v r) := by
  obtain rfl := Span_open h0
  have H := Mem.start ⟨w0, []⟩ S
  refine enter Try.func99 rfl rfl (nle rfl) rfl fun a hf => ?_
  rw [spec_l22Span] at hF
  refine sq ?_
  refine reg ?_
  refine wl0 rfl (op_box hf H rfl rfl (by decide) fun b' a w hf H => ?_)
  refine pRun_ok (tb := tab) (n := 16) tabOk 1 _ _ hf rfl rfl fun a hf => ?_
  refine wl_end ?_
  refine then_n ?_
  refine sq ?_
  obtain ⟨c, hGc, hF⟩ := bind_some hF
  refine mid (fun a w => Fr a 16 [(2, (.bool c))] ∧ Mem ⟨w0, []⟩ S [] [] [] [] w) ?_ ?_
  · refine reg ?_
    refine pRun_ok (tb := tab) (n := 16) tabOk 1 _ _ hf rfl rfl fun a hf => ?_
    refine wl0 rfl (op_q hf (rq_loadB hf H TF.ls3 0 rfl rfl rfl) rfl (by decide) fun a hf => ?_)
    obtain ⟨y, hy, hGc⟩ := bind_some hGc
    refine wl0 rfl (op_call hf TF.cl97 rfl (by decide) (spec_l1In_ok (S := fun _ => True) mk_int mk_int mk_int hy) fun v w a hp hf => ?_)
    obtain ⟨hb, hp⟩ := hp
    obtain rfl := VR_bool hp
    have H := H.keep hb
    refine pRun_ok (tb := tab) (n := 16) tabOk 1 _ _ hf rfl rfl fun a hf => ?_
    refine (Bool.eq_false_or_eq_true (y)).elim (fun hc => ?_) (fun hc => ?_)
    · rw [if_pos hc] at hGc
      have hf := hf.lit 6 rfl hc
      refine pRun_ok (tb := tab) (n := 16) tabOk 1 _ _ hf rfl rfl fun a hf => ?_
      refine wlg hf rfl rfl rfl (op_q hf (rq_loadB hf H TF.ls3 0 rfl rfl rfl) rfl (by decide) fun a hf => ?_)
      obtain ⟨y2, hy2, hGc⟩ := bind_some hGc
      refine wlg hf rfl rfl rfl (op_call hf TF.cl97 rfl (by decide) (spec_l1In_ok (S := fun _ => True) mk_int mk_int mk_int hy2) fun v2 w a hp2 hf => ?_)
      obtain ⟨hb2, hp2⟩ := hp2
      obtain rfl := VR_bool hp2
      have H := H.keep hb2
      refine pRun_ok (tb := tab) (n := 16) tabOk 2 _ _ hf rfl rfl fun a hf => ?_
      refine (Bool.eq_false_or_eq_true (y2)).elim (fun hc2 => ?_) (fun hc2 => ?_)
      · rw [if_pos hc2] at hGc
        have hf := hf.lit 11 rfl hc2
        refine pRun_ok (tb := tab) (n := 16) tabOk 1 _ _ hf rfl rfl fun a hf => ?_
        refine wlg hf rfl rfl rfl (op_q hf (rq_loadB hf H TF.ls3 0 rfl rfl rfl) rfl (by decide) fun a hf => ?_)
        obtain ⟨y3, hy3, hGc⟩ := bind_some hGc
        refine wlg hf rfl rfl rfl (op_call hf TF.cl97 rfl (by decide) (spec_l1In_ok (S := fun _ => True) mk_int mk_int mk_int hy3) fun v3 w a hp3 hf => ?_)
        obtain ⟨hb3, hp3⟩ := hp3
        obtain rfl := VR_bool hp3
        have H := H.keep hb3
        refine pRun_ok (tb := tab) (n := 16) tabOk 2 _ _ hf rfl rfl fun a hf => ?_
        obtain rfl := Option.some.inj hGc
        have hf := hf.prune [2] rfl
        have H := H.let [false] [] [] []
        exact wl_end ⟨hf, H⟩
      · rw [if_neg (nt hc2)] at hGc
        have hf := hf.lit 11 rfl hc2
        refine pRun_ok (tb := tab) (n := 16) tabOk 5 _ _ hf rfl rfl fun a hf => ?_
        obtain rfl := Option.some.inj hGc
        have hf := hf.prune [2] rfl
        have H := H.let [false] [] [] []
        exact wl_end ⟨hf, H⟩
    · rw [if_neg (nt hc)] at hGc
      have hf := hf.lit 6 rfl hc
      refine pRun_ok (tb := tab) (n := 16) tabOk 10 _ _ hf rfl rfl fun a hf => ?_
      obtain rfl := Option.some.inj hGc
      have hf := hf.prune [2] rfl
      have H := H.let [false] [] [] []
      exact wl_end ⟨hf, H⟩
  rintro a w ⟨hf, H⟩
  refine then_n ?_
  refine wp_ret (?_)
  obtain rfl := Option.some.inj hF
  refine ret_1 (fn := Try.f99) (r := .tmp 2) hf rfl (rv_tmp hf rfl) ?_
  exact ⟨_, rfl, H.bel, mk_bool⟩

/- loop.example/g00897/spec.l22Loss -/
set_option maxHeartbeats 1000000 in
theorem spec_l22Loss_ok {fu : Nat} {w0 : World} {S : Nat → Prop} {v0_ : Value} {s' : Span} {r : Int} (h0 : VR w0 S v0_ s') (hF : spec_l22Loss fu s' = some r) :
    Calls Try.prog 100 [v0_].toArray w0 fun e w' => ∃ v, e = .returned v ∧ (Below w0.heap.size w0 w' ∧ VR w' (St ⟨w0, []⟩ S [] [] [] true) v r) := by
  obtain rfl := Span_open h0
  have H := Mem.start ⟨w0, []⟩ S
  refine enter Try.func100 rfl rfl (nle rfl) rfl fun a hf => ?_
  rw [spec_l22Loss] at hF
  refine sq ?_
  refine reg ?_
  refine wl0 rfl (op_box hf H rfl rfl (by decide) fun b' a w hf H => ?_)
  refine pRun_ok (tb := tab) (n := 14) tabOk 1 _ _ hf rfl rfl fun a hf => ?_
  refine wl_end ?_
  refine then_n ?_
  refine sq ?_
  refine reg ?_
  refine pRun_ok (tb := tab) (n := 14) tabOk 1 _ _ hf rfl rfl fun a hf => ?_
  refine wl0 rfl (op_q hf (rq_loadB hf H TF.ls3 0 rfl rfl rfl) rfl (by decide) fun a hf => ?_)
  refine pRun_ok (tb := tab) (n := 14) tabOk 1 _ _ hf rfl rfl fun a hf => ?_
  refine wl0 rfl (op_q hf (rq_loadB hf H TF.ls3 0 rfl rfl rfl) rfl (by decide) fun a hf => ?_)
  refine pRun_ok (tb := tab) (n := 14) tabOk 2 _ _ hf rfl rfl fun a hf => ?_
  obtain ⟨q, hq, hF⟩ := bind_some hF
  refine wl0 rfl (op_q hf (rq_quo hf rfl rfl hq) rfl (by decide) fun a hf => ?_)
  refine pRun_ok (tb := tab) (n := 14) tabOk 1 _ _ hf rfl rfl fun a hf => ?_
  refine wl0 rfl (op_q hf (rq_loadB hf H TF.ls3 0 rfl rfl rfl) rfl (by decide) fun a hf => ?_)
  refine pRun_ok (tb := tab) (n := 14) tabOk 3 _ _ hf rfl rfl fun a hf => ?_
  have hf := hf.prune [2] rfl
  refine wl_end ?_
  refine then_n ?_
  refine wp_ret (?_)
  obtain rfl := Option.some.inj hF
  refine ret_1 (fn := Try.f100) (r := .tmp 2) hf rfl (rv_tmp hf rfl) ?_
  exact ⟨_, rfl, H.bel, mk_int⟩

/- loop.example/g00897/spec.MostSpans -/
set_option maxHeartbeats 1000000 in
theorem spec_MostSpans_ok {fu : Nat} {w0 : World} {S : Nat → Prop} {v0_ : Value} {v1_ : Value} {v2_ : Value} {s' : Span} {launch : Int} {need : Int} {r : Int × Bool} (h0 : VR w0 S v0_ s') (h1 : VR w0 S v1_ launch) (h2 : VR w0 S v2_ need) (hF : spec_MostSpans fu s' launch need = some r) :
    Calls Try.prog 31 [v0_, v1_, v2_].toArray w0 fun e w' => ∃ v, e = .returned v ∧ (Below w0.heap.size w0 w' ∧ ∃ u0 u1, v = .tuple #[u0, u1] ∧ VR w' (St ⟨w0, []⟩ S [] [] [] true) u0 r.1 ∧ VR w' (St ⟨w0, []⟩ S [] [] [] true) u1 r.2) := by
  obtain rfl := Span_open h0
  obtain rfl := VR_int h1
  obtain rfl := VR_int h2
  have H := Mem.start ⟨w0, []⟩ S
  refine enter Try.func31 rfl rfl (nle rfl) rfl fun a hf => ?_
  rw [spec_MostSpans] at hF
  refine sq ?_
  refine reg ?_
  refine wl0 rfl (op_box hf H rfl rfl (by decide) fun b' a w hf H => ?_)
  refine pRun_ok (tb := tab) (n := 38) tabOk 2 _ _ hf rfl rfl fun a hf => ?_
  refine wl_end ?_
  refine then_n ?_
  refine sq ?_
  refine sq ?_
  obtain ⟨c, hGc, hF⟩ := bind_some hF
  refine mid (fun a w => Fr a 38 [(1, (.int .i64 launch)), (2, (.int .i64 need)), (3, (.pointer (some ⟨b', 0, none⟩))), (21, (.bool c))] ∧ Mem ⟨w0, []⟩ S [⟨b', 28, [(.int .i64 s'.Length), (.int .i64 s'.Loss), (.int .i64 s'.Splices)]⟩] [] [] [] w) ?_ ?_
  · refine reg ?_
    refine wl0 rfl (op_q hf (rq_loadBN hf H TF.la28 0 rfl rfl rfl rfl) rfl (by decide) fun a hf => ?_)
    obtain ⟨y, hy, hGc⟩ := bind_some hGc
    refine wl0 rfl (op_call hf TF.cl99 rfl (by decide) (spec_l22Span_ok (S := fun _ => True) Span_mkv hy) fun v w a hp hf => ?_)
    obtain ⟨hb, hp⟩ := hp
    obtain rfl := VR_bool hp
    have H := H.keep hb
    refine pRun_ok (tb := tab) (n := 38) tabOk 2 _ _ hf rfl rfl fun a hf => ?_
    refine (Bool.eq_false_or_eq_true (!y)).elim (fun hc => ?_) (fun hc => ?_)
    · rw [if_pos hc] at hGc
      have hf := hf.lit 12 rfl hc
      refine pRun_ok (tb := tab) (n := 38) tabOk 9 _ _ hf rfl rfl fun a hf => ?_
      obtain rfl := Option.some.inj hGc
      have hf := hf.prune [1, 2, 3, 21] rfl
      have H := H.let [true] [] [] []
      exact wl_end ⟨hf, H⟩
    · rw [if_neg (nt hc)] at hGc
      have hf := hf.lit 12 rfl hc
      refine pRun_ok (tb := tab) (n := 38) tabOk 1 _ _ hf rfl rfl fun a hf => ?_
      obtain ⟨y2, hy2, hGc⟩ := bind_some hGc
      refine wlg hf rfl rfl rfl (op_call hf TF.cl106 rfl (by decide) (spec_l22Level_ok (S := fun _ => True) mk_int hy2) fun v2 w a hp2 hf => ?_)
      obtain ⟨hb2, hp2⟩ := hp2
      obtain rfl := VR_bool hp2
      have H := H.keep hb2
      refine pRun_ok (tb := tab) (n := 38) tabOk 3 _ _ hf rfl rfl fun a hf => ?_
      refine (Bool.eq_false_or_eq_true (!y2)).elim (fun hc2 => ?_) (fun hc2 => ?_)
      · rw [if_pos hc2] at hGc
        have hf := hf.lit 17 rfl hc2
        refine pRun_ok (tb := tab) (n := 38) tabOk 4 _ _ hf rfl rfl fun a hf => ?_
        obtain rfl := Option.some.inj hGc
        have hf := hf.prune [1, 2, 3, 21] rfl
        have H := H.let [true] [] [] []
        exact wl_end ⟨hf, H⟩
      · rw [if_neg (nt hc2)] at hGc
        have hf := hf.lit 17 rfl hc2
        refine pRun_ok (tb := tab) (n := 38) tabOk 1 _ _ hf rfl rfl fun a hf => ?_
        obtain ⟨y3, hy3, hGc⟩ := bind_some hGc
        refine wlg hf rfl rfl rfl (op_call hf TF.cl106 rfl (by decide) (spec_l22Level_ok (S := fun _ => True) mk_int hy3) fun v3 w a hp3 hf => ?_)
        obtain ⟨hb3, hp3⟩ := hp3
        obtain rfl := VR_bool hp3
        have H := H.keep hb3
        refine pRun_ok (tb := tab) (n := 38) tabOk 2 _ _ hf rfl rfl fun a hf => ?_
        obtain rfl := Option.some.inj hGc
        have hf := hf.prune [1, 2, 3, 21] rfl
        have H := H.let [true] [] [] []
        exact wl_end ⟨hf, H⟩
  rintro a w ⟨hf, H⟩
  refine then_n ?_
  refine (Bool.eq_false_or_eq_true (c)).elim (fun hc3 => ?_) (fun hc3 => ?_)
  · rw [if_pos hc3] at hF
    refine cd_t hf rfl hc3 ?_
    refine sq ?_
    refine reg ?_
    refine pRun_ok (tb := tab) (n := 38) tabOk 2 _ _ hf rfl rfl fun a hf => ?_
    refine wl_end ?_
    refine then_n ?_
    refine wp_ret (then_r (?_))
    obtain rfl := Option.some.inj hF
    refine ret_2 (fn := Try.f31) (r := .tmp 6) (s := .tmp 7) hf rfl (rv_tmp hf rfl) (rv_tmp hf rfl) ?_
    exact ⟨_, rfl, H.bel, _, _, rfl, mk_int, mk_bool⟩
  · rw [if_neg (nt hc3)] at hF
    refine cd_f hf rfl hc3 ?_
    refine wp_skip ?_
    refine then_n ?_
    refine sq ?_
    refine reg ?_
    refine pRun_ok (tb := tab) (n := 38) tabOk 1 _ _ hf rfl rfl fun a hf => ?_
    refine wl_end ?_
    refine then_n ?_
    refine sq ?_
    obtain ⟨out', hB1, hF⟩ := bind_some hF
    have hf := hf.prune [1, 2, 3, 8] rfl
    have H := H.let [true] [] [] []
    have hI : (fun (s : Int) (a : Act) (w : World) => match s with | n' => Fr a 38 [(1, (.int .i64 launch)), (2, (.int .i64 need)), (3, (.pointer (some ⟨b', 0, none⟩))), (8, (.int .i64 n'))] ∧ Mem ⟨w0, []⟩ S [⟨b', 28, [(.int .i64 s'.Length), (.int .i64 s'.Loss), (.int .i64 s'.Splices)]⟩] [] [] [] w) 0 a w := ⟨hf, H⟩
    refine mid (fun a w => ∃ s : Int, out' = s ∧ (fun (s : Int) (a : Act) (w : World) => match s with | n' => Fr a 38 [(1, (.int .i64 launch)), (2, (.int .i64 need)), (3, (.pointer (some ⟨b', 0, none⟩))), (8, (.int .i64 n'))] ∧ Mem ⟨w0, []⟩ S [⟨b', 28, [(.int .i64 s'.Length), (.int .i64 s'.Loss), (.int .i64 s'.Splices)]⟩] [] [] [] w) s a w) ?_ ?_
    · refine wp_block ?_
      refine loop_rule (fun k (s : Int) => spec_MostSpans_L1 fu s' launch need k s = some out') (fun (s : Int) (a : Act) (w : World) => match s with | n' => Fr a 38 [(1, (.int .i64 launch)), (2, (.int .i64 need)), (3, (.pointer (some ⟨b', 0, none⟩))), (8, (.int .i64 n'))] ∧ Mem ⟨w0, []⟩ S [⟨b', 28, [(.int .i64 s'.Length), (.int .i64 s'.Loss), (.int .i64 s'.Splices)]⟩] [] [] [] w) (fun s h => by cases h) ?_ fu 0 a w hB1 hI
      rintro fk n' a w hR1 hI
      replace hR1 : spec_MostSpans_L1 fu s' launch need (fk + 1) n' = some out' := hR1
      rw [spec_MostSpans_L1] at hR1
      obtain ⟨hf, H⟩ := hI
      refine sq ?_
      refine sq ?_
      obtain ⟨c2, hGc2, hR1⟩ := bind_some hR1
      refine mid (fun a w => Fr a 38 [(1, (.int .i64 launch)), (2, (.int .i64 need)), (3, (.pointer (some ⟨b', 0, none⟩))), (8, (.int .i64 n')), (34, (.bool c2))] ∧ Mem ⟨w0, []⟩ S [⟨b', 28, [(.int .i64 s'.Length), (.int .i64 s'.Loss), (.int .i64 s'.Splices)]⟩] [] [] [] w) ?_ ?_
      · refine reg ?_
        refine pRun_ok (tb := tab) (n := 38) tabOk 3 _ _ hf rfl rfl fun a hf => ?_
        refine (Bool.eq_false_or_eq_true (decide (n' < 12))).elim (fun hc4 => ?_) (fun hc4 => ?_)
        · rw [if_pos hc4] at hGc2
          have hf := hf.lit 24 rfl hc4
          refine pRun_ok (tb := tab) (n := 38) tabOk 3 _ _ hf rfl rfl fun a hf => ?_
          refine wlg hf rfl rfl rfl (op_q hf (rq_loadBN hf H TF.la28 0 rfl rfl rfl rfl) rfl (by decide) fun a hf => ?_)
          obtain ⟨y4, hy4, hGc2⟩ := bind_some hGc2
          refine wlg hf rfl rfl rfl (op_call hf TF.cl100 rfl (by decide) (spec_l22Loss_ok (S := fun _ => True) Span_mkv hy4) fun v4 w a hp4 hf => ?_)
          obtain ⟨hb4, hp4⟩ := hp4
          obtain rfl := VR_int hp4
          have H := H.keep hb4
          refine pRun_ok (tb := tab) (n := 38) tabOk 5 _ _ hf rfl rfl fun a hf => ?_
          obtain rfl := Option.some.inj hGc2
          have hf := hf.prune [1, 2, 3, 8, 34] rfl
          have H := H.let [true] [] [] []
          exact wl_end ⟨hf, H⟩
        · rw [if_neg (nt hc4)] at hGc2
          have hf := hf.lit 24 rfl hc4
          refine pRun_ok (tb := tab) (n := 38) tabOk 10 _ _ hf rfl rfl fun a hf => ?_
          obtain rfl := Option.some.inj hGc2
          have hf := hf.prune [1, 2, 3, 8, 34] rfl
          have H := H.let [true] [] [] []
          exact wl_end ⟨hf, H⟩
      rintro a w ⟨hf, H⟩
      refine then_n ?_
      refine (Bool.eq_false_or_eq_true (c2)).elim (fun hc5 => ?_) (fun hc5 => ?_)
      · rw [if_pos hc5] at hR1
        refine cd_t hf rfl hc5 ?_
        refine wp_skip ?_
        refine then_n ?_
        refine wp_block ?_
        refine reg ?_
        refine pRun_ok (tb := tab) (n := 38) tabOk 3 _ _ hf rfl rfl fun a hf => ?_
        refine wl_end ?_
        refine blk_n ?_
        have hf := hf.prune [1, 2, 3, 8] rfl
        have H := H.let [true] [] [] []
        exact then_n ⟨w64 (n' + 1), hR1, hf, H⟩
      · rw [if_neg (nt hc5)] at hR1
        refine cd_f hf rfl hc5 ?_
        refine wp_exit (then_x (then_x (blk_e (?_))))
        have hf := hf.prune [1, 2, 3, 8] rfl
        have H := H.let [true] [] [] []
        exact ⟨n', (Option.some.inj hR1).symm, hf, H⟩
    rintro a w ⟨n2, rfl, hf, H⟩
    refine then_n ?_
    refine sq ?_
    refine reg ?_
    refine pRun_ok (tb := tab) (n := 38) tabOk 3 _ _ hf rfl rfl fun a hf => ?_
    refine wl_end ?_
    refine then_n ?_
    refine wp_ret (?_)
    obtain rfl := Option.some.inj hF
    refine ret_2 (fn := Try.f31) (r := .tmp 6) (s := .tmp 7) hf rfl (rv_tmp hf rfl) (rv_tmp hf rfl) ?_
    exact ⟨_, rfl, H.bel, _, _, rfl, mk_int, mk_bool⟩

/- loop.example/g00897/spec.SpanLoss -/
set_option maxHeartbeats 1000000 in
theorem spec_SpanLoss_ok {fu : Nat} {w0 : World} {S : Nat → Prop} {v0_ : Value} {s' : Span} {r : Int × Bool} (h0 : VR w0 S v0_ s') (hF : spec_SpanLoss fu s' = some r) :
    Calls Try.prog 26 [v0_].toArray w0 fun e w' => ∃ v, e = .returned v ∧ (Below w0.heap.size w0 w' ∧ ∃ u0 u1, v = .tuple #[u0, u1] ∧ VR w' (St ⟨w0, []⟩ S [] [] [] true) u0 r.1 ∧ VR w' (St ⟨w0, []⟩ S [] [] [] true) u1 r.2) := by
  obtain rfl := Span_open h0
  have H := Mem.start ⟨w0, []⟩ S
  refine enter Try.func26 rfl rfl (nle rfl) rfl fun a hf => ?_
  rw [spec_SpanLoss] at hF
  refine sq ?_
  refine reg ?_
  refine wl0 rfl (op_box hf H rfl rfl (by decide) fun b' a w hf H => ?_)
  refine pRun_ok (tb := tab) (n := 9) tabOk 2 _ _ hf rfl rfl fun a hf => ?_
  refine wl_end ?_
  refine then_n ?_
  refine sq ?_
  refine sq ?_
  refine reg ?_
  refine wl0 rfl (op_q hf (rq_loadBN hf H TF.la28 0 rfl rfl rfl rfl) rfl (by decide) fun a hf => ?_)
  obtain ⟨y, hy, hF⟩ := bind_some hF
  refine wl0 rfl (op_call hf TF.cl99 rfl (by decide) (spec_l22Span_ok (S := fun _ => True) Span_mkv hy) fun v w a hp hf => ?_)
  obtain ⟨hb, hp⟩ := hp
  obtain rfl := VR_bool hp
  have H := H.keep hb
  refine pRun_ok (tb := tab) (n := 9) tabOk 1 _ _ hf rfl rfl fun a hf => ?_
  refine wl_end ?_
  refine then_n ?_
  refine (Bool.eq_false_or_eq_true (!y)).elim (fun hc => ?_) (fun hc => ?_)
  · rw [if_pos hc] at hF
    refine cd_t hf rfl hc ?_
    refine sq ?_
    refine reg ?_
    refine pRun_ok (tb := tab) (n := 9) tabOk 2 _ _ hf rfl rfl fun a hf => ?_
    refine wl_end ?_
    refine then_n ?_
    refine wp_ret (then_r (?_))
    obtain rfl := Option.some.inj hF
    refine ret_2 (fn := Try.f26) (r := .tmp 2) (s := .tmp 3) hf rfl (rv_tmp hf rfl) (rv_tmp hf rfl) ?_
    exact ⟨_, rfl, H.bel, _, _, rfl, mk_int, mk_bool⟩
  · rw [if_neg (nt hc)] at hF
    refine cd_f hf rfl hc ?_
    refine wp_skip ?_
    refine then_n ?_
    refine sq ?_
    refine reg ?_
    refine wl0 rfl (op_q hf (rq_loadBN hf H TF.la28 0 rfl rfl rfl rfl) rfl (by decide) fun a hf => ?_)
    obtain ⟨y2, hy2, hF⟩ := bind_some hF
    refine wl0 rfl (op_call hf TF.cl100 rfl (by decide) (spec_l22Loss_ok (S := fun _ => True) Span_mkv hy2) fun v2 w a hp2 hf => ?_)
    obtain ⟨hb2, hp2⟩ := hp2
    obtain rfl := VR_int hp2
    have H := H.keep hb2
    refine pRun_ok (tb := tab) (n := 9) tabOk 2 _ _ hf rfl rfl fun a hf => ?_
    refine wl_end ?_
    refine then_n ?_
    refine wp_ret (?_)
    obtain rfl := Option.some.inj hF
    refine ret_2 (fn := Try.f26) (r := .tmp 2) (s := .tmp 3) hf rfl (rv_tmp hf rfl) (rv_tmp hf rfl) ?_
    exact ⟨_, rfl, H.bel, _, _, rfl, mk_int, mk_bool⟩

/- loop.example/g00897/laws.FnDecibels -/
set_option maxHeartbeats 1000000 in
theorem laws_FnDecibels_ok {fu : Nat} {w0 : World} {S : Nat → Prop} {v0_ : Value} {code : List By} {r : Bool} (h0 : VR w0 S v0_ code) (hF : laws_FnDecibels fu code = some r) :
    Calls Try.prog 18 [v0_].toArray w0 fun e w' => ∃ v, e = .returned v ∧ (Below w0.heap.size w0 w' ∧ VR w' (St ⟨w0, []⟩ S [] [] [] true) v r) := by
  obtain ⟨A, c, rfl, hl⟩ := VR_list h0
  have H := Mem.start ⟨w0, []⟩ S
  have H := H.pushArg (MP.val [(.slice A code.length c)] code) hl
  refine enter Try.func18 rfl rfl (nle rfl) rfl fun a hf => ?_
  rw [laws_FnDecibels] at hF
  refine sq ?_
  refine reg ?_
  refine pRun_ok (tb := tab) (n := 155) tabOk 1 _ _ hf rfl rfl fun a hf => ?_
  refine wl_end ?_
  refine then_n ?_
  refine sq ?_
  refine sq ?_
  refine reg ?_
  refine pRun_ok (tb := tab) (n := 155) tabOk 1 _ _ hf rfl rfl fun a hf => ?_
  obtain ⟨y, hy, hF⟩ := bind_some hF
  refine wl0 rfl (op_call hf TF.cl76 rfl (by decide) (laws_vBig_ok (S := fun _ => True) (mk_list (rep_true (α := List By) (H.get 0 rfl))) hy) fun v w a hp hf => ?_)
  obtain ⟨hb, hp⟩ := hp
  obtain rfl := VR_bool hp
  have H := H.keep hb
  refine wl_end ?_
  refine then_n ?_
  refine (Bool.eq_false_or_eq_true (y)).elim (fun hc => ?_) (fun hc => ?_)
  · rw [if_pos hc] at hF
    refine cd_t hf rfl hc ?_
    refine sq ?_
    refine reg ?_
    refine pRun_ok (tb := tab) (n := 155) tabOk 1 _ _ hf rfl rfl fun a hf => ?_
    refine wl_end ?_
    refine then_n ?_
    refine wp_ret (then_r (?_))
    obtain rfl := Option.some.inj hF
    refine ret_1 (fn := Try.f18) (r := .tmp 2) hf rfl (rv_tmp hf rfl) ?_
    exact ⟨_, rfl, H.bel, mk_bool⟩
  · rw [if_neg (nt hc)] at hF
    refine cd_f hf rfl hc ?_
    refine wp_skip ?_
    refine then_n ?_
    refine sq ?_
    refine reg ?_
    refine pRun_ok (tb := tab) (n := 155) tabOk 1 _ _ hf rfl rfl fun a hf => ?_
    obtain ⟨y2, hy2, hF⟩ := bind_some hF
    refine wl0 rfl (op_call hf TF.cl77 rfl (by decide) (spec_DrawLinearValue_ok (S := fun _ => True) (mk_list (rep_true (α := List By) (H.get 0 rfl))) hy2) fun v2 w a hp2 hf => ?_)
    obtain ⟨hb2, hp2⟩ := hp2
    obtain rfl := VR_int hp2
    have H := H.keep hb2
    refine pRun_ok (tb := tab) (n := 155) tabOk 1 _ _ hf rfl rfl fun a hf => ?_
    refine wl_end ?_
    refine then_n ?_
    refine sq ?_
    refine reg ?_
    refine pRun_ok (tb := tab) (n := 155) tabOk 1 _ _ hf rfl rfl fun a hf => ?_
    obtain ⟨y3, hy3, hF⟩ := bind_some hF
    refine wl0 rfl (op_call hf TF.cl30 rfl (by decide) (impl_LinearValue_ok (S := fun _ => True) mk_int hy3) fun v3 w a hp3 hf => ?_)
    obtain ⟨hb3, v4, v5, rfl, hp4, hp5⟩ := hp3
    obtain rfl := VR_int hp4
    obtain rfl := VR_bool hp5
    have H := H.keep hb3
    refine pRun_ok (tb := tab) (n := 155) tabOk 5 _ _ hf rfl rfl fun a hf => ?_
    refine wl_end ?_
    refine then_n ?_
    refine sq ?_
    refine sq ?_
    refine reg ?_
    refine pRun_ok (tb := tab) (n := 155) tabOk 1 _ _ hf rfl rfl fun a hf => ?_
    obtain ⟨y4, hy4, hF⟩ := bind_some hF
    refine wl0 rfl (op_call hf TF.cl29 rfl (by decide) (spec_LinearValue_ok (S := fun _ => True) mk_int hy4) fun v6 w a hp6 hf => ?_)
    obtain ⟨hb4, v7, v8, rfl, hp7, hp8⟩ := hp6
    obtain rfl := VR_int hp7
    obtain rfl := VR_bool hp8
    have H := H.keep hb4
    refine pRun_ok (tb := tab) (n := 155) tabOk 5 _ _ hf rfl rfl fun a hf => ?_
    have hf := hf.prune [0, 3, 4, 5, 6, 7] rfl
    refine wl_end ?_
    refine then_n ?_
    refine sq ?_
    obtain ⟨c2, hGc2, hF⟩ := bind_some hF
    refine mid (fun a w => Fr a 155 [(0, (.slice A code.length c)), (3, (.int .i64 y2)), (4, (.int .i64 y3.1)), (5, (.bool y3.2)), (46, (.bool c2))] ∧ Mem ⟨w0, []⟩ S [] [] [] [(false, MP.val [(.slice A code.length c)] (code : List By))] w) ?_ ?_
    · refine reg ?_
      refine pRun_ok (tb := tab) (n := 155) tabOk 4 _ _ hf rfl rfl fun a hf => ?_
      refine (Bool.eq_false_or_eq_true (y3.1 != y4.1)).elim (fun hc2 => ?_) (fun hc2 => ?_)
      · rw [if_pos hc2] at hGc2
        have hf := hf.lit 42 rfl hc2
        refine pRun_ok (tb := tab) (n := 155) tabOk 4 _ _ hf rfl rfl fun a hf => ?_
        obtain rfl := Option.some.inj hGc2
        have hf := hf.prune [0, 3, 4, 5, 46] rfl
        have H := H.let [] [] [] [0]
        exact wl_end ⟨hf, H⟩
      · rw [if_neg (nt hc2)] at hGc2
        have hf := hf.lit 42 rfl hc2
        refine pRun_ok (tb := tab) (n := 155) tabOk 4 _ _ hf rfl rfl fun a hf => ?_
        obtain rfl := Option.some.inj hGc2
        have hf := hf.prune [0, 3, 4, 5, 46] rfl
        have H := H.let [] [] [] [0]
        exact wl_end ⟨hf, H⟩
    rintro a w ⟨hf, H⟩
    refine then_n ?_
    refine (Bool.eq_false_or_eq_true (c2)).elim (fun hc3 => ?_) (fun hc3 => ?_)
    · rw [if_pos hc3] at hF
      refine cd_t hf rfl hc3 ?_
      refine sq ?_
      refine reg ?_
      refine pRun_ok (tb := tab) (n := 155) tabOk 1 _ _ hf rfl rfl fun a hf => ?_
      refine wl_end ?_
      refine then_n ?_
      refine wp_ret (then_r (?_))
      obtain rfl := Option.some.inj hF
      refine ret_1 (fn := Try.f18) (r := .tmp 2) hf rfl (rv_tmp hf rfl) ?_
      exact ⟨_, rfl, H.bel, mk_bool⟩
    · rw [if_neg (nt hc3)] at hF
      refine cd_f hf rfl hc3 ?_
      refine wp_skip ?_
      refine then_n ?_
      refine sq ?_
      refine sq ?_
      refine reg ?_
      refine pRun_ok (tb := tab) (n := 155) tabOk 1 _ _ hf rfl rfl fun a hf => ?_
      refine wl_end ?_
      refine then_n ?_
      refine (Bool.eq_false_or_eq_true (y3.2)).elim (fun hc4 => ?_) (fun hc4 => ?_)
      · rw [if_pos hc4] at hF
        refine cd_t hf rfl hc4 ?_
        refine sq ?_
        refine reg ?_
        refine pRun_ok (tb := tab) (n := 155) tabOk 1 _ _ hf rfl rfl fun a hf => ?_
        obtain ⟨y5, hy5, hF⟩ := bind_some hF
        refine wl0 rfl (op_call hf TF.cl34 rfl (by decide) (impl_LevelOf_ok (S := fun _ => True) mk_int hy5) fun v9 w a hp9 hf => ?_)
        obtain ⟨hb5, v10, v11, rfl, hp10, hp11⟩ := hp9
        obtain rfl := VR_int hp10
        obtain rfl := VR_bool hp11
        have H := H.keep hb5
        refine pRun_ok (tb := tab) (n := 155) tabOk 5 _ _ hf rfl rfl fun a hf => ?_
        refine wl_end ?_
        refine then_n ?_
        refine sq ?_
        obtain ⟨c3, hGc3, hF⟩ := bind_some hF
        refine mid (fun a w => Fr a 155 [(0, (.slice A code.length c)), (59, (.bool c3))] ∧ Mem ⟨w0, []⟩ S [] [] [] [(false, MP.val [(.slice A code.length c)] (code : List By))] w) ?_ ?_
        · refine reg ?_
          refine pRun_ok (tb := tab) (n := 155) tabOk 3 _ _ hf rfl rfl fun a hf => ?_
          refine (Bool.eq_false_or_eq_true (!y5.2)).elim (fun hc5 => ?_) (fun hc5 => ?_)
          · rw [if_pos hc5] at hGc3
            have hf := hf.lit 55 rfl hc5
            refine pRun_ok (tb := tab) (n := 155) tabOk 4 _ _ hf rfl rfl fun a hf => ?_
            obtain rfl := Option.some.inj hGc3
            have hf := hf.prune [0, 59] rfl
            have H := H.let [] [] [] [0]
            exact wl_end ⟨hf, H⟩
          · rw [if_neg (nt hc5)] at hGc3
            have hf := hf.lit 55 rfl hc5
            refine pRun_ok (tb := tab) (n := 155) tabOk 4 _ _ hf rfl rfl fun a hf => ?_
            obtain rfl := Option.some.inj hGc3
            have hf := hf.prune [0, 59] rfl
            have H := H.let [] [] [] [0]
            exact wl_end ⟨hf, H⟩
        rintro a w ⟨hf, H⟩
        refine then_n ?_
        refine (Bool.eq_false_or_eq_true (c3)).elim (fun hc6 => ?_) (fun hc6 => ?_)
        · rw [if_pos hc6] at hF
          refine cd_t hf rfl hc6 ?_
          refine sq ?_
          refine reg ?_
          refine pRun_ok (tb := tab) (n := 155) tabOk 1 _ _ hf rfl rfl fun a hf => ?_
          refine wl_end ?_
          refine then_n ?_
          refine wp_ret (then_r (?_))
          obtain rfl := Option.some.inj hF
          refine ret_1 (fn := Try.f18) (r := .tmp 2) hf rfl (rv_tmp hf rfl) ?_
          exact ⟨_, rfl, H.bel, mk_bool⟩
        · rw [if_neg (nt hc6)] at hF
          refine cd_f hf rfl hc6 ?_
          refine wp_skip ?_
          refine then_n ?_
          refine sq ?_
          refine reg ?_
          refine pRun_ok (tb := tab) (n := 155) tabOk 1 _ _ hf rfl rfl fun a hf => ?_
          obtain ⟨y6, hy6, hF⟩ := bind_some hF
          refine wl0 rfl (op_call hf TF.cl78 rfl (by decide) (spec_DrawNoiseSum_ok (S := fun _ => True) (mk_list (rep_true (α := List By) (H.get 0 rfl))) hy6) fun v12 w a hp12 hf => ?_)
          obtain ⟨hb6, hp12⟩ := hp12
          obtain ⟨A2, c4, rfl, hl2⟩ := VR_list hp12
          replace hl2 := H.resF (f := MP.val [(.slice A2 y6.length c4)] y6) hl2
          have H := H.keep hb6
          have H := H.push (true, MP.val [(.slice A2 y6.length c4)] y6) hl2
          refine pRun_ok (tb := tab) (n := 155) tabOk 1 _ _ hf rfl rfl fun a hf => ?_
          refine wl_end ?_
          refine then_n ?_
          refine sq ?_
          refine reg ?_
          refine pRun_ok (tb := tab) (n := 155) tabOk 1 _ _ hf rfl rfl fun a hf => ?_
          obtain ⟨y7, hy7, hF⟩ := bind_some hF
          refine wl0 rfl (op_call hf TF.cl57 rfl (by decide) (impl_NoiseSum_ok (S := fun _ => True) (mk_list (rep_true (α := List Amplifier) (H.get 0 rfl))) hy7) fun v13 w a hp13 hf => ?_)
          obtain ⟨hb7, v14, v15, rfl, hp14, hp15⟩ := hp13
          obtain rfl := VR_int hp14
          obtain rfl := VR_bool hp15
          have H := H.keep hb7
          refine pRun_ok (tb := tab) (n := 155) tabOk 5 _ _ hf rfl rfl fun a hf => ?_
          refine wl_end ?_
          refine then_n ?_
          refine sq ?_
          refine sq ?_
          refine reg ?_
          refine pRun_ok (tb := tab) (n := 155) tabOk 1 _ _ hf rfl rfl fun a hf => ?_
          obtain ⟨y8, hy8, hF⟩ := bind_some hF
          refine wl0 rfl (op_call hf TF.cl55 rfl (by decide) (spec_NoiseSum_ok (S := fun _ => True) (mk_list (rep_true (α := List Amplifier) (H.get 0 rfl))) hy8) fun v16 w a hp16 hf => ?_)
          obtain ⟨hb8, v17, v18, rfl, hp17, hp18⟩ := hp16
          obtain rfl := VR_int hp17
          obtain rfl := VR_bool hp18
          have H := H.keep hb8
          refine pRun_ok (tb := tab) (n := 155) tabOk 5 _ _ hf rfl rfl fun a hf => ?_
          have hf := hf.prune [0, 10, 11, 12, 13, 14] rfl
          refine wl_end ?_
          refine then_n ?_
          refine sq ?_
          obtain ⟨c5, hGc5, hF⟩ := bind_some hF
          refine mid (fun a w => Fr a 155 [(0, (.slice A code.length c)), (10, (.slice A2 y6.length c4)), (11, (.int .i64 y7.1)), (12, (.bool y7.2)), (13, (.int .i64 y8.1)), (14, (.bool y8.2)), (83, (.bool c5))] ∧ Mem ⟨w0, []⟩ S [] [] [] [(true, MP.val [(.slice A2 y6.length c4)] (y6 : List Amplifier)), (false, MP.val [(.slice A code.length c)] (code : List By))] w) ?_ ?_
          · refine reg ?_
            refine pRun_ok (tb := tab) (n := 155) tabOk 4 _ _ hf rfl rfl fun a hf => ?_
            refine (Bool.eq_false_or_eq_true (y7.1 != y8.1)).elim (fun hc7 => ?_) (fun hc7 => ?_)
            · rw [if_pos hc7] at hGc5
              have hf := hf.lit 75 rfl hc7
              refine pRun_ok (tb := tab) (n := 155) tabOk 8 _ _ hf rfl rfl fun a hf => ?_
              obtain rfl := Option.some.inj hGc5
              have hf := hf.prune [0, 10, 11, 12, 13, 14, 83] rfl
              have H := H.let [] [] [] [0, 1]
              exact wl_end ⟨hf, H⟩
            · rw [if_neg (nt hc7)] at hGc5
              have hf := hf.lit 75 rfl hc7
              refine pRun_ok (tb := tab) (n := 155) tabOk 5 _ _ hf rfl rfl fun a hf => ?_
              refine (Bool.eq_false_or_eq_true (y7.2 != y8.2)).elim (fun hc8 => ?_) (fun hc8 => ?_)
              · rw [if_pos hc8] at hGc5
                have hf := hf.lit 80 rfl hc8
                refine pRun_ok (tb := tab) (n := 155) tabOk 3 _ _ hf rfl rfl fun a hf => ?_
                obtain rfl := Option.some.inj hGc5
                have hf := hf.prune [0, 10, 11, 12, 13, 14, 83] rfl
                have H := H.let [] [] [] [0, 1]
                exact wl_end ⟨hf, H⟩
              · rw [if_neg (nt hc8)] at hGc5
                have hf := hf.lit 80 rfl hc8
                refine pRun_ok (tb := tab) (n := 155) tabOk 3 _ _ hf rfl rfl fun a hf => ?_
                obtain rfl := Option.some.inj hGc5
                have hf := hf.prune [0, 10, 11, 12, 13, 14, 83] rfl
                have H := H.let [] [] [] [0, 1]
                exact wl_end ⟨hf, H⟩
          rintro a w ⟨hf, H⟩
          refine then_n ?_
          refine (Bool.eq_false_or_eq_true (c5)).elim (fun hc9 => ?_) (fun hc9 => ?_)
          · rw [if_pos hc9] at hF
            refine cd_t hf rfl hc9 ?_
            refine sq ?_
            obtain ⟨c6, hGc6, hF⟩ := bind_some hF
            refine mid (fun a w => Fr a 155 [(2, (.bool c6))] ∧ Mem ⟨w0, []⟩ S [] [] [] [] w) ?_ ?_
            · refine reg ?_
              refine pRun_ok (tb := tab) (n := 155) tabOk 4 _ _ hf rfl rfl fun a hf => ?_
              refine (Bool.eq_false_or_eq_true (y7.1 == y8.1)).elim (fun hc10 => ?_) (fun hc10 => ?_)
              · rw [if_pos hc10] at hGc6
                have hf := hf.lit 87 rfl hc10
                refine pRun_ok (tb := tab) (n := 155) tabOk 5 _ _ hf rfl rfl fun a hf => ?_
                obtain rfl := Option.some.inj hGc6
                have hf := hf.prune [2] rfl
                have H := H.let [] [] [] []
                exact wl_end ⟨hf, H⟩
              · rw [if_neg (nt hc10)] at hGc6
                have hf := hf.lit 87 rfl hc10
                refine pRun_ok (tb := tab) (n := 155) tabOk 5 _ _ hf rfl rfl fun a hf => ?_
                obtain rfl := Option.some.inj hGc6
                have hf := hf.prune [2] rfl
                have H := H.let [] [] [] []
                exact wl_end ⟨hf, H⟩
            rintro a w ⟨hf, H⟩
            refine then_n ?_
            refine wp_ret (then_r (?_))
            obtain rfl := Option.some.inj hF
            refine ret_1 (fn := Try.f18) (r := .tmp 2) hf rfl (rv_tmp hf rfl) ?_
            exact ⟨_, rfl, H.bel, mk_bool⟩
          · rw [if_neg (nt hc9)] at hF
            refine cd_f hf rfl hc9 ?_
            refine wp_skip ?_
            refine then_n ?_
            refine sq ?_
            refine sq ?_
            refine reg ?_
            refine pRun_ok (tb := tab) (n := 155) tabOk 1 _ _ hf rfl rfl fun a hf => ?_
            refine wl_end ?_
            refine then_n ?_
            obtain ⟨out', hB1, hF⟩ := bind_some hF
            have hf := hf.prune [0, 10, 11, 15] rfl
            have H := H.let [] [] [] [0, 1]
            have hI : (fun (s : Int) (a : Act) (w : World) => match s with | i => Fr a 155 [(0, (.slice A code.length c)), (10, (.slice A2 y6.length c4)), (11, (.int .i64 y7.1)), (15, (.int .i64 i))] ∧ Mem ⟨w0, []⟩ S [] [] [] [(true, MP.val [(.slice A2 y6.length c4)] (y6 : List Amplifier)), (false, MP.val [(.slice A code.length c)] (code : List By))] w) 0 a w := ⟨hf, H⟩
            refine mid (fun a w => ∃ s : Int, out' = Out.next s ∧ (fun (s : Int) (a : Act) (w : World) => match s with | i => Fr a 155 [(0, (.slice A code.length c)), (10, (.slice A2 y6.length c4)), (11, (.int .i64 y7.1)), (15, (.int .i64 i))] ∧ Mem ⟨w0, []⟩ S [] [] [] [(true, MP.val [(.slice A2 y6.length c4)] (y6 : List Amplifier)), (false, MP.val [(.slice A code.length c)] (code : List By))] w) s a w) ?_ ?_
            · refine wp_block ?_
              refine loop_rule (fun k (s : Int) => laws_FnDecibels_L1 fu y6 y7 k s = some out') (fun (s : Int) (a : Act) (w : World) => match s with | i => Fr a 155 [(0, (.slice A code.length c)), (10, (.slice A2 y6.length c4)), (11, (.int .i64 y7.1)), (15, (.int .i64 i))] ∧ Mem ⟨w0, []⟩ S [] [] [] [(true, MP.val [(.slice A2 y6.length c4)] (y6 : List Amplifier)), (false, MP.val [(.slice A code.length c)] (code : List By))] w) (fun s h => by cases h) ?_ fu 0 a w hB1 hI
              rintro fk i a w hR1 hI
              replace hR1 : laws_FnDecibels_L1 fu y6 y7 (fk + 1) i = some out' := hR1
              rw [laws_FnDecibels_L1] at hR1
              obtain ⟨hf, H⟩ := hI
              refine sq ?_
              refine sq ?_
              refine reg ?_
              refine pRun_ok (tb := tab) (n := 155) tabOk 4 _ _ hf rfl rfl fun a hf => ?_
              refine wl_end ?_
              refine then_n ?_
              refine (Bool.eq_false_or_eq_true (decide (i < (y6.length : Int)))).elim (fun hc11 => ?_) (fun hc11 => ?_)
              · rw [if_pos hc11] at hR1
                refine cd_t hf rfl hc11 ?_
                refine wp_skip ?_
                refine then_n ?_
                refine sq ?_
                refine wp_block ?_
                refine sq ?_
                refine reg ?_
                refine pRun_ok (tb := tab) (n := 155) tabOk 2 _ _ hf rfl rfl fun a hf => ?_
                obtain ⟨e, he, hR1⟩ := bind_some hR1
                refine wl0 rfl (op_iaddr hf H Try.underlying63 TF.sz88 0 rfl rfl rfl he (by decide) fun p o cs a hf hr H => ?_)
                obtain rfl := Amplifier_cells hr
                refine pRun_ok (tb := tab) (n := 155) tabOk 1 _ _ hf rfl rfl fun a hf => ?_
                refine wl0 rfl (op_q hf (rq_loadI hf H TF.ls3 0 3 rfl rfl rfl) rfl (by decide) fun a hf => ?_)
                refine pRun_ok (tb := tab) (n := 155) tabOk 2 _ _ hf rfl rfl fun a hf => ?_
                refine wl_end ?_
                refine then_n ?_
                refine (Bool.eq_false_or_eq_true (decide (e.Noise > y7.1))).elim (fun hc12 => ?_) (fun hc12 => ?_)
                · rw [if_pos hc12] at hR1
                  refine cd_t hf rfl hc12 ?_
                  refine sq ?_
                  refine reg ?_
                  refine pRun_ok (tb := tab) (n := 155) tabOk 1 _ _ hf rfl rfl fun a hf => ?_
                  have hf := hf.prune [2] rfl
                  refine wl_end ?_
                  refine then_n ?_
                  refine wp_ret (blk_r (then_r (then_r (blk_r (then_r (then_r (?_)))))))
                  obtain rfl := Option.some.inj hR1
                  replace hF := on_ret hF
                  obtain rfl := Option.some.inj hF
                  refine ret_1 (fn := Try.f18) (r := .tmp 2) hf rfl (rv_tmp hf rfl) ?_
                  exact ⟨_, rfl, H.bel, mk_bool⟩
                · rw [if_neg (nt hc12)] at hR1
                  refine cd_f hf rfl hc12 ?_
                  refine wp_skip ?_
                  refine blk_n ?_
                  refine then_n ?_
                  refine reg ?_
                  refine pRun_ok (tb := tab) (n := 155) tabOk 3 _ _ hf rfl rfl fun a hf => ?_
                  have hf := hf.prune [0, 10, 11, 15] rfl
                  refine wl_end ?_
                  have hf := hf.prune [0, 10, 11, 15] rfl
                  have H := H.let [] [] [] [1, 2]
                  exact then_n ⟨w64 (i + 1), hR1, hf, H⟩
              · rw [if_neg (nt hc11)] at hR1
                refine cd_f hf rfl hc11 ?_
                refine wp_exit (then_x (then_x (blk_e (?_))))
                have hf := hf.prune [0, 10, 11, 15] rfl
                have H := H.let [] [] [] [0, 1]
                exact ⟨i, (Option.some.inj hR1).symm, hf, H⟩
            rintro a w ⟨i2, rfl, hf, H⟩
            replace hF := on_next hF
            refine then_n ?_
            refine sq ?_
            refine reg ?_
            refine pRun_ok (tb := tab) (n := 155) tabOk 1 _ _ hf rfl rfl fun a hf => ?_
            obtain ⟨y9, hy9, hF⟩ := bind_some hF
            refine wl0 rfl (op_call hf TF.cl79 rfl (by decide) (spec_DrawMostSpans_ok (S := fun _ => True) (mk_list (rep_true (α := List By) (H.get 1 rfl))) hy9) fun v19 w a hp19 hf => ?_)
            obtain ⟨hb9, v20, v21, v22, rfl, hp20, hp21, hp22⟩ := hp19
            obtain rfl := Span_open hp20
            obtain rfl := VR_int hp21
            obtain rfl := VR_int hp22
            have H := H.keep hb9
            refine pRun_ok (tb := tab) (n := 155) tabOk 4 _ _ hf rfl rfl fun a hf => ?_
            refine wl0 rfl (op_alloc hf H TF.zv28 rfl (by decide) fun b' a w hf H => ?_)
            refine wl0 rfl (op_storeB hf H 0 TF.sz28 rfl rfl rfl rfl rfl rfl (nle rfl) fun w H => ?_)
            refine pRun_ok (tb := tab) (n := 155) tabOk 2 _ _ hf rfl rfl fun a hf => ?_
            refine wl_end ?_
            refine then_n ?_
            refine sq ?_
            refine reg ?_
            refine wl0 rfl (op_q hf (rq_loadBN hf H TF.la28 0 rfl rfl rfl rfl) rfl (by decide) fun a hf => ?_)
            refine pRun_ok (tb := tab) (n := 155) tabOk 2 _ _ hf rfl rfl fun a hf => ?_
            obtain ⟨y10, hy10, hF⟩ := bind_some hF
            refine wl0 rfl (op_call hf TF.cl32 rfl (by decide) (impl_MostSpans_ok (S := fun _ => True) Span_mkv mk_int mk_int hy10) fun v23 w a hp23 hf => ?_)
            obtain ⟨hb10, v24, v25, rfl, hp24, hp25⟩ := hp23
            obtain rfl := VR_int hp24
            obtain rfl := VR_bool hp25
            have H := H.keep hb10
            refine pRun_ok (tb := tab) (n := 155) tabOk 5 _ _ hf rfl rfl fun a hf => ?_
            have hf := hf.prune [16, 17, 18, 19, 20] rfl
            refine wl_end ?_
            refine then_n ?_
            refine sq ?_
            refine reg ?_
            refine wl0 rfl (op_q hf (rq_loadBN hf H TF.la28 0 rfl rfl rfl rfl) rfl (by decide) fun a hf => ?_)
            refine pRun_ok (tb := tab) (n := 155) tabOk 2 _ _ hf rfl rfl fun a hf => ?_
            obtain ⟨y11, hy11, hF⟩ := bind_some hF
            refine wl0 rfl (op_call hf TF.cl31 rfl (by decide) (spec_MostSpans_ok (S := fun _ => True) Span_mkv mk_int mk_int hy11) fun v26 w a hp26 hf => ?_)
            obtain ⟨hb11, v27, v28, rfl, hp27, hp28⟩ := hp26
            obtain rfl := VR_int hp27
            obtain rfl := VR_bool hp28
            have H := H.keep hb11
            refine pRun_ok (tb := tab) (n := 155) tabOk 5 _ _ hf rfl rfl fun a hf => ?_
            refine wl_end ?_
            refine then_n ?_
            refine sq ?_
            refine reg ?_
            refine wl0 rfl (op_q hf (rq_loadBN hf H TF.la28 0 rfl rfl rfl rfl) rfl (by decide) fun a hf => ?_)
            obtain ⟨y12, hy12, hF⟩ := bind_some hF
            refine wl0 rfl (op_call hf TF.cl26 rfl (by decide) (spec_SpanLoss_ok (S := fun _ => True) Span_mkv hy12) fun v29 w a hp29 hf => ?_)
            obtain ⟨hb12, v30, v31, rfl, hp30, hp31⟩ := hp29
            obtain rfl := VR_int hp30
            obtain rfl := VR_bool hp31
            have H := H.keep hb12
            refine pRun_ok (tb := tab) (n := 155) tabOk 5 _ _ hf rfl rfl fun a hf => ?_
            have hf := hf.prune [17, 18, 19, 20, 21, 22, 23] rfl
            refine wl_end ?_
            refine then_n ?_
            refine sq ?_
            obtain ⟨c7, hGc7, hF⟩ := bind_some hF
            refine mid (fun a w => Fr a 155 [(2, (.bool c7))] ∧ Mem ⟨w0, []⟩ S [] [] [] [] w) ?_ ?_
            · refine reg ?_
              refine pRun_ok (tb := tab) (n := 155) tabOk 4 _ _ hf rfl rfl fun a hf => ?_
              refine (Bool.eq_false_or_eq_true (y10.1 == y11.1)).elim (fun hc13 => ?_) (fun hc13 => ?_)
              · rw [if_pos hc13] at hGc7
                have hf := hf.lit 133 rfl hc13
                refine pRun_ok (tb := tab) (n := 155) tabOk 5 _ _ hf rfl rfl fun a hf => ?_
                refine (Bool.eq_false_or_eq_true (y10.2 == y11.2)).elim (fun hc14 => ?_) (fun hc14 => ?_)
                · rw [if_pos hc14] at hGc7
                  have hf := hf.lit 138 rfl hc14
                  refine pRun_ok (tb := tab) (n := 155) tabOk 3 _ _ hf rfl rfl fun a hf => ?_
                  refine (Bool.eq_false_or_eq_true (!y10.2)).elim (fun hc15 => ?_) (fun hc15 => ?_)
                  · rw [if_pos hc15] at hGc7
                    have hf := hf.lit 141 rfl hc15
                    refine pRun_ok (tb := tab) (n := 155) tabOk 14 _ _ hf rfl rfl fun a hf => ?_
                    obtain rfl := Option.some.inj hGc7
                    have hf := hf.prune [2] rfl
                    have H := H.let [false] [] [] []
                    exact wl_end ⟨hf, H⟩
                  · rw [if_neg (nt hc15)] at hGc7
                    have hf := hf.lit 141 rfl hc15
                    refine pRun_ok (tb := tab) (n := 155) tabOk 4 _ _ hf rfl rfl fun a hf => ?_
                    refine (Bool.eq_false_or_eq_true (y10.1 == 0)).elim (fun hc16 => ?_) (fun hc16 => ?_)
                    · rw [if_pos hc16] at hGc7
                      have hf := hf.lit 145 rfl hc16
                      refine pRun_ok (tb := tab) (n := 155) tabOk 10 _ _ hf rfl rfl fun a hf => ?_
                      obtain rfl := Option.some.inj hGc7
                      have hf := hf.prune [2] rfl
                      have H := H.let [false] [] [] []
                      exact wl_end ⟨hf, H⟩
                    · rw [if_neg (nt hc16)] at hGc7
                      have hf := hf.lit 145 rfl hc16
                      refine pRun_ok (tb := tab) (n := 155) tabOk 10 _ _ hf rfl rfl fun a hf => ?_
                      obtain rfl := Option.some.inj hGc7
                      have hf := hf.prune [2] rfl
                      have H := H.let [false] [] [] []
                      exact wl_end ⟨hf, H⟩
                · rw [if_neg (nt hc14)] at hGc7
                  have hf := hf.lit 138 rfl hc14
                  refine pRun_ok (tb := tab) (n := 155) tabOk 3 _ _ hf rfl rfl fun a hf => ?_
                  refine wlsu hf rfl rfl rfl rfl (by decide) fun a hf => ?_
                  refine wlsu hf rfl rfl rfl rfl (by decide) fun a hf => ?_
                  refine pRun_ok (tb := tab) (n := 155) tabOk 2 _ _ hf rfl rfl fun a hf => ?_
                  refine wlsu hf rfl rfl rfl rfl (by decide) fun a hf => ?_
                  refine wlsu hf rfl rfl rfl rfl (by decide) fun a hf => ?_
                  refine wlsu hf rfl rfl rfl rfl (by decide) fun a hf => ?_
                  refine wlsu hf rfl rfl rfl rfl (by decide) fun a hf => ?_
                  refine wlsu hf rfl rfl rfl rfl (by decide) fun a hf => ?_
                  refine wlsu hf rfl rfl rfl rfl (by decide) fun a hf => ?_
                  refine wlsu hf rfl rfl rfl rfl (by decide) fun a hf => ?_
                  refine pRun_ok (tb := tab) (n := 155) tabOk 3 _ _ hf rfl rfl fun a hf => ?_
                  obtain rfl := Option.some.inj hGc7
                  have hf := hf.prune [2] rfl
                  have H := H.let [false] [] [] []
                  exact wl_end ⟨hf, H⟩
              · rw [if_neg (nt hc13)] at hGc7
                have hf := hf.lit 133 rfl hc13
                refine pRun_ok (tb := tab) (n := 155) tabOk 8 _ _ hf rfl rfl fun a hf => ?_
                refine wlsu hf rfl rfl rfl rfl (by decide) fun a hf => ?_
                refine wlsu hf rfl rfl rfl rfl (by decide) fun a hf => ?_
                refine pRun_ok (tb := tab) (n := 155) tabOk 2 _ _ hf rfl rfl fun a hf => ?_
                refine wlsu hf rfl rfl rfl rfl (by decide) fun a hf => ?_
                refine wlsu hf rfl rfl rfl rfl (by decide) fun a hf => ?_
                refine wlsu hf rfl rfl rfl rfl (by decide) fun a hf => ?_
                refine wlsu hf rfl rfl rfl rfl (by decide) fun a hf => ?_
                refine wlsu hf rfl rfl rfl rfl (by decide) fun a hf => ?_
                refine wlsu hf rfl rfl rfl rfl (by decide) fun a hf => ?_
                refine wlsu hf rfl rfl rfl rfl (by decide) fun a hf => ?_
                refine pRun_ok (tb := tab) (n := 155) tabOk 3 _ _ hf rfl rfl fun a hf => ?_
                obtain rfl := Option.some.inj hGc7
                have hf := hf.prune [2] rfl
                have H := H.let [false] [] [] []
                exact wl_end ⟨hf, H⟩
            rintro a w ⟨hf, H⟩
            refine then_n ?_
            refine wp_ret (?_)
            obtain rfl := Option.some.inj hF
            refine ret_1 (fn := Try.f18) (r := .tmp 2) hf rfl (rv_tmp hf rfl) ?_
            exact ⟨_, rfl, H.bel, mk_bool⟩
      · rw [if_neg (nt hc4)] at hF
        refine cd_f hf rfl hc4 ?_
        refine wp_skip ?_
        refine then_n ?_
        refine sq ?_
        refine reg ?_
        refine pRun_ok (tb := tab) (n := 155) tabOk 1 _ _ hf rfl rfl fun a hf => ?_
        obtain ⟨y13, hy13, hF⟩ := bind_some hF
        refine wl0 rfl (op_call hf TF.cl78 rfl (by decide) (spec_DrawNoiseSum_ok (S := fun _ => True) (mk_list (rep_true (α := List By) (H.get 0 rfl))) hy13) fun v32 w a hp32 hf => ?_)
        obtain ⟨hb13, hp32⟩ := hp32
        obtain ⟨A3, c8, rfl, hl3⟩ := VR_list hp32
        replace hl3 := H.resF (f := MP.val [(.slice A3 y13.length c8)] y13) hl3
        have H := H.keep hb13
        have H := H.push (true, MP.val [(.slice A3 y13.length c8)] y13) hl3
        refine pRun_ok (tb := tab) (n := 155) tabOk 1 _ _ hf rfl rfl fun a hf => ?_
        refine wl_end ?_
        refine then_n ?_
        refine sq ?_
        refine reg ?_
        refine pRun_ok (tb := tab) (n := 155) tabOk 1 _ _ hf rfl rfl fun a hf => ?_
        obtain ⟨y14, hy14, hF⟩ := bind_some hF
        refine wl0 rfl (op_call hf TF.cl57 rfl (by decide) (impl_NoiseSum_ok (S := fun _ => True) (mk_list (rep_true (α := List Amplifier) (H.get 0 rfl))) hy14) fun v33 w a hp33 hf => ?_)
        obtain ⟨hb14, v34, v35, rfl, hp34, hp35⟩ := hp33
        obtain rfl := VR_int hp34
        obtain rfl := VR_bool hp35
        have H := H.keep hb14
        refine pRun_ok (tb := tab) (n := 155) tabOk 5 _ _ hf rfl rfl fun a hf => ?_
        refine wl_end ?_
        refine then_n ?_
        refine sq ?_
        refine sq ?_
        refine reg ?_
        refine pRun_ok (tb := tab) (n := 155) tabOk 1 _ _ hf rfl rfl fun a hf => ?_
        obtain ⟨y15, hy15, hF⟩ := bind_some hF
        refine wl0 rfl (op_call hf TF.cl55 rfl (by decide) (spec_NoiseSum_ok (S := fun _ => True) (mk_list (rep_true (α := List Amplifier) (H.get 0 rfl))) hy15) fun v36 w a hp36 hf => ?_)
        obtain ⟨hb15, v37, v38, rfl, hp37, hp38⟩ := hp36
        obtain rfl := VR_int hp37
        obtain rfl := VR_bool hp38
        have H := H.keep hb15
        refine pRun_ok (tb := tab) (n := 155) tabOk 5 _ _ hf rfl rfl fun a hf => ?_
        have hf := hf.prune [0, 10, 11, 12, 13, 14] rfl
        refine wl_end ?_
        refine then_n ?_
        refine sq ?_
        obtain ⟨c9, hGc9, hF⟩ := bind_some hF
        refine mid (fun a w => Fr a 155 [(0, (.slice A code.length c)), (10, (.slice A3 y13.length c8)), (11, (.int .i64 y14.1)), (12, (.bool y14.2)), (13, (.int .i64 y15.1)), (14, (.bool y15.2)), (83, (.bool c9))] ∧ Mem ⟨w0, []⟩ S [] [] [] [(true, MP.val [(.slice A3 y13.length c8)] (y13 : List Amplifier)), (false, MP.val [(.slice A code.length c)] (code : List By))] w) ?_ ?_
        · refine reg ?_
          refine pRun_ok (tb := tab) (n := 155) tabOk 4 _ _ hf rfl rfl fun a hf => ?_
          refine (Bool.eq_false_or_eq_true (y14.1 != y15.1)).elim (fun hc17 => ?_) (fun hc17 => ?_)
          · rw [if_pos hc17] at hGc9
            have hf := hf.lit 75 rfl hc17
            refine pRun_ok (tb := tab) (n := 155) tabOk 8 _ _ hf rfl rfl fun a hf => ?_
            obtain rfl := Option.some.inj hGc9
            have hf := hf.prune [0, 10, 11, 12, 13, 14, 83] rfl
            have H := H.let [] [] [] [0, 1]
            exact wl_end ⟨hf, H⟩
          · rw [if_neg (nt hc17)] at hGc9
            have hf := hf.lit 75 rfl hc17
            refine pRun_ok (tb := tab) (n := 155) tabOk 5 _ _ hf rfl rfl fun a hf => ?_
            refine (Bool.eq_false_or_eq_true (y14.2 != y15.2)).elim (fun hc18 => ?_) (fun hc18 => ?_)
            · rw [if_pos hc18] at hGc9
              have hf := hf.lit 80 rfl hc18
              refine pRun_ok (tb := tab) (n := 155) tabOk 3 _ _ hf rfl rfl fun a hf => ?_
              obtain rfl := Option.some.inj hGc9
              have hf := hf.prune [0, 10, 11, 12, 13, 14, 83] rfl
              have H := H.let [] [] [] [0, 1]
              exact wl_end ⟨hf, H⟩
            · rw [if_neg (nt hc18)] at hGc9
              have hf := hf.lit 80 rfl hc18
              refine pRun_ok (tb := tab) (n := 155) tabOk 3 _ _ hf rfl rfl fun a hf => ?_
              obtain rfl := Option.some.inj hGc9
              have hf := hf.prune [0, 10, 11, 12, 13, 14, 83] rfl
              have H := H.let [] [] [] [0, 1]
              exact wl_end ⟨hf, H⟩
        rintro a w ⟨hf, H⟩
        refine then_n ?_
        refine (Bool.eq_false_or_eq_true (c9)).elim (fun hc19 => ?_) (fun hc19 => ?_)
        · rw [if_pos hc19] at hF
          refine cd_t hf rfl hc19 ?_
          refine sq ?_
          obtain ⟨c10, hGc10, hF⟩ := bind_some hF
          refine mid (fun a w => Fr a 155 [(2, (.bool c10))] ∧ Mem ⟨w0, []⟩ S [] [] [] [] w) ?_ ?_
          · refine reg ?_
            refine pRun_ok (tb := tab) (n := 155) tabOk 4 _ _ hf rfl rfl fun a hf => ?_
            refine (Bool.eq_false_or_eq_true (y14.1 == y15.1)).elim (fun hc20 => ?_) (fun hc20 => ?_)
            · rw [if_pos hc20] at hGc10
              have hf := hf.lit 87 rfl hc20
              refine pRun_ok (tb := tab) (n := 155) tabOk 5 _ _ hf rfl rfl fun a hf => ?_
              obtain rfl := Option.some.inj hGc10
              have hf := hf.prune [2] rfl
              have H := H.let [] [] [] []
              exact wl_end ⟨hf, H⟩
            · rw [if_neg (nt hc20)] at hGc10
              have hf := hf.lit 87 rfl hc20
              refine pRun_ok (tb := tab) (n := 155) tabOk 5 _ _ hf rfl rfl fun a hf => ?_
              obtain rfl := Option.some.inj hGc10
              have hf := hf.prune [2] rfl
              have H := H.let [] [] [] []
              exact wl_end ⟨hf, H⟩
          rintro a w ⟨hf, H⟩
          refine then_n ?_
          refine wp_ret (then_r (?_))
          obtain rfl := Option.some.inj hF
          refine ret_1 (fn := Try.f18) (r := .tmp 2) hf rfl (rv_tmp hf rfl) ?_
          exact ⟨_, rfl, H.bel, mk_bool⟩
        · rw [if_neg (nt hc19)] at hF
          refine cd_f hf rfl hc19 ?_
          refine wp_skip ?_
          refine then_n ?_
          refine sq ?_
          refine sq ?_
          refine reg ?_
          refine pRun_ok (tb := tab) (n := 155) tabOk 1 _ _ hf rfl rfl fun a hf => ?_
          refine wl_end ?_
          refine then_n ?_
          obtain ⟨out2, hB1, hF⟩ := bind_some hF
          have hf := hf.prune [0, 10, 11, 15] rfl
          have H := H.let [] [] [] [0, 1]
          have hI : (fun (s : Int) (a : Act) (w : World) => match s with | i3 => Fr a 155 [(0, (.slice A code.length c)), (10, (.slice A3 y13.length c8)), (11, (.int .i64 y14.1)), (15, (.int .i64 i3))] ∧ Mem ⟨w0, []⟩ S [] [] [] [(true, MP.val [(.slice A3 y13.length c8)] (y13 : List Amplifier)), (false, MP.val [(.slice A code.length c)] (code : List By))] w) 0 a w := ⟨hf, H⟩
          refine mid (fun a w => ∃ s : Int, out2 = Out.next s ∧ (fun (s : Int) (a : Act) (w : World) => match s with | i3 => Fr a 155 [(0, (.slice A code.length c)), (10, (.slice A3 y13.length c8)), (11, (.int .i64 y14.1)), (15, (.int .i64 i3))] ∧ Mem ⟨w0, []⟩ S [] [] [] [(true, MP.val [(.slice A3 y13.length c8)] (y13 : List Amplifier)), (false, MP.val [(.slice A code.length c)] (code : List By))] w) s a w) ?_ ?_
          · refine wp_block ?_
            refine loop_rule (fun k (s : Int) => laws_FnDecibels_L2 fu y13 y14 k s = some out2) (fun (s : Int) (a : Act) (w : World) => match s with | i3 => Fr a 155 [(0, (.slice A code.length c)), (10, (.slice A3 y13.length c8)), (11, (.int .i64 y14.1)), (15, (.int .i64 i3))] ∧ Mem ⟨w0, []⟩ S [] [] [] [(true, MP.val [(.slice A3 y13.length c8)] (y13 : List Amplifier)), (false, MP.val [(.slice A code.length c)] (code : List By))] w) (fun s h => by cases h) ?_ fu 0 a w hB1 hI
            rintro fk i3 a w hR1 hI
            replace hR1 : laws_FnDecibels_L2 fu y13 y14 (fk + 1) i3 = some out2 := hR1
            rw [laws_FnDecibels_L2] at hR1
            obtain ⟨hf, H⟩ := hI
            refine sq ?_
            refine sq ?_
            refine reg ?_
            refine pRun_ok (tb := tab) (n := 155) tabOk 4 _ _ hf rfl rfl fun a hf => ?_
            refine wl_end ?_
            refine then_n ?_
            refine (Bool.eq_false_or_eq_true (decide (i3 < (y13.length : Int)))).elim (fun hc21 => ?_) (fun hc21 => ?_)
            · rw [if_pos hc21] at hR1
              refine cd_t hf rfl hc21 ?_
              refine wp_skip ?_
              refine then_n ?_
              refine sq ?_
              refine wp_block ?_
              refine sq ?_
              refine reg ?_
              refine pRun_ok (tb := tab) (n := 155) tabOk 2 _ _ hf rfl rfl fun a hf => ?_
              obtain ⟨e2, he2, hR1⟩ := bind_some hR1
              refine wl0 rfl (op_iaddr hf H Try.underlying63 TF.sz88 0 rfl rfl rfl he2 (by decide) fun p2 o2 cs2 a hf hr2 H => ?_)
              obtain rfl := Amplifier_cells hr2
              refine pRun_ok (tb := tab) (n := 155) tabOk 1 _ _ hf rfl rfl fun a hf => ?_
              refine wl0 rfl (op_q hf (rq_loadI hf H TF.ls3 0 3 rfl rfl rfl) rfl (by decide) fun a hf => ?_)
              refine pRun_ok (tb := tab) (n := 155) tabOk 2 _ _ hf rfl rfl fun a hf => ?_
              refine wl_end ?_
              refine then_n ?_
              refine (Bool.eq_false_or_eq_true (decide (e2.Noise > y14.1))).elim (fun hc22 => ?_) (fun hc22 => ?_)
              · rw [if_pos hc22] at hR1
                refine cd_t hf rfl hc22 ?_
                refine sq ?_
                refine reg ?_
                refine pRun_ok (tb := tab) (n := 155) tabOk 1 _ _ hf rfl rfl fun a hf => ?_
                have hf := hf.prune [2] rfl
                refine wl_end ?_
                refine then_n ?_
                refine wp_ret (blk_r (then_r (then_r (blk_r (then_r (then_r (?_)))))))
                obtain rfl := Option.some.inj hR1
                replace hF := on_ret hF
                obtain rfl := Option.some.inj hF
                refine ret_1 (fn := Try.f18) (r := .tmp 2) hf rfl (rv_tmp hf rfl) ?_
                exact ⟨_, rfl, H.bel, mk_bool⟩
              · rw [if_neg (nt hc22)] at hR1
                refine cd_f hf rfl hc22 ?_
                refine wp_skip ?_
                refine blk_n ?_
                refine then_n ?_
                refine reg ?_
                refine pRun_ok (tb := tab) (n := 155) tabOk 3 _ _ hf rfl rfl fun a hf => ?_
                have hf := hf.prune [0, 10, 11, 15] rfl
                refine wl_end ?_
                have hf := hf.prune [0, 10, 11, 15] rfl
                have H := H.let [] [] [] [1, 2]
                exact then_n ⟨w64 (i3 + 1), hR1, hf, H⟩
            · rw [if_neg (nt hc21)] at hR1
              refine cd_f hf rfl hc21 ?_
              refine wp_exit (then_x (then_x (blk_e (?_))))
              have hf := hf.prune [0, 10, 11, 15] rfl
              have H := H.let [] [] [] [0, 1]
              exact ⟨i3, (Option.some.inj hR1).symm, hf, H⟩
          rintro a w ⟨i4, rfl, hf, H⟩
          replace hF := on_next hF
          refine then_n ?_
          refine sq ?_
          refine reg ?_
          refine pRun_ok (tb := tab) (n := 155) tabOk 1 _ _ hf rfl rfl fun a hf => ?_
          obtain ⟨y16, hy16, hF⟩ := bind_some hF
          refine wl0 rfl (op_call hf TF.cl79 rfl (by decide) (spec_DrawMostSpans_ok (S := fun _ => True) (mk_list (rep_true (α := List By) (H.get 1 rfl))) hy16) fun v39 w a hp39 hf => ?_)
          obtain ⟨hb16, v40, v41, v42, rfl, hp40, hp41, hp42⟩ := hp39
          obtain rfl := Span_open hp40
          obtain rfl := VR_int hp41
          obtain rfl := VR_int hp42
          have H := H.keep hb16
          refine pRun_ok (tb := tab) (n := 155) tabOk 4 _ _ hf rfl rfl fun a hf => ?_
          refine wl0 rfl (op_alloc hf H TF.zv28 rfl (by decide) fun b2 a w hf H => ?_)
          refine wl0 rfl (op_storeB hf H 0 TF.sz28 rfl rfl rfl rfl rfl rfl (nle rfl) fun w H => ?_)
          refine pRun_ok (tb := tab) (n := 155) tabOk 2 _ _ hf rfl rfl fun a hf => ?_
          refine wl_end ?_
          refine then_n ?_
          refine sq ?_
          refine reg ?_
          refine wl0 rfl (op_q hf (rq_loadBN hf H TF.la28 0 rfl rfl rfl rfl) rfl (by decide) fun a hf => ?_)
          refine pRun_ok (tb := tab) (n := 155) tabOk 2 _ _ hf rfl rfl fun a hf => ?_
          obtain ⟨y17, hy17, hF⟩ := bind_some hF
          refine wl0 rfl (op_call hf TF.cl32 rfl (by decide) (impl_MostSpans_ok (S := fun _ => True) Span_mkv mk_int mk_int hy17) fun v43 w a hp43 hf => ?_)
          obtain ⟨hb17, v44, v45, rfl, hp44, hp45⟩ := hp43
          obtain rfl := VR_int hp44
          obtain rfl := VR_bool hp45
          have H := H.keep hb17
          refine pRun_ok (tb := tab) (n := 155) tabOk 5 _ _ hf rfl rfl fun a hf => ?_
          have hf := hf.prune [16, 17, 18, 19, 20] rfl
          refine wl_end ?_
          refine then_n ?_
          refine sq ?_
          refine reg ?_
          refine wl0 rfl (op_q hf (rq_loadBN hf H TF.la28 0 rfl rfl rfl rfl) rfl (by decide) fun a hf => ?_)
          refine pRun_ok (tb := tab) (n := 155) tabOk 2 _ _ hf rfl rfl fun a hf => ?_
          obtain ⟨y18, hy18, hF⟩ := bind_some hF
          refine wl0 rfl (op_call hf TF.cl31 rfl (by decide) (spec_MostSpans_ok (S := fun _ => True) Span_mkv mk_int mk_int hy18) fun v46 w a hp46 hf => ?_)
          obtain ⟨hb18, v47, v48, rfl, hp47, hp48⟩ := hp46
          obtain rfl := VR_int hp47
          obtain rfl := VR_bool hp48
          have H := H.keep hb18
          refine pRun_ok (tb := tab) (n := 155) tabOk 5 _ _ hf rfl rfl fun a hf => ?_
          refine wl_end ?_
          refine then_n ?_
          refine sq ?_
          refine reg ?_
          refine wl0 rfl (op_q hf (rq_loadBN hf H TF.la28 0 rfl rfl rfl rfl) rfl (by decide) fun a hf => ?_)
          obtain ⟨y19, hy19, hF⟩ := bind_some hF
          refine wl0 rfl (op_call hf TF.cl26 rfl (by decide) (spec_SpanLoss_ok (S := fun _ => True) Span_mkv hy19) fun v49 w a hp49 hf => ?_)
          obtain ⟨hb19, v50, v51, rfl, hp50, hp51⟩ := hp49
          obtain rfl := VR_int hp50
          obtain rfl := VR_bool hp51
          have H := H.keep hb19
          refine pRun_ok (tb := tab) (n := 155) tabOk 5 _ _ hf rfl rfl fun a hf => ?_
          have hf := hf.prune [17, 18, 19, 20, 21, 22, 23] rfl
          refine wl_end ?_
          refine then_n ?_
          refine sq ?_
          obtain ⟨c11, hGc11, hF⟩ := bind_some hF
          refine mid (fun a w => Fr a 155 [(2, (.bool c11))] ∧ Mem ⟨w0, []⟩ S [] [] [] [] w) ?_ ?_
          · refine reg ?_
            refine pRun_ok (tb := tab) (n := 155) tabOk 4 _ _ hf rfl rfl fun a hf => ?_
            refine (Bool.eq_false_or_eq_true (y17.1 == y18.1)).elim (fun hc23 => ?_) (fun hc23 => ?_)
            · rw [if_pos hc23] at hGc11
              have hf := hf.lit 133 rfl hc23
              refine pRun_ok (tb := tab) (n := 155) tabOk 5 _ _ hf rfl rfl fun a hf => ?_
              refine (Bool.eq_false_or_eq_true (y17.2 == y18.2)).elim (fun hc24 => ?_) (fun hc24 => ?_)
              · rw [if_pos hc24] at hGc11
                have hf := hf.lit 138 rfl hc24
                refine pRun_ok (tb := tab) (n := 155) tabOk 3 _ _ hf rfl rfl fun a hf => ?_
                refine (Bool.eq_false_or_eq_true (!y17.2)).elim (fun hc25 => ?_) (fun hc25 => ?_)
                · rw [if_pos hc25] at hGc11
                  have hf := hf.lit 141 rfl hc25
                  refine pRun_ok (tb := tab) (n := 155) tabOk 14 _ _ hf rfl rfl fun a hf => ?_
                  obtain rfl := Option.some.inj hGc11
                  have hf := hf.prune [2] rfl
                  have H := H.let [false] [] [] []
                  exact wl_end ⟨hf, H⟩
                · rw [if_neg (nt hc25)] at hGc11
                  have hf := hf.lit 141 rfl hc25
                  refine pRun_ok (tb := tab) (n := 155) tabOk 4 _ _ hf rfl rfl fun a hf => ?_
                  refine (Bool.eq_false_or_eq_true (y17.1 == 0)).elim (fun hc26 => ?_) (fun hc26 => ?_)
                  · rw [if_pos hc26] at hGc11
                    have hf := hf.lit 145 rfl hc26
                    refine pRun_ok (tb := tab) (n := 155) tabOk 10 _ _ hf rfl rfl fun a hf => ?_
                    obtain rfl := Option.some.inj hGc11
                    have hf := hf.prune [2] rfl
                    have H := H.let [false] [] [] []
                    exact wl_end ⟨hf, H⟩
                  · rw [if_neg (nt hc26)] at hGc11
                    have hf := hf.lit 145 rfl hc26
                    refine pRun_ok (tb := tab) (n := 155) tabOk 10 _ _ hf rfl rfl fun a hf => ?_
                    obtain rfl := Option.some.inj hGc11
                    have hf := hf.prune [2] rfl
                    have H := H.let [false] [] [] []
                    exact wl_end ⟨hf, H⟩
              · rw [if_neg (nt hc24)] at hGc11
                have hf := hf.lit 138 rfl hc24
                refine pRun_ok (tb := tab) (n := 155) tabOk 3 _ _ hf rfl rfl fun a hf => ?_
                refine wlsu hf rfl rfl rfl rfl (by decide) fun a hf => ?_
                refine wlsu hf rfl rfl rfl rfl (by decide) fun a hf => ?_
                refine pRun_ok (tb := tab) (n := 155) tabOk 2 _ _ hf rfl rfl fun a hf => ?_
                refine wlsu hf rfl rfl rfl rfl (by decide) fun a hf => ?_
                refine wlsu hf rfl rfl rfl rfl (by decide) fun a hf => ?_
                refine wlsu hf rfl rfl rfl rfl (by decide) fun a hf => ?_
                refine wlsu hf rfl rfl rfl rfl (by decide) fun a hf => ?_
                refine wlsu hf rfl rfl rfl rfl (by decide) fun a hf => ?_
                refine wlsu hf rfl rfl rfl rfl (by decide) fun a hf => ?_
                refine wlsu hf rfl rfl rfl rfl (by decide) fun a hf => ?_
                refine pRun_ok (tb := tab) (n := 155) tabOk 3 _ _ hf rfl rfl fun a hf => ?_
                obtain rfl := Option.some.inj hGc11
                have hf := hf.prune [2] rfl
                have H := H.let [false] [] [] []
                exact wl_end ⟨hf, H⟩
            · rw [if_neg (nt hc23)] at hGc11
              have hf := hf.lit 133 rfl hc23
              refine pRun_ok (tb := tab) (n := 155) tabOk 8 _ _ hf rfl rfl fun a hf => ?_
              refine wlsu hf rfl rfl rfl rfl (by decide) fun a hf => ?_
              refine wlsu hf rfl rfl rfl rfl (by decide) fun a hf => ?_
              refine pRun_ok (tb := tab) (n := 155) tabOk 2 _ _ hf rfl rfl fun a hf => ?_
              refine wlsu hf rfl rfl rfl rfl (by decide) fun a hf => ?_
              refine wlsu hf rfl rfl rfl rfl (by decide) fun a hf => ?_
              refine wlsu hf rfl rfl rfl rfl (by decide) fun a hf => ?_
              refine wlsu hf rfl rfl rfl rfl (by decide) fun a hf => ?_
              refine wlsu hf rfl rfl rfl rfl (by decide) fun a hf => ?_
              refine wlsu hf rfl rfl rfl rfl (by decide) fun a hf => ?_
              refine wlsu hf rfl rfl rfl rfl (by decide) fun a hf => ?_
              refine pRun_ok (tb := tab) (n := 155) tabOk 3 _ _ hf rfl rfl fun a hf => ?_
              obtain rfl := Option.some.inj hGc11
              have hf := hf.prune [2] rfl
              have H := H.let [false] [] [] []
              exact wl_end ⟨hf, H⟩
          rintro a w ⟨hf, H⟩
          refine then_n ?_
          refine wp_ret (?_)
          obtain rfl := Option.some.inj hF
          refine ret_1 (fn := Try.f18) (r := .tmp 2) hf rfl (rv_tmp hf rfl) ?_
          exact ⟨_, rfl, H.bel, mk_bool⟩
end AT
