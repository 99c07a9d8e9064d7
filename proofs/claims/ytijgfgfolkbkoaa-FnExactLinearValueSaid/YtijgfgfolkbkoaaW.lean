/- The Go functions do what is told of them, by program (gen.py). -/
import Derived.Test.YtijgfgfolkbkoaaT
set_option linter.unusedVariables false
set_option maxRecDepth 100000
namespace AT
open Go Go.RowKit Go.Proofs

/- loop.example/g00897/spec.l1In -/
set_option maxHeartbeats 1000000 in
theorem spec_l1In_ok {fu : Nat} {w0 : World} {S : Nat → Prop} {v0_ : Value} {v1_ : Value} {v2_ : Value} {x1 : Int} {a' : Int} {b' : Int} {r : Bool} (h0 : VR w0 S v0_ x1) (h1 : VR w0 S v1_ a') (h2 : VR w0 S v2_ b') (hF : spec_l1In fu x1 a' b' = some r) :
    Calls Try.prog 97 [v0_, v1_, v2_].toArray w0 fun e w' => ∃ v, e = .returned v ∧ (Below w0.heap.size w0 w' ∧ VR w' (St w0 S [] [] true) v r) := by
  obtain rfl := VR_int h0
  obtain rfl := VR_int h1
  obtain rfl := VR_int h2
  have H := Mem.start w0 S
  refine enter Try.func97 rfl rfl (nle rfl) rfl fun a hf => ?_
  rw [spec_l1In] at hF
  refine sq ?_
  refine reg ?_
  refine pRun_ok (tb := tab) (n := 15) tabOk 1 _ _ hf rfl rfl fun a hf => ?_
  refine wl_end ?_
  refine then_n ?_
  refine sq ?_
  obtain ⟨c, hGc, hF⟩ := bind_some hF
  refine mid (fun a w => Fr a 15 [(6, (.bool c))] ∧ Mem w0 S [] [] [] w) ?_ ?_
  · refine reg ?_
    refine pRun_ok (tb := tab) (n := 15) tabOk 4 _ _ hf rfl rfl fun a hf => ?_
    refine (Bool.eq_false_or_eq_true (decide (x1 ≥ a'))).elim (fun hc => ?_) (fun hc => ?_)
    · rw [if_pos hc] at hGc
      have hf := hf.lit 10 rfl hc
      refine pRun_ok (tb := tab) (n := 15) tabOk 5 _ _ hf rfl rfl fun a hf => ?_
      obtain rfl := Option.some.inj hGc
      have hf := hf.prune [6] rfl
      have H := H.let [] [] []
      exact wl_end ⟨hf, H⟩
    · rw [if_neg (nt hc)] at hGc
      have hf := hf.lit 10 rfl hc
      refine pRun_ok (tb := tab) (n := 15) tabOk 5 _ _ hf rfl rfl fun a hf => ?_
      obtain rfl := Option.some.inj hGc
      have hf := hf.prune [6] rfl
      have H := H.let [] [] []
      exact wl_end ⟨hf, H⟩
  rintro a w ⟨hf, H⟩
  refine then_n ?_
  refine wp_ret (?_)
  obtain rfl := Option.some.inj hF
  refine ret_1 (fn := Try.f97) (r := .tmp 6) hf rfl (rv_tmp hf rfl) ?_
  exact ⟨_, rfl, H.below, mk_bool⟩

/- loop.example/g00897/spec.MovePointer -/
set_option maxHeartbeats 1000000 in
theorem spec_MovePointer_ok {fu : Nat} {w0 : World} {S : Nat → Prop} {v0_ : Value} {v1_ : Value} {pointer : Int} {drift : Int} {r : Int × Bool} (h0 : VR w0 S v0_ pointer) (h1 : VR w0 S v1_ drift) (hF : spec_MovePointer fu pointer drift = some r) :
    Calls Try.prog 24 [v0_, v1_].toArray w0 fun e w' => ∃ v, e = .returned v ∧ (Below w0.heap.size w0 w' ∧ ∃ u0 u1, v = .tuple #[u0, u1] ∧ VR w' (St w0 S [] [] true) u0 r.1 ∧ VR w' (St w0 S [] [] true) u1 r.2) := by
  obtain rfl := VR_int h0
  obtain rfl := VR_int h1
  have H := Mem.start w0 S
  refine enter Try.func24 rfl rfl (nle rfl) rfl fun a hf => ?_
  rw [spec_MovePointer] at hF
  refine sq ?_
  refine reg ?_
  refine pRun_ok (tb := tab) (n := 19) tabOk 2 _ _ hf rfl rfl fun a hf => ?_
  refine wl_end ?_
  refine then_n ?_
  refine sq ?_
  refine sq ?_
  obtain ⟨c, hGc, hF⟩ := bind_some hF
  refine mid (fun a w => Fr a 19 [(0, (.int .i64 pointer)), (1, (.int .i64 drift)), (13, (.bool c))] ∧ Mem w0 S [] [] [] w) ?_ ?_
  · refine reg ?_
    refine pRun_ok (tb := tab) (n := 19) tabOk 1 _ _ hf rfl rfl fun a hf => ?_
    obtain ⟨y, hy, hGc⟩ := bind_some hGc
    refine wl0 rfl (op_call hf TF.cl97 rfl (by decide) (spec_l1In_ok (S := fun _ => True) mk_int mk_int mk_int hy) fun v w a hp hf => ?_)
    obtain ⟨hb, hp⟩ := hp
    obtain rfl := VR_bool hp
    have H := H.keep hb
    refine pRun_ok (tb := tab) (n := 19) tabOk 2 _ _ hf rfl rfl fun a hf => ?_
    refine (Bool.eq_false_or_eq_true (!y)).elim (fun hc => ?_) (fun hc => ?_)
    · rw [if_pos hc] at hGc
      have hf := hf.lit 9 rfl hc
      refine pRun_ok (tb := tab) (n := 19) tabOk 4 _ _ hf rfl rfl fun a hf => ?_
      obtain rfl := Option.some.inj hGc
      have hf := hf.prune [0, 1, 13] rfl
      have H := H.let [] [] []
      exact wl_end ⟨hf, H⟩
    · rw [if_neg (nt hc)] at hGc
      have hf := hf.lit 9 rfl hc
      refine pRun_ok (tb := tab) (n := 19) tabOk 1 _ _ hf rfl rfl fun a hf => ?_
      obtain ⟨y2, hy2, hGc⟩ := bind_some hGc
      refine wlg hf rfl rfl rfl (op_call hf TF.cl97 rfl (by decide) (spec_l1In_ok (S := fun _ => True) mk_int mk_int mk_int hy2) fun v2 w a hp2 hf => ?_)
      obtain ⟨hb2, hp2⟩ := hp2
      obtain rfl := VR_bool hp2
      have H := H.keep hb2
      refine pRun_ok (tb := tab) (n := 19) tabOk 2 _ _ hf rfl rfl fun a hf => ?_
      obtain rfl := Option.some.inj hGc
      have hf := hf.prune [0, 1, 13] rfl
      have H := H.let [] [] []
      exact wl_end ⟨hf, H⟩
  rintro a w ⟨hf, H⟩
  refine then_n ?_
  refine (Bool.eq_false_or_eq_true (c)).elim (fun hc2 => ?_) (fun hc2 => ?_)
  · rw [if_pos hc2] at hF
    refine cd_t hf rfl hc2 ?_
    refine sq ?_
    refine reg ?_
    refine pRun_ok (tb := tab) (n := 19) tabOk 2 _ _ hf rfl rfl fun a hf => ?_
    refine wl_end ?_
    refine then_n ?_
    refine wp_ret (then_r (?_))
    obtain rfl := Option.some.inj hF
    refine ret_2 (fn := Try.f24) (r := .tmp 4) (s := .tmp 5) hf rfl (rv_tmp hf rfl) (rv_tmp hf rfl) ?_
    exact ⟨_, rfl, H.below, _, _, rfl, mk_int, mk_bool⟩
  · rw [if_neg (nt hc2)] at hF
    refine cd_f hf rfl hc2 ?_
    refine wp_skip ?_
    refine then_n ?_
    refine sq ?_
    refine reg ?_
    refine pRun_ok (tb := tab) (n := 19) tabOk 4 _ _ hf rfl rfl fun a hf => ?_
    obtain ⟨q, hq, hF⟩ := bind_some hF
    refine wl0 rfl (op_q hf (rq_rem hf rfl rfl hq) rfl (by decide) fun a hf => ?_)
    refine pRun_ok (tb := tab) (n := 19) tabOk 2 _ _ hf rfl rfl fun a hf => ?_
    refine wl_end ?_
    refine then_n ?_
    refine wp_ret (?_)
    obtain rfl := Option.some.inj hF
    refine ret_2 (fn := Try.f24) (r := .tmp 4) (s := .tmp 5) hf rfl (rv_tmp hf rfl) (rv_tmp hf rfl) ?_
    exact ⟨_, rfl, H.below, _, _, rfl, mk_int, mk_bool⟩

/- loop.example/g00897/impl.within -/
set_option maxHeartbeats 1000000 in
theorem impl_within_ok {fu : Nat} {w0 : World} {S : Nat → Prop} {v0_ : Value} {v1_ : Value} {v2_ : Value} {n' : Int} {low : Int} {high : Int} {r : Bool} (h0 : VR w0 S v0_ n') (h1 : VR w0 S v1_ low) (h2 : VR w0 S v2_ high) (hF : impl_within fu n' low high = some r) :
    Calls Try.prog 98 [v0_, v1_, v2_].toArray w0 fun e w' => ∃ v, e = .returned v ∧ (Below w0.heap.size w0 w' ∧ VR w' (St w0 S [] [] true) v r) := by
  obtain rfl := VR_int h0
  obtain rfl := VR_int h1
  obtain rfl := VR_int h2
  have H := Mem.start w0 S
  refine enter Try.func98 rfl rfl (nle rfl) rfl fun a hf => ?_
  rw [impl_within] at hF
  refine sq ?_
  refine reg ?_
  refine pRun_ok (tb := tab) (n := 15) tabOk 1 _ _ hf rfl rfl fun a hf => ?_
  refine wl_end ?_
  refine then_n ?_
  refine sq ?_
  obtain ⟨c, hGc, hF⟩ := bind_some hF
  refine mid (fun a w => Fr a 15 [(6, (.bool c))] ∧ Mem w0 S [] [] [] w) ?_ ?_
  · refine reg ?_
    refine pRun_ok (tb := tab) (n := 15) tabOk 4 _ _ hf rfl rfl fun a hf => ?_
    refine (Bool.eq_false_or_eq_true (decide (low ≤ n'))).elim (fun hc => ?_) (fun hc => ?_)
    · rw [if_pos hc] at hGc
      have hf := hf.lit 10 rfl hc
      refine pRun_ok (tb := tab) (n := 15) tabOk 5 _ _ hf rfl rfl fun a hf => ?_
      obtain rfl := Option.some.inj hGc
      have hf := hf.prune [6] rfl
      have H := H.let [] [] []
      exact wl_end ⟨hf, H⟩
    · rw [if_neg (nt hc)] at hGc
      have hf := hf.lit 10 rfl hc
      refine pRun_ok (tb := tab) (n := 15) tabOk 5 _ _ hf rfl rfl fun a hf => ?_
      obtain rfl := Option.some.inj hGc
      have hf := hf.prune [6] rfl
      have H := H.let [] [] []
      exact wl_end ⟨hf, H⟩
  rintro a w ⟨hf, H⟩
  refine then_n ?_
  refine wp_ret (?_)
  obtain rfl := Option.some.inj hF
  refine ret_1 (fn := Try.f98) (r := .tmp 6) hf rfl (rv_tmp hf rfl) ?_
  exact ⟨_, rfl, H.below, mk_bool⟩

/- loop.example/g00897/impl.MovePointer -/
set_option maxHeartbeats 1000000 in
theorem impl_MovePointer_ok {fu : Nat} {w0 : World} {S : Nat → Prop} {v0_ : Value} {v1_ : Value} {pointer : Int} {drift : Int} {r : Int × Bool} (h0 : VR w0 S v0_ pointer) (h1 : VR w0 S v1_ drift) (hF : impl_MovePointer fu pointer drift = some r) :
    Calls Try.prog 25 [v0_, v1_].toArray w0 fun e w' => ∃ v, e = .returned v ∧ (Below w0.heap.size w0 w' ∧ ∃ u0 u1, v = .tuple #[u0, u1] ∧ VR w' (St w0 S [] [] true) u0 r.1 ∧ VR w' (St w0 S [] [] true) u1 r.2) := by
  obtain rfl := VR_int h0
  obtain rfl := VR_int h1
  have H := Mem.start w0 S
  refine enter Try.func25 rfl rfl (nle rfl) rfl fun a hf => ?_
  rw [impl_MovePointer] at hF
  refine sq ?_
  refine reg ?_
  refine pRun_ok (tb := tab) (n := 19) tabOk 2 _ _ hf rfl rfl fun a hf => ?_
  refine wl_end ?_
  refine then_n ?_
  refine sq ?_
  refine sq ?_
  obtain ⟨c, hGc, hF⟩ := bind_some hF
  refine mid (fun a w => Fr a 19 [(0, (.int .i64 pointer)), (1, (.int .i64 drift)), (13, (.bool c))] ∧ Mem w0 S [] [] [] w) ?_ ?_
  · refine reg ?_
    refine pRun_ok (tb := tab) (n := 19) tabOk 1 _ _ hf rfl rfl fun a hf => ?_
    obtain ⟨y, hy, hGc⟩ := bind_some hGc
    refine wl0 rfl (op_call hf TF.cl98 rfl (by decide) (impl_within_ok (S := fun _ => True) mk_int mk_int mk_int hy) fun v w a hp hf => ?_)
    obtain ⟨hb, hp⟩ := hp
    obtain rfl := VR_bool hp
    have H := H.keep hb
    refine pRun_ok (tb := tab) (n := 19) tabOk 2 _ _ hf rfl rfl fun a hf => ?_
    refine (Bool.eq_false_or_eq_true (!y)).elim (fun hc => ?_) (fun hc => ?_)
    · rw [if_pos hc] at hGc
      have hf := hf.lit 9 rfl hc
      refine pRun_ok (tb := tab) (n := 19) tabOk 4 _ _ hf rfl rfl fun a hf => ?_
      obtain rfl := Option.some.inj hGc
      have hf := hf.prune [0, 1, 13] rfl
      have H := H.let [] [] []
      exact wl_end ⟨hf, H⟩
    · rw [if_neg (nt hc)] at hGc
      have hf := hf.lit 9 rfl hc
      refine pRun_ok (tb := tab) (n := 19) tabOk 1 _ _ hf rfl rfl fun a hf => ?_
      obtain ⟨y2, hy2, hGc⟩ := bind_some hGc
      refine wlg hf rfl rfl rfl (op_call hf TF.cl98 rfl (by decide) (impl_within_ok (S := fun _ => True) mk_int mk_int mk_int hy2) fun v2 w a hp2 hf => ?_)
      obtain ⟨hb2, hp2⟩ := hp2
      obtain rfl := VR_bool hp2
      have H := H.keep hb2
      refine pRun_ok (tb := tab) (n := 19) tabOk 2 _ _ hf rfl rfl fun a hf => ?_
      obtain rfl := Option.some.inj hGc
      have hf := hf.prune [0, 1, 13] rfl
      have H := H.let [] [] []
      exact wl_end ⟨hf, H⟩
  rintro a w ⟨hf, H⟩
  refine then_n ?_
  refine (Bool.eq_false_or_eq_true (c)).elim (fun hc2 => ?_) (fun hc2 => ?_)
  · rw [if_pos hc2] at hF
    refine cd_t hf rfl hc2 ?_
    refine sq ?_
    refine reg ?_
    refine pRun_ok (tb := tab) (n := 19) tabOk 2 _ _ hf rfl rfl fun a hf => ?_
    refine wl_end ?_
    refine then_n ?_
    refine wp_ret (then_r (?_))
    obtain rfl := Option.some.inj hF
    refine ret_2 (fn := Try.f25) (r := .tmp 4) (s := .tmp 5) hf rfl (rv_tmp hf rfl) (rv_tmp hf rfl) ?_
    exact ⟨_, rfl, H.below, _, _, rfl, mk_int, mk_bool⟩
  · rw [if_neg (nt hc2)] at hF
    refine cd_f hf rfl hc2 ?_
    refine wp_skip ?_
    refine then_n ?_
    refine sq ?_
    refine reg ?_
    refine pRun_ok (tb := tab) (n := 19) tabOk 4 _ _ hf rfl rfl fun a hf => ?_
    obtain ⟨q, hq, hF⟩ := bind_some hF
    refine wl0 rfl (op_q hf (rq_rem hf rfl rfl hq) rfl (by decide) fun a hf => ?_)
    refine pRun_ok (tb := tab) (n := 19) tabOk 2 _ _ hf rfl rfl fun a hf => ?_
    refine wl_end ?_
    refine then_n ?_
    refine wp_ret (?_)
    obtain rfl := Option.some.inj hF
    refine ret_2 (fn := Try.f25) (r := .tmp 4) (s := .tmp 5) hf rfl (rv_tmp hf rfl) (rv_tmp hf rfl) ?_
    exact ⟨_, rfl, H.below, _, _, rfl, mk_int, mk_bool⟩

/- loop.example/g00897/laws.FnExactMovePointer -/
set_option maxHeartbeats 1000000 in
theorem laws_FnExactMovePointer_ok {fu : Nat} {w0 : World} {S : Nat → Prop} {v0_ : Value} {v1_ : Value} {aPointer : Int} {aDrift : Int} {r : Bool} (h0 : VR w0 S v0_ aPointer) (h1 : VR w0 S v1_ aDrift) (hF : laws_FnExactMovePointer fu aPointer aDrift = some r) :
    Calls Try.prog 3 [v0_, v1_].toArray w0 fun e w' => ∃ v, e = .returned v ∧ (Below w0.heap.size w0 w' ∧ VR w' (St w0 S [] [] true) v r) := by
  obtain rfl := VR_int h0
  obtain rfl := VR_int h1
  have H := Mem.start w0 S
  refine enter Try.func3 rfl rfl (nle rfl) rfl fun a hf => ?_
  rw [laws_FnExactMovePointer] at hF
  refine sq ?_
  refine reg ?_
  refine pRun_ok (tb := tab) (n := 29) tabOk 1 _ _ hf rfl rfl fun a hf => ?_
  refine wl_end ?_
  refine then_n ?_
  refine sq ?_
  refine reg ?_
  refine pRun_ok (tb := tab) (n := 29) tabOk 2 _ _ hf rfl rfl fun a hf => ?_
  obtain ⟨y, hy, hF⟩ := bind_some hF
  refine wl0 rfl (op_call hf TF.cl24 rfl (by decide) (spec_MovePointer_ok (S := fun _ => True) mk_int mk_int hy) fun v w a hp hf => ?_)
  obtain ⟨hb, v2, v3, rfl, hp2, hp3⟩ := hp
  obtain rfl := VR_int hp2
  obtain rfl := VR_bool hp3
  have H := H.keep hb
  refine pRun_ok (tb := tab) (n := 29) tabOk 5 _ _ hf rfl rfl fun a hf => ?_
  refine wl_end ?_
  refine then_n ?_
  refine sq ?_
  refine reg ?_
  refine pRun_ok (tb := tab) (n := 29) tabOk 2 _ _ hf rfl rfl fun a hf => ?_
  obtain ⟨y2, hy2, hF⟩ := bind_some hF
  refine wl0 rfl (op_call hf TF.cl25 rfl (by decide) (impl_MovePointer_ok (S := fun _ => True) mk_int mk_int hy2) fun v4 w a hp4 hf => ?_)
  obtain ⟨hb2, v5, v6, rfl, hp5, hp6⟩ := hp4
  obtain rfl := VR_int hp5
  obtain rfl := VR_bool hp6
  have H := H.keep hb2
  refine pRun_ok (tb := tab) (n := 29) tabOk 5 _ _ hf rfl rfl fun a hf => ?_
  have hf := hf.prune [5, 6, 7, 8] rfl
  refine wl_end ?_
  refine then_n ?_
  refine sq ?_
  refine sq ?_
  obtain ⟨c, hGc, hF⟩ := bind_some hF
  refine mid (fun a w => Fr a 29 [(28, (.bool c))] ∧ Mem w0 S [] [] [] w) ?_ ?_
  · refine reg ?_
    refine pRun_ok (tb := tab) (n := 29) tabOk 4 _ _ hf rfl rfl fun a hf => ?_
    refine (Bool.eq_false_or_eq_true (y2.1 != y.1)).elim (fun hc => ?_) (fun hc => ?_)
    · rw [if_pos hc] at hGc
      have hf := hf.lit 24 rfl hc
      refine pRun_ok (tb := tab) (n := 29) tabOk 4 _ _ hf rfl rfl fun a hf => ?_
      obtain rfl := Option.some.inj hGc
      have hf := hf.prune [28] rfl
      have H := H.let [] [] []
      exact wl_end ⟨hf, H⟩
    · rw [if_neg (nt hc)] at hGc
      have hf := hf.lit 24 rfl hc
      refine pRun_ok (tb := tab) (n := 29) tabOk 4 _ _ hf rfl rfl fun a hf => ?_
      obtain rfl := Option.some.inj hGc
      have hf := hf.prune [28] rfl
      have H := H.let [] [] []
      exact wl_end ⟨hf, H⟩
  rintro a w ⟨hf, H⟩
  refine then_n ?_
  refine (Bool.eq_false_or_eq_true (c)).elim (fun hc2 => ?_) (fun hc2 => ?_)
  · rw [if_pos hc2] at hF
    refine cd_t hf rfl hc2 ?_
    refine sq ?_
    refine reg ?_
    refine pRun_ok (tb := tab) (n := 29) tabOk 1 _ _ hf rfl rfl fun a hf => ?_
    refine wl_end ?_
    refine then_n ?_
    refine wp_ret (then_r (?_))
    obtain rfl := Option.some.inj hF
    refine ret_1 (fn := Try.f3) (r := .tmp 4) hf rfl (rv_tmp hf rfl) ?_
    exact ⟨_, rfl, H.below, mk_bool⟩
  · rw [if_neg (nt hc2)] at hF
    refine cd_f hf rfl hc2 ?_
    refine wp_skip ?_
    refine then_n ?_
    refine sq ?_
    refine reg ?_
    refine pRun_ok (tb := tab) (n := 29) tabOk 1 _ _ hf rfl rfl fun a hf => ?_
    refine wl_end ?_
    refine then_n ?_
    refine wp_ret (?_)
    obtain rfl := Option.some.inj hF
    refine ret_1 (fn := Try.f3) (r := .tmp 4) hf rfl (rv_tmp hf rfl) ?_
    exact ⟨_, rfl, H.below, mk_bool⟩

/- loop.example/g00897/laws.toSpan -/
set_option maxHeartbeats 1000000 in
theorem laws_toSpan_ok {fu : Nat} {w0 : World} {S : Nat → Prop} {v0_ : Value} {a' : Span} {r : Span} (h0 : VR w0 S v0_ a') (hF : laws_toSpan fu a' = some r) :
    Calls Try.prog 27 [v0_].toArray w0 fun e w' => ∃ v, e = .returned v ∧ (Below w0.heap.size w0 w' ∧ VR w' (St w0 S [] [] true) v r) := by
  obtain rfl := Span_open h0
  have H := Mem.start w0 S
  refine enter Try.func27 rfl rfl (nle rfl) rfl fun a hf => ?_
  rw [laws_toSpan] at hF
  refine sq ?_
  refine reg ?_
  refine wl0 rfl (op_box hf H rfl rfl (by decide) fun b' a w hf H => ?_)
  refine wl0 rfl (op_alloc hf H TF.zv28 rfl (by decide) fun b2 a w hf H => ?_)
  refine wl_end ?_
  refine then_n ?_
  refine sq ?_
  refine reg ?_
  refine wl0 rfl (op_alloc hf H TF.zv28 rfl (by decide) fun b3 a w hf H => ?_)
  refine wl_end ?_
  refine then_n ?_
  refine sq ?_
  refine reg ?_
  refine pRun_ok (tb := tab) (n := 14) tabOk 1 _ _ hf rfl rfl fun a hf => ?_
  refine wl0 rfl (op_q hf (rq_loadB hf H TF.ls3 2 rfl rfl rfl) rfl (by decide) fun a hf => ?_)
  refine pRun_ok (tb := tab) (n := 14) tabOk 1 _ _ hf rfl rfl fun a hf => ?_
  refine wl0 rfl (op_storeB hf H 0 TF.sz3 rfl rfl rfl rfl rfl rfl (nle rfl) fun w H => ?_)
  refine wl_end ?_
  refine then_n ?_
  refine sq ?_
  refine reg ?_
  refine pRun_ok (tb := tab) (n := 14) tabOk 1 _ _ hf rfl rfl fun a hf => ?_
  refine wl0 rfl (op_q hf (rq_loadB hf H TF.ls3 2 rfl rfl rfl) rfl (by decide) fun a hf => ?_)
  refine pRun_ok (tb := tab) (n := 14) tabOk 1 _ _ hf rfl rfl fun a hf => ?_
  refine wl0 rfl (op_storeB hf H 0 TF.sz3 rfl rfl rfl rfl rfl rfl (nle rfl) fun w H => ?_)
  refine wl_end ?_
  refine then_n ?_
  refine sq ?_
  refine reg ?_
  refine pRun_ok (tb := tab) (n := 14) tabOk 1 _ _ hf rfl rfl fun a hf => ?_
  refine wl0 rfl (op_q hf (rq_loadB hf H TF.ls3 2 rfl rfl rfl) rfl (by decide) fun a hf => ?_)
  refine pRun_ok (tb := tab) (n := 14) tabOk 1 _ _ hf rfl rfl fun a hf => ?_
  refine wl0 rfl (op_storeB hf H 0 TF.sz3 rfl rfl rfl rfl rfl rfl (nle rfl) fun w H => ?_)
  refine wl_end ?_
  refine then_n ?_
  refine sq ?_
  refine reg ?_
  refine wl0 rfl (op_q hf (rq_loadBN hf H TF.la28 0 rfl rfl rfl rfl) rfl (by decide) fun a hf => ?_)
  refine wl0 rfl (op_storeB hf H 1 TF.sz28 rfl rfl rfl rfl rfl rfl (nle rfl) fun w H => ?_)
  have hf := hf.prune [2] rfl
  refine wl_end ?_
  refine then_n ?_
  refine wp_ret (?_)
  obtain rfl := Option.some.inj hF
  refine ret_1 (fn := Try.f27) (r := .cell 2 28) hf rfl (rv_cellN hf H 1 TF.la28 rfl rfl rfl) ?_
  exact ⟨_, rfl, H.below, Span_mkv⟩

/- loop.example/g00897/spec.l22Span -/
set_option maxHeartbeats 1000000 in
theorem spec_l22Span_ok {fu : Nat} {w0 : World} {S : Nat → Prop} {v0_ : Value} {s' : Span} {r : Bool} (h0 : VR w0 S v0_ s') (hF : spec_l22Span fu s' = some r) :
    Calls Try.prog 99 [v0_].toArray w0 fun e w' => ∃ v, e = .returned v ∧ (Below w0.heap.size w0 w' ∧ VR w' (St w0 S [] [] true) v r) := by
  obtain rfl := Span_open h0
  have H := Mem.start w0 S
  refine enter Try.func99 rfl rfl (nle rfl) rfl fun a hf => ?_
  rw [spec_l22Span] at hF
  refine sq ?_
  refine reg ?_
  refine wl0 rfl (op_box hf H rfl rfl (by decide) fun b' a w hf H => ?_)
  refine pRun_ok (tb := tab) (n := 16) tabOk 1 _ _ hf rfl rfl fun a hf => ?_
  refine wl_end ?_
  refine then_n ?_
  refine sq ?_
  obtain ⟨c, hGc, hF⟩ := bind_some hF
  refine mid (fun a w => Fr a 16 [(2, (.bool c))] ∧ Mem w0 S [] [] [] w) ?_ ?_
  · refine reg ?_
    refine pRun_ok (tb := tab) (n := 16) tabOk 1 _ _ hf rfl rfl fun a hf => ?_
    refine wl0 rfl (op_q hf (rq_loadB hf H TF.ls3 0 rfl rfl rfl) rfl (by decide) fun a hf => ?_)
    obtain ⟨y, hy, hGc⟩ := bind_some hGc
    refine wl0 rfl (op_call hf TF.cl97 rfl (by decide) (spec_l1In_ok (S := fun _ => True) mk_int mk_int mk_int hy) fun v w a hp hf => ?_)
    obtain ⟨hb, hp⟩ := hp
    obtain rfl := VR_bool hp
    have H := H.keep hb
    refine pRun_ok (tb := tab) (n := 16) tabOk 1 _ _ hf rfl rfl fun a hf => ?_
    refine (Bool.eq_false_or_eq_true (y)).elim (fun hc => ?_) (fun hc => ?_)
    · rw [if_pos hc] at hGc
      have hf := hf.lit 6 rfl hc
      refine pRun_ok (tb := tab) (n := 16) tabOk 1 _ _ hf rfl rfl fun a hf => ?_
      refine wlg hf rfl rfl rfl (op_q hf (rq_loadB hf H TF.ls3 0 rfl rfl rfl) rfl (by decide) fun a hf => ?_)
      obtain ⟨y2, hy2, hGc⟩ := bind_some hGc
      refine wlg hf rfl rfl rfl (op_call hf TF.cl97 rfl (by decide) (spec_l1In_ok (S := fun _ => True) mk_int mk_int mk_int hy2) fun v2 w a hp2 hf => ?_)
      obtain ⟨hb2, hp2⟩ := hp2
      obtain rfl := VR_bool hp2
      have H := H.keep hb2
      refine pRun_ok (tb := tab) (n := 16) tabOk 2 _ _ hf rfl rfl fun a hf => ?_
      refine (Bool.eq_false_or_eq_true (y2)).elim (fun hc2 => ?_) (fun hc2 => ?_)
      · rw [if_pos hc2] at hGc
        have hf := hf.lit 11 rfl hc2
        refine pRun_ok (tb := tab) (n := 16) tabOk 1 _ _ hf rfl rfl fun a hf => ?_
        refine wlg hf rfl rfl rfl (op_q hf (rq_loadB hf H TF.ls3 0 rfl rfl rfl) rfl (by decide) fun a hf => ?_)
        obtain ⟨y3, hy3, hGc⟩ := bind_some hGc
        refine wlg hf rfl rfl rfl (op_call hf TF.cl97 rfl (by decide) (spec_l1In_ok (S := fun _ => True) mk_int mk_int mk_int hy3) fun v3 w a hp3 hf => ?_)
        obtain ⟨hb3, hp3⟩ := hp3
        obtain rfl := VR_bool hp3
        have H := H.keep hb3
        refine pRun_ok (tb := tab) (n := 16) tabOk 2 _ _ hf rfl rfl fun a hf => ?_
        obtain rfl := Option.some.inj hGc
        have hf := hf.prune [2] rfl
        have H := H.let [false] [] []
        exact wl_end ⟨hf, H⟩
      · rw [if_neg (nt hc2)] at hGc
        have hf := hf.lit 11 rfl hc2
        refine pRun_ok (tb := tab) (n := 16) tabOk 5 _ _ hf rfl rfl fun a hf => ?_
        obtain rfl := Option.some.inj hGc
        have hf := hf.prune [2] rfl
        have H := H.let [false] [] []
        exact wl_end ⟨hf, H⟩
    · rw [if_neg (nt hc)] at hGc
      have hf := hf.lit 6 rfl hc
      refine pRun_ok (tb := tab) (n := 16) tabOk 10 _ _ hf rfl rfl fun a hf => ?_
      obtain rfl := Option.some.inj hGc
      have hf := hf.prune [2] rfl
      have H := H.let [false] [] []
      exact wl_end ⟨hf, H⟩
  rintro a w ⟨hf, H⟩
  refine then_n ?_
  refine wp_ret (?_)
  obtain rfl := Option.some.inj hF
  refine ret_1 (fn := Try.f99) (r := .tmp 2) hf rfl (rv_tmp hf rfl) ?_
  exact ⟨_, rfl, H.below, mk_bool⟩

/- loop.example/g00897/spec.l22Loss -/
set_option maxHeartbeats 1000000 in
theorem spec_l22Loss_ok {fu : Nat} {w0 : World} {S : Nat → Prop} {v0_ : Value} {s' : Span} {r : Int} (h0 : VR w0 S v0_ s') (hF : spec_l22Loss fu s' = some r) :
    Calls Try.prog 100 [v0_].toArray w0 fun e w' => ∃ v, e = .returned v ∧ (Below w0.heap.size w0 w' ∧ VR w' (St w0 S [] [] true) v r) := by
  obtain rfl := Span_open h0
  have H := Mem.start w0 S
  refine enter Try.func100 rfl rfl (nle rfl) rfl fun a hf => ?_
  rw [spec_l22Loss] at hF
  refine sq ?_
  refine reg ?_
  refine wl0 rfl (op_box hf H rfl rfl (by decide) fun b' a w hf H => ?_)
  refine pRun_ok (tb := tab) (n := 14) tabOk 1 _ _ hf rfl rfl fun a hf => ?_
  refine wl_end ?_
  refine then_n ?_
  refine sq ?_
  refine reg ?_
  refine pRun_ok (tb := tab) (n := 14) tabOk 1 _ _ hf rfl rfl fun a hf => ?_
  refine wl0 rfl (op_q hf (rq_loadB hf H TF.ls3 0 rfl rfl rfl) rfl (by decide) fun a hf => ?_)
  refine pRun_ok (tb := tab) (n := 14) tabOk 1 _ _ hf rfl rfl fun a hf => ?_
  refine wl0 rfl (op_q hf (rq_loadB hf H TF.ls3 0 rfl rfl rfl) rfl (by decide) fun a hf => ?_)
  refine pRun_ok (tb := tab) (n := 14) tabOk 2 _ _ hf rfl rfl fun a hf => ?_
  obtain ⟨q, hq, hF⟩ := bind_some hF
  refine wl0 rfl (op_q hf (rq_quo hf rfl rfl hq) rfl (by decide) fun a hf => ?_)
  refine pRun_ok (tb := tab) (n := 14) tabOk 1 _ _ hf rfl rfl fun a hf => ?_
  refine wl0 rfl (op_q hf (rq_loadB hf H TF.ls3 0 rfl rfl rfl) rfl (by decide) fun a hf => ?_)
  refine pRun_ok (tb := tab) (n := 14) tabOk 3 _ _ hf rfl rfl fun a hf => ?_
  have hf := hf.prune [2] rfl
  refine wl_end ?_
  refine then_n ?_
  refine wp_ret (?_)
  obtain rfl := Option.some.inj hF
  refine ret_1 (fn := Try.f100) (r := .tmp 2) hf rfl (rv_tmp hf rfl) ?_
  exact ⟨_, rfl, H.below, mk_int⟩

/- loop.example/g00897/spec.SpanLoss -/
set_option maxHeartbeats 1000000 in
theorem spec_SpanLoss_ok {fu : Nat} {w0 : World} {S : Nat → Prop} {v0_ : Value} {s' : Span} {r : Int × Bool} (h0 : VR w0 S v0_ s') (hF : spec_SpanLoss fu s' = some r) :
    Calls Try.prog 26 [v0_].toArray w0 fun e w' => ∃ v, e = .returned v ∧ (Below w0.heap.size w0 w' ∧ ∃ u0 u1, v = .tuple #[u0, u1] ∧ VR w' (St w0 S [] [] true) u0 r.1 ∧ VR w' (St w0 S [] [] true) u1 r.2) := by
  obtain rfl := Span_open h0
  have H := Mem.start w0 S
  refine enter Try.func26 rfl rfl (nle rfl) rfl fun a hf => ?_
  rw [spec_SpanLoss] at hF
  refine sq ?_
  refine reg ?_
  refine wl0 rfl (op_box hf H rfl rfl (by decide) fun b' a w hf H => ?_)
  refine pRun_ok (tb := tab) (n := 9) tabOk 2 _ _ hf rfl rfl fun a hf => ?_
  refine wl_end ?_
  refine then_n ?_
  refine sq ?_
  refine sq ?_
  refine reg ?_
  refine wl0 rfl (op_q hf (rq_loadBN hf H TF.la28 0 rfl rfl rfl rfl) rfl (by decide) fun a hf => ?_)
  obtain ⟨y, hy, hF⟩ := bind_some hF
  refine wl0 rfl (op_call hf TF.cl99 rfl (by decide) (spec_l22Span_ok (S := fun _ => True) Span_mkv hy) fun v w a hp hf => ?_)
  obtain ⟨hb, hp⟩ := hp
  obtain rfl := VR_bool hp
  have H := H.keep hb
  refine pRun_ok (tb := tab) (n := 9) tabOk 1 _ _ hf rfl rfl fun a hf => ?_
  refine wl_end ?_
  refine then_n ?_
  refine (Bool.eq_false_or_eq_true (!y)).elim (fun hc => ?_) (fun hc => ?_)
  · rw [if_pos hc] at hF
    refine cd_t hf rfl hc ?_
    refine sq ?_
    refine reg ?_
    refine pRun_ok (tb := tab) (n := 9) tabOk 2 _ _ hf rfl rfl fun a hf => ?_
    refine wl_end ?_
    refine then_n ?_
    refine wp_ret (then_r (?_))
    obtain rfl := Option.some.inj hF
    refine ret_2 (fn := Try.f26) (r := .tmp 2) (s := .tmp 3) hf rfl (rv_tmp hf rfl) (rv_tmp hf rfl) ?_
    exact ⟨_, rfl, H.below, _, _, rfl, mk_int, mk_bool⟩
  · rw [if_neg (nt hc)] at hF
    refine cd_f hf rfl hc ?_
    refine wp_skip ?_
    refine then_n ?_
    refine sq ?_
    refine reg ?_
    refine wl0 rfl (op_q hf (rq_loadBN hf H TF.la28 0 rfl rfl rfl rfl) rfl (by decide) fun a hf => ?_)
    obtain ⟨y2, hy2, hF⟩ := bind_some hF
    refine wl0 rfl (op_call hf TF.cl100 rfl (by decide) (spec_l22Loss_ok (S := fun _ => True) Span_mkv hy2) fun v2 w a hp2 hf => ?_)
    obtain ⟨hb2, hp2⟩ := hp2
    obtain rfl := VR_int hp2
    have H := H.keep hb2
    refine pRun_ok (tb := tab) (n := 9) tabOk 2 _ _ hf rfl rfl fun a hf => ?_
    refine wl_end ?_
    refine then_n ?_
    refine wp_ret (?_)
    obtain rfl := Option.some.inj hF
    refine ret_2 (fn := Try.f26) (r := .tmp 2) (s := .tmp 3) hf rfl (rv_tmp hf rfl) (rv_tmp hf rfl) ?_
    exact ⟨_, rfl, H.below, _, _, rfl, mk_int, mk_bool⟩

/- loop.example/g00897/impl.isSpan -/
set_option maxHeartbeats 1000000 in
theorem impl_isSpan_ok {fu : Nat} {w0 : World} {S : Nat → Prop} {v0_ : Value} {s' : Span} {r : Bool} (h0 : VR w0 S v0_ s') (hF : impl_isSpan fu s' = some r) :
    Calls Try.prog 101 [v0_].toArray w0 fun e w' => ∃ v, e = .returned v ∧ (Below w0.heap.size w0 w' ∧ VR w' (St w0 S [] [] true) v r) := by
  obtain rfl := Span_open h0
  have H := Mem.start w0 S
  refine enter Try.func101 rfl rfl (nle rfl) rfl fun a hf => ?_
  rw [impl_isSpan] at hF
  refine sq ?_
  refine reg ?_
  refine wl0 rfl (op_box hf H rfl rfl (by decide) fun b' a w hf H => ?_)
  refine pRun_ok (tb := tab) (n := 16) tabOk 1 _ _ hf rfl rfl fun a hf => ?_
  refine wl_end ?_
  refine then_n ?_
  refine sq ?_
  obtain ⟨c, hGc, hF⟩ := bind_some hF
  refine mid (fun a w => Fr a 16 [(2, (.bool c))] ∧ Mem w0 S [] [] [] w) ?_ ?_
  · refine reg ?_
    refine pRun_ok (tb := tab) (n := 16) tabOk 1 _ _ hf rfl rfl fun a hf => ?_
    refine wl0 rfl (op_q hf (rq_loadB hf H TF.ls3 0 rfl rfl rfl) rfl (by decide) fun a hf => ?_)
    obtain ⟨y, hy, hGc⟩ := bind_some hGc
    refine wl0 rfl (op_call hf TF.cl98 rfl (by decide) (impl_within_ok (S := fun _ => True) mk_int mk_int mk_int hy) fun v w a hp hf => ?_)
    obtain ⟨hb, hp⟩ := hp
    obtain rfl := VR_bool hp
    have H := H.keep hb
    refine pRun_ok (tb := tab) (n := 16) tabOk 1 _ _ hf rfl rfl fun a hf => ?_
    refine (Bool.eq_false_or_eq_true (y)).elim (fun hc => ?_) (fun hc => ?_)
    · rw [if_pos hc] at hGc
      have hf := hf.lit 6 rfl hc
      refine pRun_ok (tb := tab) (n := 16) tabOk 1 _ _ hf rfl rfl fun a hf => ?_
      refine wlg hf rfl rfl rfl (op_q hf (rq_loadB hf H TF.ls3 0 rfl rfl rfl) rfl (by decide) fun a hf => ?_)
      obtain ⟨y2, hy2, hGc⟩ := bind_some hGc
      refine wlg hf rfl rfl rfl (op_call hf TF.cl98 rfl (by decide) (impl_within_ok (S := fun _ => True) mk_int mk_int mk_int hy2) fun v2 w a hp2 hf => ?_)
      obtain ⟨hb2, hp2⟩ := hp2
      obtain rfl := VR_bool hp2
      have H := H.keep hb2
      refine pRun_ok (tb := tab) (n := 16) tabOk 2 _ _ hf rfl rfl fun a hf => ?_
      refine (Bool.eq_false_or_eq_true (y2)).elim (fun hc2 => ?_) (fun hc2 => ?_)
      · rw [if_pos hc2] at hGc
        have hf := hf.lit 11 rfl hc2
        refine pRun_ok (tb := tab) (n := 16) tabOk 1 _ _ hf rfl rfl fun a hf => ?_
        refine wlg hf rfl rfl rfl (op_q hf (rq_loadB hf H TF.ls3 0 rfl rfl rfl) rfl (by decide) fun a hf => ?_)
        obtain ⟨y3, hy3, hGc⟩ := bind_some hGc
        refine wlg hf rfl rfl rfl (op_call hf TF.cl98 rfl (by decide) (impl_within_ok (S := fun _ => True) mk_int mk_int mk_int hy3) fun v3 w a hp3 hf => ?_)
        obtain ⟨hb3, hp3⟩ := hp3
        obtain rfl := VR_bool hp3
        have H := H.keep hb3
        refine pRun_ok (tb := tab) (n := 16) tabOk 2 _ _ hf rfl rfl fun a hf => ?_
        obtain rfl := Option.some.inj hGc
        have hf := hf.prune [2] rfl
        have H := H.let [false] [] []
        exact wl_end ⟨hf, H⟩
      · rw [if_neg (nt hc2)] at hGc
        have hf := hf.lit 11 rfl hc2
        refine pRun_ok (tb := tab) (n := 16) tabOk 5 _ _ hf rfl rfl fun a hf => ?_
        obtain rfl := Option.some.inj hGc
        have hf := hf.prune [2] rfl
        have H := H.let [false] [] []
        exact wl_end ⟨hf, H⟩
    · rw [if_neg (nt hc)] at hGc
      have hf := hf.lit 6 rfl hc
      refine pRun_ok (tb := tab) (n := 16) tabOk 10 _ _ hf rfl rfl fun a hf => ?_
      obtain rfl := Option.some.inj hGc
      have hf := hf.prune [2] rfl
      have H := H.let [false] [] []
      exact wl_end ⟨hf, H⟩
  rintro a w ⟨hf, H⟩
  refine then_n ?_
  refine wp_ret (?_)
  obtain rfl := Option.some.inj hF
  refine ret_1 (fn := Try.f101) (r := .tmp 2) hf rfl (rv_tmp hf rfl) ?_
  exact ⟨_, rfl, H.below, mk_bool⟩

/- loop.example/g00897/impl.lossOf -/
set_option maxHeartbeats 1000000 in
theorem impl_lossOf_ok {fu : Nat} {w0 : World} {S : Nat → Prop} {v0_ : Value} {s' : Span} {r : Int} (h0 : VR w0 S v0_ s') (hF : impl_lossOf fu s' = some r) :
    Calls Try.prog 102 [v0_].toArray w0 fun e w' => ∃ v, e = .returned v ∧ (Below w0.heap.size w0 w' ∧ VR w' (St w0 S [] [] true) v r) := by
  obtain rfl := Span_open h0
  have H := Mem.start w0 S
  refine enter Try.func102 rfl rfl (nle rfl) rfl fun a hf => ?_
  rw [impl_lossOf] at hF
  refine sq ?_
  refine reg ?_
  refine wl0 rfl (op_box hf H rfl rfl (by decide) fun b' a w hf H => ?_)
  refine pRun_ok (tb := tab) (n := 14) tabOk 1 _ _ hf rfl rfl fun a hf => ?_
  refine wl_end ?_
  refine then_n ?_
  refine sq ?_
  refine reg ?_
  refine pRun_ok (tb := tab) (n := 14) tabOk 1 _ _ hf rfl rfl fun a hf => ?_
  refine wl0 rfl (op_q hf (rq_loadB hf H TF.ls3 0 rfl rfl rfl) rfl (by decide) fun a hf => ?_)
  refine pRun_ok (tb := tab) (n := 14) tabOk 1 _ _ hf rfl rfl fun a hf => ?_
  refine wl0 rfl (op_q hf (rq_loadB hf H TF.ls3 0 rfl rfl rfl) rfl (by decide) fun a hf => ?_)
  refine pRun_ok (tb := tab) (n := 14) tabOk 2 _ _ hf rfl rfl fun a hf => ?_
  obtain ⟨q, hq, hF⟩ := bind_some hF
  refine wl0 rfl (op_q hf (rq_quo hf rfl rfl hq) rfl (by decide) fun a hf => ?_)
  refine pRun_ok (tb := tab) (n := 14) tabOk 1 _ _ hf rfl rfl fun a hf => ?_
  refine wl0 rfl (op_q hf (rq_loadB hf H TF.ls3 0 rfl rfl rfl) rfl (by decide) fun a hf => ?_)
  refine pRun_ok (tb := tab) (n := 14) tabOk 3 _ _ hf rfl rfl fun a hf => ?_
  have hf := hf.prune [2] rfl
  refine wl_end ?_
  refine then_n ?_
  refine wp_ret (?_)
  obtain rfl := Option.some.inj hF
  refine ret_1 (fn := Try.f102) (r := .tmp 2) hf rfl (rv_tmp hf rfl) ?_
  exact ⟨_, rfl, H.below, mk_int⟩

/- loop.example/g00897/impl.SpanLoss -/
set_option maxHeartbeats 1000000 in
theorem impl_SpanLoss_ok {fu : Nat} {w0 : World} {S : Nat → Prop} {v0_ : Value} {s' : Span} {r : Int × Bool} (h0 : VR w0 S v0_ s') (hF : impl_SpanLoss fu s' = some r) :
    Calls Try.prog 28 [v0_].toArray w0 fun e w' => ∃ v, e = .returned v ∧ (Below w0.heap.size w0 w' ∧ ∃ u0 u1, v = .tuple #[u0, u1] ∧ VR w' (St w0 S [] [] true) u0 r.1 ∧ VR w' (St w0 S [] [] true) u1 r.2) := by
  obtain rfl := Span_open h0
  have H := Mem.start w0 S
  refine enter Try.func28 rfl rfl (nle rfl) rfl fun a hf => ?_
  rw [impl_SpanLoss] at hF
  refine sq ?_
  refine reg ?_
  refine wl0 rfl (op_box hf H rfl rfl (by decide) fun b' a w hf H => ?_)
  refine pRun_ok (tb := tab) (n := 9) tabOk 2 _ _ hf rfl rfl fun a hf => ?_
  refine wl_end ?_
  refine then_n ?_
  refine sq ?_
  refine sq ?_
  refine reg ?_
  refine wl0 rfl (op_q hf (rq_loadBN hf H TF.la28 0 rfl rfl rfl rfl) rfl (by decide) fun a hf => ?_)
  obtain ⟨y, hy, hF⟩ := bind_some hF
  refine wl0 rfl (op_call hf TF.cl101 rfl (by decide) (impl_isSpan_ok (S := fun _ => True) Span_mkv hy) fun v w a hp hf => ?_)
  obtain ⟨hb, hp⟩ := hp
  obtain rfl := VR_bool hp
  have H := H.keep hb
  refine pRun_ok (tb := tab) (n := 9) tabOk 1 _ _ hf rfl rfl fun a hf => ?_
  refine wl_end ?_
  refine then_n ?_
  refine (Bool.eq_false_or_eq_true (!y)).elim (fun hc => ?_) (fun hc => ?_)
  · rw [if_pos hc] at hF
    refine cd_t hf rfl hc ?_
    refine sq ?_
    refine reg ?_
    refine pRun_ok (tb := tab) (n := 9) tabOk 2 _ _ hf rfl rfl fun a hf => ?_
    refine wl_end ?_
    refine then_n ?_
    refine wp_ret (then_r (?_))
    obtain rfl := Option.some.inj hF
    refine ret_2 (fn := Try.f28) (r := .tmp 2) (s := .tmp 3) hf rfl (rv_tmp hf rfl) (rv_tmp hf rfl) ?_
    exact ⟨_, rfl, H.below, _, _, rfl, mk_int, mk_bool⟩
  · rw [if_neg (nt hc)] at hF
    refine cd_f hf rfl hc ?_
    refine wp_skip ?_
    refine then_n ?_
    refine sq ?_
    refine reg ?_
    refine wl0 rfl (op_q hf (rq_loadBN hf H TF.la28 0 rfl rfl rfl rfl) rfl (by decide) fun a hf => ?_)
    obtain ⟨y2, hy2, hF⟩ := bind_some hF
    refine wl0 rfl (op_call hf TF.cl102 rfl (by decide) (impl_lossOf_ok (S := fun _ => True) Span_mkv hy2) fun v2 w a hp2 hf => ?_)
    obtain ⟨hb2, hp2⟩ := hp2
    obtain rfl := VR_int hp2
    have H := H.keep hb2
    refine pRun_ok (tb := tab) (n := 9) tabOk 2 _ _ hf rfl rfl fun a hf => ?_
    refine wl_end ?_
    refine then_n ?_
    refine wp_ret (?_)
    obtain rfl := Option.some.inj hF
    refine ret_2 (fn := Try.f28) (r := .tmp 2) (s := .tmp 3) hf rfl (rv_tmp hf rfl) (rv_tmp hf rfl) ?_
    exact ⟨_, rfl, H.below, _, _, rfl, mk_int, mk_bool⟩

/- loop.example/g00897/laws.FnExactSpanLoss -/
set_option maxHeartbeats 1000000 in
theorem laws_FnExactSpanLoss_ok {fu : Nat} {w0 : World} {S : Nat → Prop} {v0_ : Value} {aS : Span} {r : Bool} (h0 : VR w0 S v0_ aS) (hF : laws_FnExactSpanLoss fu aS = some r) :
    Calls Try.prog 4 [v0_].toArray w0 fun e w' => ∃ v, e = .returned v ∧ (Below w0.heap.size w0 w' ∧ VR w' (St w0 S [] [] true) v r) := by
  obtain rfl := Span_open h0
  have H := Mem.start w0 S
  refine enter Try.func4 rfl rfl (nle rfl) rfl fun a hf => ?_
  rw [laws_FnExactSpanLoss] at hF
  refine sq ?_
  refine reg ?_
  refine wl0 rfl (op_box hf H rfl rfl (by decide) fun b' a w hf H => ?_)
  refine pRun_ok (tb := tab) (n := 27) tabOk 1 _ _ hf rfl rfl fun a hf => ?_
  refine wl_end ?_
  refine then_n ?_
  refine sq ?_
  refine reg ?_
  refine wl0 rfl (op_q hf (rq_loadBN hf H TF.la26 0 rfl rfl rfl rfl) rfl (by decide) fun a hf => ?_)
  obtain ⟨y, hy, hF⟩ := bind_some hF
  refine wl0 rfl (op_call hf TF.cl27 rfl (by decide) (laws_toSpan_ok (S := fun _ => True) Span_mkv hy) fun v w a hp hf => ?_)
  obtain ⟨hb, hp⟩ := hp
  obtain rfl := Span_open hp
  have H := H.keep hb
  obtain ⟨y2, hy2, hF⟩ := bind_some hF
  refine wl0 rfl (op_call hf TF.cl26 rfl (by decide) (spec_SpanLoss_ok (S := fun _ => True) Span_mkv hy2) fun v2 w a hp2 hf => ?_)
  obtain ⟨hb2, v3, v4, rfl, hp3, hp4⟩ := hp2
  obtain rfl := VR_int hp3
  obtain rfl := VR_bool hp4
  have H := H.keep hb2
  refine pRun_ok (tb := tab) (n := 27) tabOk 5 _ _ hf rfl rfl fun a hf => ?_
  refine wl_end ?_
  refine then_n ?_
  refine sq ?_
  refine reg ?_
  refine wl0 rfl (op_q hf (rq_loadBN hf H TF.la26 0 rfl rfl rfl rfl) rfl (by decide) fun a hf => ?_)
  obtain ⟨y3, hy3, hF⟩ := bind_some hF
  refine wl0 rfl (op_call hf TF.cl27 rfl (by decide) (laws_toSpan_ok (S := fun _ => True) Span_mkv hy3) fun v5 w a hp5 hf => ?_)
  obtain ⟨hb3, hp5⟩ := hp5
  obtain rfl := Span_open hp5
  have H := H.keep hb3
  obtain ⟨y4, hy4, hF⟩ := bind_some hF
  refine wl0 rfl (op_call hf TF.cl28 rfl (by decide) (impl_SpanLoss_ok (S := fun _ => True) Span_mkv hy4) fun v6 w a hp6 hf => ?_)
  obtain ⟨hb4, v7, v8, rfl, hp7, hp8⟩ := hp6
  obtain rfl := VR_int hp7
  obtain rfl := VR_bool hp8
  have H := H.keep hb4
  refine pRun_ok (tb := tab) (n := 27) tabOk 5 _ _ hf rfl rfl fun a hf => ?_
  have hf := hf.prune [3, 4, 5, 6] rfl
  refine wl_end ?_
  refine then_n ?_
  refine sq ?_
  refine sq ?_
  obtain ⟨c, hGc, hF⟩ := bind_some hF
  refine mid (fun a w => Fr a 27 [(26, (.bool c))] ∧ Mem w0 S [] [] [] w) ?_ ?_
  · refine reg ?_
    refine pRun_ok (tb := tab) (n := 27) tabOk 4 _ _ hf rfl rfl fun a hf => ?_
    refine (Bool.eq_false_or_eq_true (y4.1 != y2.1)).elim (fun hc => ?_) (fun hc => ?_)
    · rw [if_pos hc] at hGc
      have hf := hf.lit 22 rfl hc
      refine pRun_ok (tb := tab) (n := 27) tabOk 4 _ _ hf rfl rfl fun a hf => ?_
      obtain rfl := Option.some.inj hGc
      have hf := hf.prune [26] rfl
      have H := H.let [false] [] []
      exact wl_end ⟨hf, H⟩
    · rw [if_neg (nt hc)] at hGc
      have hf := hf.lit 22 rfl hc
      refine pRun_ok (tb := tab) (n := 27) tabOk 4 _ _ hf rfl rfl fun a hf => ?_
      obtain rfl := Option.some.inj hGc
      have hf := hf.prune [26] rfl
      have H := H.let [false] [] []
      exact wl_end ⟨hf, H⟩
  rintro a w ⟨hf, H⟩
  refine then_n ?_
  refine (Bool.eq_false_or_eq_true (c)).elim (fun hc2 => ?_) (fun hc2 => ?_)
  · rw [if_pos hc2] at hF
    refine cd_t hf rfl hc2 ?_
    refine sq ?_
    refine reg ?_
    refine pRun_ok (tb := tab) (n := 27) tabOk 1 _ _ hf rfl rfl fun a hf => ?_
    refine wl_end ?_
    refine then_n ?_
    refine wp_ret (then_r (?_))
    obtain rfl := Option.some.inj hF
    refine ret_1 (fn := Try.f4) (r := .tmp 2) hf rfl (rv_tmp hf rfl) ?_
    exact ⟨_, rfl, H.below, mk_bool⟩
  · rw [if_neg (nt hc2)] at hF
    refine cd_f hf rfl hc2 ?_
    refine wp_skip ?_
    refine then_n ?_
    refine sq ?_
    refine reg ?_
    refine pRun_ok (tb := tab) (n := 27) tabOk 1 _ _ hf rfl rfl fun a hf => ?_
    refine wl_end ?_
    refine then_n ?_
    refine wp_ret (?_)
    obtain rfl := Option.some.inj hF
    refine ret_1 (fn := Try.f4) (r := .tmp 2) hf rfl (rv_tmp hf rfl) ?_
    exact ⟨_, rfl, H.below, mk_bool⟩

/- loop.example/g00897/spec.l22Table -/
set_option maxHeartbeats 1000000 in
theorem spec_l22Table_ok {fu : Nat} {w0 : World} {S : Nat → Prop} {r : List Int} (hF : spec_l22Table fu = some r) :
    Calls Try.prog 152 [].toArray w0 fun e w' => ∃ v, e = .returned v ∧ (Below w0.heap.size w0 w' ∧ VR w' (St w0 S [] [] true) v r) := by
  have H := Mem.start w0 S
  refine enter Try.func152 rfl rfl (nle rfl) rfl fun a hf => ?_
  rw [spec_l22Table] at hF
  refine sq ?_
  refine reg ?_
  refine pRun_ok (tb := tab) (n := 2) tabOk 1 _ _ hf rfl rfl fun a hf => ?_
  refine wl_end ?_
  refine then_n ?_
  refine sq ?_
  refine reg ?_
  refine wl0 rfl (op_bslice hf H true 3 ([1000, 1259, 1585, 1995, 2512, 3162, 3981, 5012, 6310, 7943] : List Int) [(.int .i64 1000), (.int .i64 1259), (.int .i64 1585), (.int .i64 1995), (.int .i64 2512), (.int .i64 3162), (.int .i64 3981), (.int .i64 5012), (.int .i64 6310), (.int .i64 7943)] rfl (fun w => by kernel_rfl) rfl (by decide) rfl (elI [1000, 1259, 1585, 1995, 2512, 3162, 3981, 5012, 6310, 7943]) (by decide) fun A a w hf H => ?_)
  refine pRun_ok (tb := tab) (n := 2) tabOk 1 _ _ hf rfl rfl fun a hf => ?_
  refine wl_end ?_
  refine then_n ?_
  refine wp_ret (?_)
  have H := H.freeze 0 rfl
  obtain rfl := Option.some.inj hF
  refine ret_1 (fn := Try.f152) (r := .tmp 0) hf rfl (rv_tmp hf rfl) ?_
  exact ⟨_, rfl, H.below, (mk_list (rep_end (α := List Int) (H.get 0 rfl)))⟩

/- loop.example/g00897/spec.l22Linear -/
set_option maxHeartbeats 1000000 in
theorem spec_l22Linear_ok {fu : Nat} {w0 : World} {S : Nat → Prop} {v0_ : Value} {level : Int} {r : Int} (h0 : VR w0 S v0_ level) (hF : spec_l22Linear fu level = some r) :
    Calls Try.prog 103 [v0_].toArray w0 fun e w' => ∃ v, e = .returned v ∧ (Below w0.heap.size w0 w' ∧ VR w' (St w0 S [] [] true) v r) := by
  obtain rfl := VR_int h0
  have H := Mem.start w0 S
  refine enter Try.func103 rfl rfl (nle rfl) rfl fun a hf => ?_
  rw [spec_l22Linear] at hF
  refine sq ?_
  refine reg ?_
  refine pRun_ok (tb := tab) (n := 28) tabOk 1 _ _ hf rfl rfl fun a hf => ?_
  refine wl_end ?_
  refine then_n ?_
  refine sq ?_
  refine sq ?_
  obtain ⟨c, hGc, hF⟩ := bind_some hF
  refine mid (fun a w => Fr a 28 [(0, (.int .i64 level)), (12, (.bool c))] ∧ Mem w0 S [] [] [] w) ?_ ?_
  · refine reg ?_
    refine pRun_ok (tb := tab) (n := 28) tabOk 1 _ _ hf rfl rfl fun a hf => ?_
    obtain ⟨y, hy, hGc⟩ := bind_some hGc
    refine wl0 rfl (op_call hf TF.cl97 rfl (by decide) (spec_l1In_ok (S := fun _ => True) mk_int mk_int mk_int hy) fun v w a hp hf => ?_)
    obtain ⟨hb, hp⟩ := hp
    obtain rfl := VR_bool hp
    have H := H.keep hb
    refine pRun_ok (tb := tab) (n := 28) tabOk 2 _ _ hf rfl rfl fun a hf => ?_
    refine (Bool.eq_false_or_eq_true (!y)).elim (fun hc => ?_) (fun hc => ?_)
    · rw [if_pos hc] at hGc
      have hf := hf.lit 8 rfl hc
      refine pRun_ok (tb := tab) (n := 28) tabOk 4 _ _ hf rfl rfl fun a hf => ?_
      obtain rfl := Option.some.inj hGc
      have hf := hf.prune [0, 12] rfl
      have H := H.let [] [] []
      exact wl_end ⟨hf, H⟩
    · rw [if_neg (nt hc)] at hGc
      have hf := hf.lit 8 rfl hc
      refine pRun_ok (tb := tab) (n := 28) tabOk 1 _ _ hf rfl rfl fun a hf => ?_
      obtain ⟨q, hq, hGc⟩ := bind_some hGc
      refine wlg hf rfl rfl rfl (op_q hf (rq_rem hf rfl rfl hq) rfl (by decide) fun a hf => ?_)
      refine pRun_ok (tb := tab) (n := 28) tabOk 2 _ _ hf rfl rfl fun a hf => ?_
      obtain rfl := Option.some.inj hGc
      have hf := hf.prune [0, 12] rfl
      have H := H.let [] [] []
      exact wl_end ⟨hf, H⟩
  rintro a w ⟨hf, H⟩
  refine then_n ?_
  refine (Bool.eq_false_or_eq_true (c)).elim (fun hc2 => ?_) (fun hc2 => ?_)
  · rw [if_pos hc2] at hF
    refine cd_t hf rfl hc2 ?_
    refine sq ?_
    refine reg ?_
    refine pRun_ok (tb := tab) (n := 28) tabOk 1 _ _ hf rfl rfl fun a hf => ?_
    refine wl_end ?_
    refine then_n ?_
    refine wp_ret (then_r (?_))
    obtain rfl := Option.some.inj hF
    refine ret_1 (fn := Try.f103) (r := .tmp 2) hf rfl (rv_tmp hf rfl) ?_
    exact ⟨_, rfl, H.below, mk_int⟩
  · rw [if_neg (nt hc2)] at hF
    refine cd_f hf rfl hc2 ?_
    refine wp_skip ?_
    refine then_n ?_
    refine sq ?_
    refine reg ?_
    obtain ⟨y2, hy2, hF⟩ := bind_some hF
    refine wl0 rfl (op_call hf TF.cl152 rfl (by decide) (spec_l22Table_ok (S := fun _ => True) hy2) fun v2 w a hp2 hf => ?_)
    obtain ⟨hb2, hp2⟩ := hp2
    obtain ⟨A, c2, rfl, hl⟩ := VR_list hp2
    replace hl := H.resF (f := MP.val [(.slice A y2.length c2)] y2) hl
    have H := H.keep hb2
    have H := H.push (true, MP.val [(.slice A y2.length c2)] y2) hl
    refine pRun_ok (tb := tab) (n := 28) tabOk 1 _ _ hf rfl rfl fun a hf => ?_
    obtain ⟨q2, hq2, hF⟩ := bind_some hF
    refine wl0 rfl (op_q hf (rq_quo hf rfl rfl hq2) rfl (by decide) fun a hf => ?_)
    obtain ⟨q3, hq3, hF⟩ := bind_some hF
    refine wl0 rfl (op_q hf (rq_rem hf rfl rfl hq3) rfl (by decide) fun a hf => ?_)
    obtain ⟨e, he, hF⟩ := bind_some hF
    refine wl0 rfl (op_iaddr hf H Try.underlying35 TF.sz3 0 rfl rfl rfl he (by decide) fun p o cs a hf hr H => ?_)
    obtain rfl := hr
    refine wl0 rfl (op_q hf (rq_loadI hf H TF.ls3 0 0 rfl rfl rfl) rfl (by decide) fun a hf => ?_)
    refine pRun_ok (tb := tab) (n := 28) tabOk 1 _ _ hf rfl rfl fun a hf => ?_
    refine wl_end ?_
    refine then_n ?_
    refine sq ?_
    refine sq ?_
    refine reg ?_
    refine pRun_ok (tb := tab) (n := 28) tabOk 1 _ _ hf rfl rfl fun a hf => ?_
    obtain ⟨q4, hq4, hF⟩ := bind_some hF
    refine wl0 rfl (op_q hf (rq_quo hf rfl rfl hq4) rfl (by decide) fun a hf => ?_)
    refine pRun_ok (tb := tab) (n := 28) tabOk 1 _ _ hf rfl rfl fun a hf => ?_
    refine wl_end ?_
    refine then_n ?_
    obtain ⟨out2, hB1, hF⟩ := bind_some hF
    have hf := hf.prune [3, 4] rfl
    have H := H.let [] [] []
    have hI : (fun (s : Int × Int) (a : Act) (w : World) => match s with | (out', k') => Fr a 28 [(3, (.int .i64 out')), (4, (.int .i64 k'))] ∧ Mem w0 S [] [] [] w) (e, q4) a w := ⟨hf, H⟩
    refine mid (fun a w => ∃ s : Int × Int, out2 = s ∧ (fun (s : Int × Int) (a : Act) (w : World) => match s with | (out', k') => Fr a 28 [(3, (.int .i64 out')), (4, (.int .i64 k'))] ∧ Mem w0 S [] [] [] w) s a w) ?_ ?_
    · refine wp_block ?_
      refine loop_rule (fun k (s : Int × Int) => spec_l22Linear_L1 fu k s.1 s.2 = some out2) (fun (s : Int × Int) (a : Act) (w : World) => match s with | (out', k') => Fr a 28 [(3, (.int .i64 out')), (4, (.int .i64 k'))] ∧ Mem w0 S [] [] [] w) (fun s h => by cases h) ?_ fu (e, q4) a w hB1 hI
      rintro fk ⟨out', k'⟩ a w hR1 hI
      replace hR1 : spec_l22Linear_L1 fu (fk + 1) out' k' = some out2 := hR1
      rw [spec_l22Linear_L1] at hR1
      obtain ⟨hf, H⟩ := hI
      refine sq ?_
      refine sq ?_
      refine reg ?_
      refine pRun_ok (tb := tab) (n := 28) tabOk 2 _ _ hf rfl rfl fun a hf => ?_
      refine wl_end ?_
      refine then_n ?_
      refine (Bool.eq_false_or_eq_true (decide (k' > 0))).elim (fun hc3 => ?_) (fun hc3 => ?_)
      · rw [if_pos hc3] at hR1
        refine cd_t hf rfl hc3 ?_
        refine wp_skip ?_
        refine then_n ?_
        refine sq ?_
        refine wp_block ?_
        refine reg ?_
        refine pRun_ok (tb := tab) (n := 28) tabOk 3 _ _ hf rfl rfl fun a hf => ?_
        refine wl_end ?_
        refine blk_n ?_
        refine then_n ?_
        refine reg ?_
        refine pRun_ok (tb := tab) (n := 28) tabOk 3 _ _ hf rfl rfl fun a hf => ?_
        refine wl_end ?_
        have hf := hf.prune [3, 4] rfl
        have H := H.let [] [] []
        exact then_n ⟨(w64 (out' * 10), w64 (k' - 1)), hR1, hf, H⟩
      · rw [if_neg (nt hc3)] at hR1
        refine cd_f hf rfl hc3 ?_
        refine wp_exit (then_x (then_x (blk_e (?_))))
        have hf := hf.prune [3, 4] rfl
        have H := H.let [] [] []
        exact ⟨(out', k'), (Option.some.inj hR1).symm, hf, H⟩
    rintro a w ⟨⟨out3, k2⟩, rfl, hf, H⟩
    dsimp only at hF
    refine then_n ?_
    refine sq ?_
    refine reg ?_
    refine pRun_ok (tb := tab) (n := 28) tabOk 2 _ _ hf rfl rfl fun a hf => ?_
    refine wl_end ?_
    refine then_n ?_
    refine wp_ret (?_)
    obtain rfl := Option.some.inj hF
    refine ret_1 (fn := Try.f103) (r := .tmp 2) hf rfl (rv_tmp hf rfl) ?_
    exact ⟨_, rfl, H.below, mk_int⟩

/- loop.example/g00897/spec.LinearValue -/
set_option maxHeartbeats 1000000 in
theorem spec_LinearValue_ok {fu : Nat} {w0 : World} {S : Nat → Prop} {v0_ : Value} {level : Int} {r : Int × Bool} (h0 : VR w0 S v0_ level) (hF : spec_LinearValue fu level = some r) :
    Calls Try.prog 29 [v0_].toArray w0 fun e w' => ∃ v, e = .returned v ∧ (Below w0.heap.size w0 w' ∧ ∃ u0 u1, v = .tuple #[u0, u1] ∧ VR w' (St w0 S [] [] true) u0 r.1 ∧ VR w' (St w0 S [] [] true) u1 r.2) := by
  obtain rfl := VR_int h0
  have H := Mem.start w0 S
  refine enter Try.func29 rfl rfl (nle rfl) rfl fun a hf => ?_
  rw [spec_LinearValue] at hF
  refine sq ?_
  refine reg ?_
  refine pRun_ok (tb := tab) (n := 10) tabOk 2 _ _ hf rfl rfl fun a hf => ?_
  refine wl_end ?_
  refine then_n ?_
  refine sq ?_
  refine reg ?_
  refine pRun_ok (tb := tab) (n := 10) tabOk 1 _ _ hf rfl rfl fun a hf => ?_
  obtain ⟨y, hy, hF⟩ := bind_some hF
  refine wl0 rfl (op_call hf TF.cl103 rfl (by decide) (spec_l22Linear_ok (S := fun _ => True) mk_int hy) fun v w a hp hf => ?_)
  obtain ⟨hb, hp⟩ := hp
  obtain rfl := VR_int hp
  have H := H.keep hb
  refine pRun_ok (tb := tab) (n := 10) tabOk 1 _ _ hf rfl rfl fun a hf => ?_
  refine wl_end ?_
  refine then_n ?_
  refine sq ?_
  refine reg ?_
  refine pRun_ok (tb := tab) (n := 10) tabOk 5 _ _ hf rfl rfl fun a hf => ?_
  refine wl_end ?_
  refine then_n ?_
  refine wp_ret (?_)
  obtain rfl := Option.some.inj hF
  refine ret_2 (fn := Try.f29) (r := .tmp 2) (s := .tmp 3) hf rfl (rv_tmp hf rfl) (rv_tmp hf rfl) ?_
  exact ⟨_, rfl, H.below, _, _, rfl, mk_int, mk_bool⟩

/- loop.example/g00897/impl.hasLinear -/
set_option maxHeartbeats 1000000 in
theorem impl_hasLinear_ok {fu : Nat} {w0 : World} {S : Nat → Prop} {v0_ : Value} {level : Int} {r : Bool} (h0 : VR w0 S v0_ level) (hF : impl_hasLinear fu level = some r) :
    Calls Try.prog 104 [v0_].toArray w0 fun e w' => ∃ v, e = .returned v ∧ (Below w0.heap.size w0 w' ∧ VR w' (St w0 S [] [] true) v r) := by
  obtain rfl := VR_int h0
  have H := Mem.start w0 S
  refine enter Try.func104 rfl rfl (nle rfl) rfl fun a hf => ?_
  rw [impl_hasLinear] at hF
  refine sq ?_
  refine reg ?_
  refine pRun_ok (tb := tab) (n := 10) tabOk 1 _ _ hf rfl rfl fun a hf => ?_
  refine wl_end ?_
  refine then_n ?_
  refine sq ?_
  obtain ⟨c, hGc, hF⟩ := bind_some hF
  refine mid (fun a w => Fr a 10 [(2, (.bool c))] ∧ Mem w0 S [] [] [] w) ?_ ?_
  · refine reg ?_
    refine pRun_ok (tb := tab) (n := 10) tabOk 1 _ _ hf rfl rfl fun a hf => ?_
    obtain ⟨y, hy, hGc⟩ := bind_some hGc
    refine wl0 rfl (op_call hf TF.cl98 rfl (by decide) (impl_within_ok (S := fun _ => True) mk_int mk_int mk_int hy) fun v w a hp hf => ?_)
    obtain ⟨hb, hp⟩ := hp
    obtain rfl := VR_bool hp
    have H := H.keep hb
    refine pRun_ok (tb := tab) (n := 10) tabOk 1 _ _ hf rfl rfl fun a hf => ?_
    refine (Bool.eq_false_or_eq_true (y)).elim (fun hc => ?_) (fun hc => ?_)
    · rw [if_pos hc] at hGc
      have hf := hf.lit 5 rfl hc
      refine pRun_ok (tb := tab) (n := 10) tabOk 1 _ _ hf rfl rfl fun a hf => ?_
      obtain ⟨q, hq, hGc⟩ := bind_some hGc
      refine wlg hf rfl rfl rfl (op_q hf (rq_rem hf rfl rfl hq) rfl (by decide) fun a hf => ?_)
      refine pRun_ok (tb := tab) (n := 10) tabOk 3 _ _ hf rfl rfl fun a hf => ?_
      obtain rfl := Option.some.inj hGc
      have hf := hf.prune [2] rfl
      have H := H.let [] [] []
      exact wl_end ⟨hf, H⟩
    · rw [if_neg (nt hc)] at hGc
      have hf := hf.lit 5 rfl hc
      refine pRun_ok (tb := tab) (n := 10) tabOk 5 _ _ hf rfl rfl fun a hf => ?_
      obtain rfl := Option.some.inj hGc
      have hf := hf.prune [2] rfl
      have H := H.let [] [] []
      exact wl_end ⟨hf, H⟩
  rintro a w ⟨hf, H⟩
  refine then_n ?_
  refine wp_ret (?_)
  obtain rfl := Option.some.inj hF
  refine ret_1 (fn := Try.f104) (r := .tmp 2) hf rfl (rv_tmp hf rfl) ?_
  exact ⟨_, rfl, H.below, mk_bool⟩

/- loop.example/g00897/impl.linear -/
set_option maxHeartbeats 1000000 in
theorem impl_linear_ok {fu : Nat} {w0 : World} {S : Nat → Prop} {v0_ : Value} {level : Int} {r : Int} (h0 : VR w0 S v0_ level) (hF : impl_linear fu level = some r) :
    Calls Try.prog 105 [v0_].toArray w0 fun e w' => ∃ v, e = .returned v ∧ (Below w0.heap.size w0 w' ∧ VR w' (St w0 S [] [] true) v r) := by
  obtain rfl := VR_int h0
  have H := Mem.start w0 S
  refine enter Try.func105 rfl rfl (nle rfl) rfl fun a hf => ?_
  rw [impl_linear] at hF
  refine sq ?_
  refine reg ?_
  refine pRun_ok (tb := tab) (n := 17) tabOk 1 _ _ hf rfl rfl fun a hf => ?_
  refine wl_end ?_
  refine then_n ?_
  refine sq ?_
  refine reg ?_
  refine wl0 rfl (op_q hf (rq_build hf (cs := [(.int .i64 1000), (.int .i64 1259), (.int .i64 1585), (.int .i64 1995), (.int .i64 2512), (.int .i64 3162), (.int .i64 3981), (.int .i64 5012), (.int .i64 6310), (.int .i64 7943)]) rfl (fun w => by kernel_rfl)) rfl (by decide) fun a hf => ?_)
  refine pRun_ok (tb := tab) (n := 17) tabOk 1 _ _ hf rfl rfl fun a hf => ?_
  obtain ⟨q, hq, hF⟩ := bind_some hF
  refine wl0 rfl (op_q hf (rq_quo hf rfl rfl hq) rfl (by decide) fun a hf => ?_)
  obtain ⟨q2, hq2, hF⟩ := bind_some hF
  refine wl0 rfl (op_q hf (rq_rem hf rfl rfl hq2) rfl (by decide) fun a hf => ?_)
  obtain ⟨e, he, hF⟩ := bind_some hF
  refine wl0 rfl (op_q hf (rq_indexA hf Try.underlying154 TF.pt3 rfl rfl rfl rfl he) rfl (by decide) fun a hf => ?_)
  refine pRun_ok (tb := tab) (n := 17) tabOk 1 _ _ hf rfl rfl fun a hf => ?_
  refine wl_end ?_
  refine then_n ?_
  refine sq ?_
  refine sq ?_
  refine reg ?_
  refine pRun_ok (tb := tab) (n := 17) tabOk 1 _ _ hf rfl rfl fun a hf => ?_
  obtain ⟨q3, hq3, hF⟩ := bind_some hF
  refine wl0 rfl (op_q hf (rq_quo hf rfl rfl hq3) rfl (by decide) fun a hf => ?_)
  refine pRun_ok (tb := tab) (n := 17) tabOk 1 _ _ hf rfl rfl fun a hf => ?_
  refine wl_end ?_
  refine then_n ?_
  obtain ⟨out2, hB1, hF⟩ := bind_some hF
  have hf := hf.prune [3, 10, 11] rfl
  have H := H.let [] [] []
  have hI : (fun (s : Int × Int) (a : Act) (w : World) => match s with | (out', i) => Fr a 17 [(3, (.int .i64 out')), (10, (.int .i64 q3)), (11, (.int .i64 i))] ∧ Mem w0 S [] [] [] w) (e, 0) a w0 := ⟨hf, H⟩
  refine mid (fun a w => ∃ s : Int × Int, out2 = s ∧ (fun (s : Int × Int) (a : Act) (w : World) => match s with | (out', i) => Fr a 17 [(3, (.int .i64 out')), (10, (.int .i64 q3)), (11, (.int .i64 i))] ∧ Mem w0 S [] [] [] w) s a w) ?_ ?_
  · refine wp_block ?_
    refine loop_rule (fun k (s : Int × Int) => impl_linear_L1 fu q3 k s.1 s.2 = some out2) (fun (s : Int × Int) (a : Act) (w : World) => match s with | (out', i) => Fr a 17 [(3, (.int .i64 out')), (10, (.int .i64 q3)), (11, (.int .i64 i))] ∧ Mem w0 S [] [] [] w) (fun s h => by cases h) ?_ fu (e, 0) a w0 hB1 hI
    rintro fk ⟨out', i⟩ a w hR1 hI
    replace hR1 : impl_linear_L1 fu q3 (fk + 1) out' i = some out2 := hR1
    rw [impl_linear_L1] at hR1
    obtain ⟨hf, H⟩ := hI
    refine sq ?_
    refine reg ?_
    refine pRun_ok (tb := tab) (n := 17) tabOk 1 _ _ hf rfl rfl fun a hf => ?_
    refine wl_end ?_
    refine then_n ?_
    refine sq ?_
    refine (Bool.eq_false_or_eq_true (decide (i < q3))).elim (fun hc => ?_) (fun hc => ?_)
    · rw [if_pos hc] at hR1
      refine cd_t hf rfl hc ?_
      refine wp_skip ?_
      refine then_n ?_
      refine sq ?_
      refine wp_block ?_
      refine reg ?_
      refine pRun_ok (tb := tab) (n := 17) tabOk 3 _ _ hf rfl rfl fun a hf => ?_
      refine wl_end ?_
      refine blk_n ?_
      refine then_n ?_
      refine reg ?_
      refine pRun_ok (tb := tab) (n := 17) tabOk 2 _ _ hf rfl rfl fun a hf => ?_
      refine wl_end ?_
      have hf := hf.prune [3, 10, 11] rfl
      have H := H.let [] [] []
      exact then_n ⟨(w64 (out' * 10), w64 (i + 1)), hR1, hf, H⟩
    · rw [if_neg (nt hc)] at hR1
      refine cd_f hf rfl hc ?_
      refine wp_exit (then_x (then_x (blk_e (?_))))
      have hf := hf.prune [3, 10, 11] rfl
      have H := H.let [] [] []
      exact ⟨(out', i), (Option.some.inj hR1).symm, hf, H⟩
  rintro a w ⟨⟨out3, i2⟩, rfl, hf, H⟩
  dsimp only at hF
  refine then_n ?_
  refine sq ?_
  refine reg ?_
  refine pRun_ok (tb := tab) (n := 17) tabOk 2 _ _ hf rfl rfl fun a hf => ?_
  refine wl_end ?_
  refine then_n ?_
  refine wp_ret (?_)
  obtain rfl := Option.some.inj hF
  refine ret_1 (fn := Try.f105) (r := .tmp 2) hf rfl (rv_tmp hf rfl) ?_
  exact ⟨_, rfl, H.below, mk_int⟩

/- loop.example/g00897/impl.LinearValue -/
set_option maxHeartbeats 1000000 in
theorem impl_LinearValue_ok {fu : Nat} {w0 : World} {S : Nat → Prop} {v0_ : Value} {level : Int} {r : Int × Bool} (h0 : VR w0 S v0_ level) (hF : impl_LinearValue fu level = some r) :
    Calls Try.prog 30 [v0_].toArray w0 fun e w' => ∃ v, e = .returned v ∧ (Below w0.heap.size w0 w' ∧ ∃ u0 u1, v = .tuple #[u0, u1] ∧ VR w' (St w0 S [] [] true) u0 r.1 ∧ VR w' (St w0 S [] [] true) u1 r.2) := by
  obtain rfl := VR_int h0
  have H := Mem.start w0 S
  refine enter Try.func30 rfl rfl (nle rfl) rfl fun a hf => ?_
  rw [impl_LinearValue] at hF
  refine sq ?_
  refine reg ?_
  refine pRun_ok (tb := tab) (n := 9) tabOk 2 _ _ hf rfl rfl fun a hf => ?_
  refine wl_end ?_
  refine then_n ?_
  refine sq ?_
  refine sq ?_
  refine reg ?_
  refine pRun_ok (tb := tab) (n := 9) tabOk 1 _ _ hf rfl rfl fun a hf => ?_
  obtain ⟨y, hy, hF⟩ := bind_some hF
  refine wl0 rfl (op_call hf TF.cl104 rfl (by decide) (impl_hasLinear_ok (S := fun _ => True) mk_int hy) fun v w a hp hf => ?_)
  obtain ⟨hb, hp⟩ := hp
  obtain rfl := VR_bool hp
  have H := H.keep hb
  refine pRun_ok (tb := tab) (n := 9) tabOk 1 _ _ hf rfl rfl fun a hf => ?_
  refine wl_end ?_
  refine then_n ?_
  refine (Bool.eq_false_or_eq_true (!y)).elim (fun hc => ?_) (fun hc => ?_)
  · rw [if_pos hc] at hF
    refine cd_t hf rfl hc ?_
    refine sq ?_
    refine reg ?_
    refine pRun_ok (tb := tab) (n := 9) tabOk 2 _ _ hf rfl rfl fun a hf => ?_
    refine wl_end ?_
    refine then_n ?_
    refine wp_ret (then_r (?_))
    obtain rfl := Option.some.inj hF
    refine ret_2 (fn := Try.f30) (r := .tmp 2) (s := .tmp 3) hf rfl (rv_tmp hf rfl) (rv_tmp hf rfl) ?_
    exact ⟨_, rfl, H.below, _, _, rfl, mk_int, mk_bool⟩
  · rw [if_neg (nt hc)] at hF
    refine cd_f hf rfl hc ?_
    refine wp_skip ?_
    refine then_n ?_
    refine sq ?_
    refine reg ?_
    refine pRun_ok (tb := tab) (n := 9) tabOk 1 _ _ hf rfl rfl fun a hf => ?_
    obtain ⟨y2, hy2, hF⟩ := bind_some hF
    refine wl0 rfl (op_call hf TF.cl105 rfl (by decide) (impl_linear_ok (S := fun _ => True) mk_int hy2) fun v2 w a hp2 hf => ?_)
    obtain ⟨hb2, hp2⟩ := hp2
    obtain rfl := VR_int hp2
    have H := H.keep hb2
    refine pRun_ok (tb := tab) (n := 9) tabOk 2 _ _ hf rfl rfl fun a hf => ?_
    refine wl_end ?_
    refine then_n ?_
    refine wp_ret (?_)
    obtain rfl := Option.some.inj hF
    refine ret_2 (fn := Try.f30) (r := .tmp 2) (s := .tmp 3) hf rfl (rv_tmp hf rfl) (rv_tmp hf rfl) ?_
    exact ⟨_, rfl, H.below, _, _, rfl, mk_int, mk_bool⟩

/- loop.example/g00897/laws.FnExactLinearValue -/
set_option maxHeartbeats 1000000 in
theorem laws_FnExactLinearValue_ok {fu : Nat} {w0 : World} {S : Nat → Prop} {v0_ : Value} {aLevel : Int} {r : Bool} (h0 : VR w0 S v0_ aLevel) (hF : laws_FnExactLinearValue fu aLevel = some r) :
    Calls Try.prog 5 [v0_].toArray w0 fun e w' => ∃ v, e = .returned v ∧ (Below w0.heap.size w0 w' ∧ VR w' (St w0 S [] [] true) v r) := by
  obtain rfl := VR_int h0
  have H := Mem.start w0 S
  refine enter Try.func5 rfl rfl (nle rfl) rfl fun a hf => ?_
  rw [laws_FnExactLinearValue] at hF
  refine sq ?_
  refine reg ?_
  refine pRun_ok (tb := tab) (n := 25) tabOk 1 _ _ hf rfl rfl fun a hf => ?_
  refine wl_end ?_
  refine then_n ?_
  refine sq ?_
  refine reg ?_
  refine pRun_ok (tb := tab) (n := 25) tabOk 1 _ _ hf rfl rfl fun a hf => ?_
  obtain ⟨y, hy, hF⟩ := bind_some hF
  refine wl0 rfl (op_call hf TF.cl29 rfl (by decide) (spec_LinearValue_ok (S := fun _ => True) mk_int hy) fun v w a hp hf => ?_)
  obtain ⟨hb, v2, v3, rfl, hp2, hp3⟩ := hp
  obtain rfl := VR_int hp2
  obtain rfl := VR_bool hp3
  have H := H.keep hb
  refine pRun_ok (tb := tab) (n := 25) tabOk 5 _ _ hf rfl rfl fun a hf => ?_
  refine wl_end ?_
  refine then_n ?_
  refine sq ?_
  refine reg ?_
  refine pRun_ok (tb := tab) (n := 25) tabOk 1 _ _ hf rfl rfl fun a hf => ?_
  obtain ⟨y2, hy2, hF⟩ := bind_some hF
  refine wl0 rfl (op_call hf TF.cl30 rfl (by decide) (impl_LinearValue_ok (S := fun _ => True) mk_int hy2) fun v4 w a hp4 hf => ?_)
  obtain ⟨hb2, v5, v6, rfl, hp5, hp6⟩ := hp4
  obtain rfl := VR_int hp5
  obtain rfl := VR_bool hp6
  have H := H.keep hb2
  refine pRun_ok (tb := tab) (n := 25) tabOk 5 _ _ hf rfl rfl fun a hf => ?_
  refine wl_end ?_
  refine then_n ?_
  refine sq ?_
  refine sq ?_
  obtain ⟨c, hGc, hF⟩ := bind_some hF
  refine mid (fun a w => Fr a 25 [(24, (.bool c))] ∧ Mem w0 S [] [] [] w) ?_ ?_
  · refine reg ?_
    refine pRun_ok (tb := tab) (n := 25) tabOk 4 _ _ hf rfl rfl fun a hf => ?_
    refine (Bool.eq_false_or_eq_true (y2.1 != y.1)).elim (fun hc => ?_) (fun hc => ?_)
    · rw [if_pos hc] at hGc
      have hf := hf.lit 20 rfl hc
      refine pRun_ok (tb := tab) (n := 25) tabOk 4 _ _ hf rfl rfl fun a hf => ?_
      obtain rfl := Option.some.inj hGc
      have hf := hf.prune [24] rfl
      have H := H.let [] [] []
      exact wl_end ⟨hf, H⟩
    · rw [if_neg (nt hc)] at hGc
      have hf := hf.lit 20 rfl hc
      refine pRun_ok (tb := tab) (n := 25) tabOk 4 _ _ hf rfl rfl fun a hf => ?_
      obtain rfl := Option.some.inj hGc
      have hf := hf.prune [24] rfl
      have H := H.let [] [] []
      exact wl_end ⟨hf, H⟩
  rintro a w ⟨hf, H⟩
  refine then_n ?_
  refine (Bool.eq_false_or_eq_true (c)).elim (fun hc2 => ?_) (fun hc2 => ?_)
  · rw [if_pos hc2] at hF
    refine cd_t hf rfl hc2 ?_
    refine sq ?_
    refine reg ?_
    refine pRun_ok (tb := tab) (n := 25) tabOk 1 _ _ hf rfl rfl fun a hf => ?_
    refine wl_end ?_
    refine then_n ?_
    refine wp_ret (then_r (?_))
    obtain rfl := Option.some.inj hF
    refine ret_1 (fn := Try.f5) (r := .tmp 2) hf rfl (rv_tmp hf rfl) ?_
    exact ⟨_, rfl, H.below, mk_bool⟩
  · rw [if_neg (nt hc2)] at hF
    refine cd_f hf rfl hc2 ?_
    refine wp_skip ?_
    refine then_n ?_
    refine sq ?_
    refine reg ?_
    refine pRun_ok (tb := tab) (n := 25) tabOk 1 _ _ hf rfl rfl fun a hf => ?_
    refine wl_end ?_
    refine then_n ?_
    refine wp_ret (?_)
    obtain rfl := Option.some.inj hF
    refine ret_1 (fn := Try.f5) (r := .tmp 2) hf rfl (rv_tmp hf rfl) ?_
    exact ⟨_, rfl, H.below, mk_bool⟩

/- loop.example/g00897/spec.l22Level -/
set_option maxHeartbeats 1000000 in
theorem spec_l22Level_ok {fu : Nat} {w0 : World} {S : Nat → Prop} {v0_ : Value} {x1 : Int} {r : Bool} (h0 : VR w0 S v0_ x1) (hF : spec_l22Level fu x1 = some r) :
    Calls Try.prog 106 [v0_].toArray w0 fun e w' => ∃ v, e = .returned v ∧ (Below w0.heap.size w0 w' ∧ VR w' (St w0 S [] [] true) v r) := by
  obtain rfl := VR_int h0
  have H := Mem.start w0 S
  refine enter Try.func106 rfl rfl (nle rfl) rfl fun a hf => ?_
  rw [spec_l22Level] at hF
  refine sq ?_
  refine reg ?_
  refine pRun_ok (tb := tab) (n := 5) tabOk 1 _ _ hf rfl rfl fun a hf => ?_
  refine wl_end ?_
  refine then_n ?_
  refine sq ?_
  refine reg ?_
  refine pRun_ok (tb := tab) (n := 5) tabOk 1 _ _ hf rfl rfl fun a hf => ?_
  obtain ⟨y, hy, hF⟩ := bind_some hF
  refine wl0 rfl (op_call hf TF.cl97 rfl (by decide) (spec_l1In_ok (S := fun _ => True) mk_int mk_int mk_int hy) fun v w a hp hf => ?_)
  obtain ⟨hb, hp⟩ := hp
  obtain rfl := VR_bool hp
  have H := H.keep hb
  refine pRun_ok (tb := tab) (n := 5) tabOk 1 _ _ hf rfl rfl fun a hf => ?_
  refine wl_end ?_
  refine then_n ?_
  refine wp_ret (?_)
  obtain rfl := Option.some.inj hF
  refine ret_1 (fn := Try.f106) (r := .tmp 2) hf rfl (rv_tmp hf rfl) ?_
  exact ⟨_, rfl, H.below, mk_bool⟩

/- loop.example/g00897/spec.MostSpans -/
set_option maxHeartbeats 1000000 in
theorem spec_MostSpans_ok {fu : Nat} {w0 : World} {S : Nat → Prop} {v0_ : Value} {v1_ : Value} {v2_ : Value} {s' : Span} {launch : Int} {need : Int} {r : Int × Bool} (h0 : VR w0 S v0_ s') (h1 : VR w0 S v1_ launch) (h2 : VR w0 S v2_ need) (hF : spec_MostSpans fu s' launch need = some r) :
    Calls Try.prog 31 [v0_, v1_, v2_].toArray w0 fun e w' => ∃ v, e = .returned v ∧ (Below w0.heap.size w0 w' ∧ ∃ u0 u1, v = .tuple #[u0, u1] ∧ VR w' (St w0 S [] [] true) u0 r.1 ∧ VR w' (St w0 S [] [] true) u1 r.2) := by
  obtain rfl := Span_open h0
  obtain rfl := VR_int h1
  obtain rfl := VR_int h2
  have H := Mem.start w0 S
  refine enter Try.func31 rfl rfl (nle rfl) rfl fun a hf => ?_
  rw [spec_MostSpans] at hF
  refine sq ?_
  refine reg ?_
  refine wl0 rfl (op_box hf H rfl rfl (by decide) fun b' a w hf H => ?_)
  refine pRun_ok (tb := tab) (n := 38) tabOk 2 _ _ hf rfl rfl fun a hf => ?_
  refine wl_end ?_
  refine then_n ?_
  refine sq ?_
  refine sq ?_
  obtain ⟨c, hGc, hF⟩ := bind_some hF
  refine mid (fun a w => Fr a 38 [(1, (.int .i64 launch)), (2, (.int .i64 need)), (3, (.pointer (some ⟨b', 0, none⟩))), (21, (.bool c))] ∧ Mem w0 S [⟨b', 28, [(.int .i64 s'.Length), (.int .i64 s'.Loss), (.int .i64 s'.Splices)]⟩] [] [] w) ?_ ?_
  · refine reg ?_
    refine wl0 rfl (op_q hf (rq_loadBN hf H TF.la28 0 rfl rfl rfl rfl) rfl (by decide) fun a hf => ?_)
    obtain ⟨y, hy, hGc⟩ := bind_some hGc
    refine wl0 rfl (op_call hf TF.cl99 rfl (by decide) (spec_l22Span_ok (S := fun _ => True) Span_mkv hy) fun v w a hp hf => ?_)
    obtain ⟨hb, hp⟩ := hp
    obtain rfl := VR_bool hp
    have H := H.keep hb
    refine pRun_ok (tb := tab) (n := 38) tabOk 2 _ _ hf rfl rfl fun a hf => ?_
    refine (Bool.eq_false_or_eq_true (!y)).elim (fun hc => ?_) (fun hc => ?_)
    · rw [if_pos hc] at hGc
      have hf := hf.lit 12 rfl hc
      refine pRun_ok (tb := tab) (n := 38) tabOk 9 _ _ hf rfl rfl fun a hf => ?_
      obtain rfl := Option.some.inj hGc
      have hf := hf.prune [1, 2, 3, 21] rfl
      have H := H.let [true] [] []
      exact wl_end ⟨hf, H⟩
    · rw [if_neg (nt hc)] at hGc
      have hf := hf.lit 12 rfl hc
      refine pRun_ok (tb := tab) (n := 38) tabOk 1 _ _ hf rfl rfl fun a hf => ?_
      obtain ⟨y2, hy2, hGc⟩ := bind_some hGc
      refine wlg hf rfl rfl rfl (op_call hf TF.cl106 rfl (by decide) (spec_l22Level_ok (S := fun _ => True) mk_int hy2) fun v2 w a hp2 hf => ?_)
      obtain ⟨hb2, hp2⟩ := hp2
      obtain rfl := VR_bool hp2
      have H := H.keep hb2
      refine pRun_ok (tb := tab) (n := 38) tabOk 3 _ _ hf rfl rfl fun a hf => ?_
      refine (Bool.eq_false_or_eq_true (!y2)).elim (fun hc2 => ?_) (fun hc2 => ?_)
      · rw [if_pos hc2] at hGc
        have hf := hf.lit 17 rfl hc2
        refine pRun_ok (tb := tab) (n := 38) tabOk 4 _ _ hf rfl rfl fun a hf => ?_
        obtain rfl := Option.some.inj hGc
        have hf := hf.prune [1, 2, 3, 21] rfl
        have H := H.let [true] [] []
        exact wl_end ⟨hf, H⟩
      · rw [if_neg (nt hc2)] at hGc
        have hf := hf.lit 17 rfl hc2
        refine pRun_ok (tb := tab) (n := 38) tabOk 1 _ _ hf rfl rfl fun a hf => ?_
        obtain ⟨y3, hy3, hGc⟩ := bind_some hGc
        refine wlg hf rfl rfl rfl (op_call hf TF.cl106 rfl (by decide) (spec_l22Level_ok (S := fun _ => True) mk_int hy3) fun v3 w a hp3 hf => ?_)
        obtain ⟨hb3, hp3⟩ := hp3
        obtain rfl := VR_bool hp3
        have H := H.keep hb3
        refine pRun_ok (tb := tab) (n := 38) tabOk 2 _ _ hf rfl rfl fun a hf => ?_
        obtain rfl := Option.some.inj hGc
        have hf := hf.prune [1, 2, 3, 21] rfl
        have H := H.let [true] [] []
        exact wl_end ⟨hf, H⟩
  rintro a w ⟨hf, H⟩
  refine then_n ?_
  refine (Bool.eq_false_or_eq_true (c)).elim (fun hc3 => ?_) (fun hc3 => ?_)
  · rw [if_pos hc3] at hF
    refine cd_t hf rfl hc3 ?_
    refine sq ?_
    refine reg ?_
    refine pRun_ok (tb := tab) (n := 38) tabOk 2 _ _ hf rfl rfl fun a hf => ?_
    refine wl_end ?_
    refine then_n ?_
    refine wp_ret (then_r (?_))
    obtain rfl := Option.some.inj hF
    refine ret_2 (fn := Try.f31) (r := .tmp 6) (s := .tmp 7) hf rfl (rv_tmp hf rfl) (rv_tmp hf rfl) ?_
    exact ⟨_, rfl, H.below, _, _, rfl, mk_int, mk_bool⟩
  · rw [if_neg (nt hc3)] at hF
    refine cd_f hf rfl hc3 ?_
    refine wp_skip ?_
    refine then_n ?_
    refine sq ?_
    refine reg ?_
    refine pRun_ok (tb := tab) (n := 38) tabOk 1 _ _ hf rfl rfl fun a hf => ?_
    refine wl_end ?_
    refine then_n ?_
    refine sq ?_
    obtain ⟨out', hB1, hF⟩ := bind_some hF
    have hf := hf.prune [1, 2, 3, 8] rfl
    have H := H.let [true] [] []
    have hI : (fun (s : Int) (a : Act) (w : World) => match s with | n' => Fr a 38 [(1, (.int .i64 launch)), (2, (.int .i64 need)), (3, (.pointer (some ⟨b', 0, none⟩))), (8, (.int .i64 n'))] ∧ Mem w0 S [⟨b', 28, [(.int .i64 s'.Length), (.int .i64 s'.Loss), (.int .i64 s'.Splices)]⟩] [] [] w) 0 a w := ⟨hf, H⟩
    refine mid (fun a w => ∃ s : Int, out' = s ∧ (fun (s : Int) (a : Act) (w : World) => match s with | n' => Fr a 38 [(1, (.int .i64 launch)), (2, (.int .i64 need)), (3, (.pointer (some ⟨b', 0, none⟩))), (8, (.int .i64 n'))] ∧ Mem w0 S [⟨b', 28, [(.int .i64 s'.Length), (.int .i64 s'.Loss), (.int .i64 s'.Splices)]⟩] [] [] w) s a w) ?_ ?_
    · refine wp_block ?_
      refine loop_rule (fun k (s : Int) => spec_MostSpans_L1 fu s' launch need k s = some out') (fun (s : Int) (a : Act) (w : World) => match s with | n' => Fr a 38 [(1, (.int .i64 launch)), (2, (.int .i64 need)), (3, (.pointer (some ⟨b', 0, none⟩))), (8, (.int .i64 n'))] ∧ Mem w0 S [⟨b', 28, [(.int .i64 s'.Length), (.int .i64 s'.Loss), (.int .i64 s'.Splices)]⟩] [] [] w) (fun s h => by cases h) ?_ fu 0 a w hB1 hI
      rintro fk n' a w hR1 hI
      replace hR1 : spec_MostSpans_L1 fu s' launch need (fk + 1) n' = some out' := hR1
      rw [spec_MostSpans_L1] at hR1
      obtain ⟨hf, H⟩ := hI
      refine sq ?_
      refine sq ?_
      obtain ⟨c2, hGc2, hR1⟩ := bind_some hR1
      refine mid (fun a w => Fr a 38 [(1, (.int .i64 launch)), (2, (.int .i64 need)), (3, (.pointer (some ⟨b', 0, none⟩))), (8, (.int .i64 n')), (34, (.bool c2))] ∧ Mem w0 S [⟨b', 28, [(.int .i64 s'.Length), (.int .i64 s'.Loss), (.int .i64 s'.Splices)]⟩] [] [] w) ?_ ?_
      · refine reg ?_
        refine pRun_ok (tb := tab) (n := 38) tabOk 3 _ _ hf rfl rfl fun a hf => ?_
        refine (Bool.eq_false_or_eq_true (decide (n' < 12))).elim (fun hc4 => ?_) (fun hc4 => ?_)
        · rw [if_pos hc4] at hGc2
          have hf := hf.lit 24 rfl hc4
          refine pRun_ok (tb := tab) (n := 38) tabOk 3 _ _ hf rfl rfl fun a hf => ?_
          refine wlg hf rfl rfl rfl (op_q hf (rq_loadBN hf H TF.la28 0 rfl rfl rfl rfl) rfl (by decide) fun a hf => ?_)
          obtain ⟨y4, hy4, hGc2⟩ := bind_some hGc2
          refine wlg hf rfl rfl rfl (op_call hf TF.cl100 rfl (by decide) (spec_l22Loss_ok (S := fun _ => True) Span_mkv hy4) fun v4 w a hp4 hf => ?_)
          obtain ⟨hb4, hp4⟩ := hp4
          obtain rfl := VR_int hp4
          have H := H.keep hb4
          refine pRun_ok (tb := tab) (n := 38) tabOk 5 _ _ hf rfl rfl fun a hf => ?_
          obtain rfl := Option.some.inj hGc2
          have hf := hf.prune [1, 2, 3, 8, 34] rfl
          have H := H.let [true] [] []
          exact wl_end ⟨hf, H⟩
        · rw [if_neg (nt hc4)] at hGc2
          have hf := hf.lit 24 rfl hc4
          refine pRun_ok (tb := tab) (n := 38) tabOk 10 _ _ hf rfl rfl fun a hf => ?_
          obtain rfl := Option.some.inj hGc2
          have hf := hf.prune [1, 2, 3, 8, 34] rfl
          have H := H.let [true] [] []
          exact wl_end ⟨hf, H⟩
      rintro a w ⟨hf, H⟩
      refine then_n ?_
      refine (Bool.eq_false_or_eq_true (c2)).elim (fun hc5 => ?_) (fun hc5 => ?_)
      · rw [if_pos hc5] at hR1
        refine cd_t hf rfl hc5 ?_
        refine wp_skip ?_
        refine then_n ?_
        refine wp_block ?_
        refine reg ?_
        refine pRun_ok (tb := tab) (n := 38) tabOk 3 _ _ hf rfl rfl fun a hf => ?_
        refine wl_end ?_
        refine blk_n ?_
        have hf := hf.prune [1, 2, 3, 8] rfl
        have H := H.let [true] [] []
        exact then_n ⟨w64 (n' + 1), hR1, hf, H⟩
      · rw [if_neg (nt hc5)] at hR1
        refine cd_f hf rfl hc5 ?_
        refine wp_exit (then_x (then_x (blk_e (?_))))
        have hf := hf.prune [1, 2, 3, 8] rfl
        have H := H.let [true] [] []
        exact ⟨n', (Option.some.inj hR1).symm, hf, H⟩
    rintro a w ⟨n2, rfl, hf, H⟩
    refine then_n ?_
    refine sq ?_
    refine reg ?_
    refine pRun_ok (tb := tab) (n := 38) tabOk 3 _ _ hf rfl rfl fun a hf => ?_
    refine wl_end ?_
    refine then_n ?_
    refine wp_ret (?_)
    obtain rfl := Option.some.inj hF
    refine ret_2 (fn := Try.f31) (r := .tmp 6) (s := .tmp 7) hf rfl (rv_tmp hf rfl) (rv_tmp hf rfl) ?_
    exact ⟨_, rfl, H.below, _, _, rfl, mk_int, mk_bool⟩

/- loop.example/g00897/impl.isLevel -/
set_option maxHeartbeats 1000000 in
theorem impl_isLevel_ok {fu : Nat} {w0 : World} {S : Nat → Prop} {v0_ : Value} {level : Int} {r : Bool} (h0 : VR w0 S v0_ level) (hF : impl_isLevel fu level = some r) :
    Calls Try.prog 107 [v0_].toArray w0 fun e w' => ∃ v, e = .returned v ∧ (Below w0.heap.size w0 w' ∧ VR w' (St w0 S [] [] true) v r) := by
  obtain rfl := VR_int h0
  have H := Mem.start w0 S
  refine enter Try.func107 rfl rfl (nle rfl) rfl fun a hf => ?_
  rw [impl_isLevel] at hF
  refine sq ?_
  refine reg ?_
  refine pRun_ok (tb := tab) (n := 5) tabOk 1 _ _ hf rfl rfl fun a hf => ?_
  refine wl_end ?_
  refine then_n ?_
  refine sq ?_
  refine reg ?_
  refine pRun_ok (tb := tab) (n := 5) tabOk 1 _ _ hf rfl rfl fun a hf => ?_
  obtain ⟨y, hy, hF⟩ := bind_some hF
  refine wl0 rfl (op_call hf TF.cl98 rfl (by decide) (impl_within_ok (S := fun _ => True) mk_int mk_int mk_int hy) fun v w a hp hf => ?_)
  obtain ⟨hb, hp⟩ := hp
  obtain rfl := VR_bool hp
  have H := H.keep hb
  refine pRun_ok (tb := tab) (n := 5) tabOk 1 _ _ hf rfl rfl fun a hf => ?_
  refine wl_end ?_
  refine then_n ?_
  refine wp_ret (?_)
  obtain rfl := Option.some.inj hF
  refine ret_1 (fn := Try.f107) (r := .tmp 2) hf rfl (rv_tmp hf rfl) ?_
  exact ⟨_, rfl, H.below, mk_bool⟩

/- loop.example/g00897/impl.MostSpans -/
set_option maxHeartbeats 1000000 in
theorem impl_MostSpans_ok {fu : Nat} {w0 : World} {S : Nat → Prop} {v0_ : Value} {v1_ : Value} {v2_ : Value} {s' : Span} {launch : Int} {need : Int} {r : Int × Bool} (h0 : VR w0 S v0_ s') (h1 : VR w0 S v1_ launch) (h2 : VR w0 S v2_ need) (hF : impl_MostSpans fu s' launch need = some r) :
    Calls Try.prog 32 [v0_, v1_, v2_].toArray w0 fun e w' => ∃ v, e = .returned v ∧ (Below w0.heap.size w0 w' ∧ ∃ u0 u1, v = .tuple #[u0, u1] ∧ VR w' (St w0 S [] [] true) u0 r.1 ∧ VR w' (St w0 S [] [] true) u1 r.2) := by
  obtain rfl := Span_open h0
  obtain rfl := VR_int h1
  obtain rfl := VR_int h2
  have H := Mem.start w0 S
  refine enter Try.func32 rfl rfl (nle rfl) rfl fun a hf => ?_
  rw [impl_MostSpans] at hF
  refine sq ?_
  refine reg ?_
  refine wl0 rfl (op_box hf H rfl rfl (by decide) fun b' a w hf H => ?_)
  refine pRun_ok (tb := tab) (n := 38) tabOk 2 _ _ hf rfl rfl fun a hf => ?_
  refine wl_end ?_
  refine then_n ?_
  refine sq ?_
  refine sq ?_
  obtain ⟨c, hGc, hF⟩ := bind_some hF
  refine mid (fun a w => Fr a 38 [(1, (.int .i64 launch)), (2, (.int .i64 need)), (3, (.pointer (some ⟨b', 0, none⟩))), (21, (.bool c))] ∧ Mem w0 S [⟨b', 28, [(.int .i64 s'.Length), (.int .i64 s'.Loss), (.int .i64 s'.Splices)]⟩] [] [] w) ?_ ?_
  · refine reg ?_
    refine wl0 rfl (op_q hf (rq_loadBN hf H TF.la28 0 rfl rfl rfl rfl) rfl (by decide) fun a hf => ?_)
    obtain ⟨y, hy, hGc⟩ := bind_some hGc
    refine wl0 rfl (op_call hf TF.cl101 rfl (by decide) (impl_isSpan_ok (S := fun _ => True) Span_mkv hy) fun v w a hp hf => ?_)
    obtain ⟨hb, hp⟩ := hp
    obtain rfl := VR_bool hp
    have H := H.keep hb
    refine pRun_ok (tb := tab) (n := 38) tabOk 2 _ _ hf rfl rfl fun a hf => ?_
    refine (Bool.eq_false_or_eq_true (!y)).elim (fun hc => ?_) (fun hc => ?_)
    · rw [if_pos hc] at hGc
      have hf := hf.lit 12 rfl hc
      refine pRun_ok (tb := tab) (n := 38) tabOk 9 _ _ hf rfl rfl fun a hf => ?_
      obtain rfl := Option.some.inj hGc
      have hf := hf.prune [1, 2, 3, 21] rfl
      have H := H.let [true] [] []
      exact wl_end ⟨hf, H⟩
    · rw [if_neg (nt hc)] at hGc
      have hf := hf.lit 12 rfl hc
      refine pRun_ok (tb := tab) (n := 38) tabOk 1 _ _ hf rfl rfl fun a hf => ?_
      obtain ⟨y2, hy2, hGc⟩ := bind_some hGc
      refine wlg hf rfl rfl rfl (op_call hf TF.cl107 rfl (by decide) (impl_isLevel_ok (S := fun _ => True) mk_int hy2) fun v2 w a hp2 hf => ?_)
      obtain ⟨hb2, hp2⟩ := hp2
      obtain rfl := VR_bool hp2
      have H := H.keep hb2
      refine pRun_ok (tb := tab) (n := 38) tabOk 3 _ _ hf rfl rfl fun a hf => ?_
      refine (Bool.eq_false_or_eq_true (!y2)).elim (fun hc2 => ?_) (fun hc2 => ?_)
      · rw [if_pos hc2] at hGc
        have hf := hf.lit 17 rfl hc2
        refine pRun_ok (tb := tab) (n := 38) tabOk 4 _ _ hf rfl rfl fun a hf => ?_
        obtain rfl := Option.some.inj hGc
        have hf := hf.prune [1, 2, 3, 21] rfl
        have H := H.let [true] [] []
        exact wl_end ⟨hf, H⟩
      · rw [if_neg (nt hc2)] at hGc
        have hf := hf.lit 17 rfl hc2
        refine pRun_ok (tb := tab) (n := 38) tabOk 1 _ _ hf rfl rfl fun a hf => ?_
        obtain ⟨y3, hy3, hGc⟩ := bind_some hGc
        refine wlg hf rfl rfl rfl (op_call hf TF.cl107 rfl (by decide) (impl_isLevel_ok (S := fun _ => True) mk_int hy3) fun v3 w a hp3 hf => ?_)
        obtain ⟨hb3, hp3⟩ := hp3
        obtain rfl := VR_bool hp3
        have H := H.keep hb3
        refine pRun_ok (tb := tab) (n := 38) tabOk 2 _ _ hf rfl rfl fun a hf => ?_
        obtain rfl := Option.some.inj hGc
        have hf := hf.prune [1, 2, 3, 21] rfl
        have H := H.let [true] [] []
        exact wl_end ⟨hf, H⟩
  rintro a w ⟨hf, H⟩
  refine then_n ?_
  refine (Bool.eq_false_or_eq_true (c)).elim (fun hc3 => ?_) (fun hc3 => ?_)
  · rw [if_pos hc3] at hF
    refine cd_t hf rfl hc3 ?_
    refine sq ?_
    refine reg ?_
    refine pRun_ok (tb := tab) (n := 38) tabOk 2 _ _ hf rfl rfl fun a hf => ?_
    refine wl_end ?_
    refine then_n ?_
    refine wp_ret (then_r (?_))
    obtain rfl := Option.some.inj hF
    refine ret_2 (fn := Try.f32) (r := .tmp 6) (s := .tmp 7) hf rfl (rv_tmp hf rfl) (rv_tmp hf rfl) ?_
    exact ⟨_, rfl, H.below, _, _, rfl, mk_int, mk_bool⟩
  · rw [if_neg (nt hc3)] at hF
    refine cd_f hf rfl hc3 ?_
    refine wp_skip ?_
    refine then_n ?_
    refine sq ?_
    refine reg ?_
    refine pRun_ok (tb := tab) (n := 38) tabOk 1 _ _ hf rfl rfl fun a hf => ?_
    refine wl_end ?_
    refine then_n ?_
    refine sq ?_
    obtain ⟨out', hB1, hF⟩ := bind_some hF
    have hf := hf.prune [1, 2, 3, 8] rfl
    have H := H.let [true] [] []
    have hI : (fun (s : Int) (a : Act) (w : World) => match s with | count => Fr a 38 [(1, (.int .i64 launch)), (2, (.int .i64 need)), (3, (.pointer (some ⟨b', 0, none⟩))), (8, (.int .i64 count))] ∧ Mem w0 S [⟨b', 28, [(.int .i64 s'.Length), (.int .i64 s'.Loss), (.int .i64 s'.Splices)]⟩] [] [] w) 0 a w := ⟨hf, H⟩
    refine mid (fun a w => ∃ s : Int, out' = s ∧ (fun (s : Int) (a : Act) (w : World) => match s with | count => Fr a 38 [(1, (.int .i64 launch)), (2, (.int .i64 need)), (3, (.pointer (some ⟨b', 0, none⟩))), (8, (.int .i64 count))] ∧ Mem w0 S [⟨b', 28, [(.int .i64 s'.Length), (.int .i64 s'.Loss), (.int .i64 s'.Splices)]⟩] [] [] w) s a w) ?_ ?_
    · refine wp_block ?_
      refine loop_rule (fun k (s : Int) => impl_MostSpans_L1 fu s' launch need k s = some out') (fun (s : Int) (a : Act) (w : World) => match s with | count => Fr a 38 [(1, (.int .i64 launch)), (2, (.int .i64 need)), (3, (.pointer (some ⟨b', 0, none⟩))), (8, (.int .i64 count))] ∧ Mem w0 S [⟨b', 28, [(.int .i64 s'.Length), (.int .i64 s'.Loss), (.int .i64 s'.Splices)]⟩] [] [] w) (fun s h => by cases h) ?_ fu 0 a w hB1 hI
      rintro fk count a w hR1 hI
      replace hR1 : impl_MostSpans_L1 fu s' launch need (fk + 1) count = some out' := hR1
      rw [impl_MostSpans_L1] at hR1
      obtain ⟨hf, H⟩ := hI
      refine sq ?_
      refine sq ?_
      obtain ⟨c2, hGc2, hR1⟩ := bind_some hR1
      refine mid (fun a w => Fr a 38 [(1, (.int .i64 launch)), (2, (.int .i64 need)), (3, (.pointer (some ⟨b', 0, none⟩))), (8, (.int .i64 count)), (34, (.bool c2))] ∧ Mem w0 S [⟨b', 28, [(.int .i64 s'.Length), (.int .i64 s'.Loss), (.int .i64 s'.Splices)]⟩] [] [] w) ?_ ?_
      · refine reg ?_
        refine pRun_ok (tb := tab) (n := 38) tabOk 3 _ _ hf rfl rfl fun a hf => ?_
        refine (Bool.eq_false_or_eq_true (decide (count < 12))).elim (fun hc4 => ?_) (fun hc4 => ?_)
        · rw [if_pos hc4] at hGc2
          have hf := hf.lit 24 rfl hc4
          refine pRun_ok (tb := tab) (n := 38) tabOk 3 _ _ hf rfl rfl fun a hf => ?_
          refine wlg hf rfl rfl rfl (op_q hf (rq_loadBN hf H TF.la28 0 rfl rfl rfl rfl) rfl (by decide) fun a hf => ?_)
          obtain ⟨y4, hy4, hGc2⟩ := bind_some hGc2
          refine wlg hf rfl rfl rfl (op_call hf TF.cl102 rfl (by decide) (impl_lossOf_ok (S := fun _ => True) Span_mkv hy4) fun v4 w a hp4 hf => ?_)
          obtain ⟨hb4, hp4⟩ := hp4
          obtain rfl := VR_int hp4
          have H := H.keep hb4
          refine pRun_ok (tb := tab) (n := 38) tabOk 5 _ _ hf rfl rfl fun a hf => ?_
          obtain rfl := Option.some.inj hGc2
          have hf := hf.prune [1, 2, 3, 8, 34] rfl
          have H := H.let [true] [] []
          exact wl_end ⟨hf, H⟩
        · rw [if_neg (nt hc4)] at hGc2
          have hf := hf.lit 24 rfl hc4
          refine pRun_ok (tb := tab) (n := 38) tabOk 10 _ _ hf rfl rfl fun a hf => ?_
          obtain rfl := Option.some.inj hGc2
          have hf := hf.prune [1, 2, 3, 8, 34] rfl
          have H := H.let [true] [] []
          exact wl_end ⟨hf, H⟩
      rintro a w ⟨hf, H⟩
      refine then_n ?_
      refine (Bool.eq_false_or_eq_true (c2)).elim (fun hc5 => ?_) (fun hc5 => ?_)
      · rw [if_pos hc5] at hR1
        refine cd_t hf rfl hc5 ?_
        refine wp_skip ?_
        refine then_n ?_
        refine wp_block ?_
        refine reg ?_
        refine pRun_ok (tb := tab) (n := 38) tabOk 3 _ _ hf rfl rfl fun a hf => ?_
        refine wl_end ?_
        refine blk_n ?_
        have hf := hf.prune [1, 2, 3, 8] rfl
        have H := H.let [true] [] []
        exact then_n ⟨w64 (count + 1), hR1, hf, H⟩
      · rw [if_neg (nt hc5)] at hR1
        refine cd_f hf rfl hc5 ?_
        refine wp_exit (then_x (then_x (blk_e (?_))))
        have hf := hf.prune [1, 2, 3, 8] rfl
        have H := H.let [true] [] []
        exact ⟨count, (Option.some.inj hR1).symm, hf, H⟩
    rintro a w ⟨count2, rfl, hf, H⟩
    refine then_n ?_
    refine sq ?_
    refine reg ?_
    refine pRun_ok (tb := tab) (n := 38) tabOk 3 _ _ hf rfl rfl fun a hf => ?_
    refine wl_end ?_
    refine then_n ?_
    refine wp_ret (?_)
    obtain rfl := Option.some.inj hF
    refine ret_2 (fn := Try.f32) (r := .tmp 6) (s := .tmp 7) hf rfl (rv_tmp hf rfl) (rv_tmp hf rfl) ?_
    exact ⟨_, rfl, H.below, _, _, rfl, mk_int, mk_bool⟩

/- loop.example/g00897/laws.FnExactMostSpans -/
set_option maxHeartbeats 1000000 in
theorem laws_FnExactMostSpans_ok {fu : Nat} {w0 : World} {S : Nat → Prop} {v0_ : Value} {v1_ : Value} {v2_ : Value} {aS : Span} {aLaunch : Int} {aNeed : Int} {r : Bool} (h0 : VR w0 S v0_ aS) (h1 : VR w0 S v1_ aLaunch) (h2 : VR w0 S v2_ aNeed) (hF : laws_FnExactMostSpans fu aS aLaunch aNeed = some r) :
    Calls Try.prog 6 [v0_, v1_, v2_].toArray w0 fun e w' => ∃ v, e = .returned v ∧ (Below w0.heap.size w0 w' ∧ VR w' (St w0 S [] [] true) v r) := by
  obtain rfl := Span_open h0
  obtain rfl := VR_int h1
  obtain rfl := VR_int h2
  have H := Mem.start w0 S
  refine enter Try.func6 rfl rfl (nle rfl) rfl fun a hf => ?_
  rw [laws_FnExactMostSpans] at hF
  refine sq ?_
  refine reg ?_
  refine wl0 rfl (op_box hf H rfl rfl (by decide) fun b' a w hf H => ?_)
  refine pRun_ok (tb := tab) (n := 35) tabOk 1 _ _ hf rfl rfl fun a hf => ?_
  refine wl_end ?_
  refine then_n ?_
  refine sq ?_
  refine reg ?_
  refine wl0 rfl (op_q hf (rq_loadBN hf H TF.la26 0 rfl rfl rfl rfl) rfl (by decide) fun a hf => ?_)
  obtain ⟨y, hy, hF⟩ := bind_some hF
  refine wl0 rfl (op_call hf TF.cl27 rfl (by decide) (laws_toSpan_ok (S := fun _ => True) Span_mkv hy) fun v w a hp hf => ?_)
  obtain ⟨hb, hp⟩ := hp
  obtain rfl := Span_open hp
  have H := H.keep hb
  refine pRun_ok (tb := tab) (n := 35) tabOk 2 _ _ hf rfl rfl fun a hf => ?_
  obtain ⟨y2, hy2, hF⟩ := bind_some hF
  refine wl0 rfl (op_call hf TF.cl31 rfl (by decide) (spec_MostSpans_ok (S := fun _ => True) Span_mkv mk_int mk_int hy2) fun v2 w a hp2 hf => ?_)
  obtain ⟨hb2, v3, v4, rfl, hp3, hp4⟩ := hp2
  obtain rfl := VR_int hp3
  obtain rfl := VR_bool hp4
  have H := H.keep hb2
  refine pRun_ok (tb := tab) (n := 35) tabOk 5 _ _ hf rfl rfl fun a hf => ?_
  refine wl_end ?_
  refine then_n ?_
  refine sq ?_
  refine reg ?_
  refine wl0 rfl (op_q hf (rq_loadBN hf H TF.la26 0 rfl rfl rfl rfl) rfl (by decide) fun a hf => ?_)
  obtain ⟨y3, hy3, hF⟩ := bind_some hF
  refine wl0 rfl (op_call hf TF.cl27 rfl (by decide) (laws_toSpan_ok (S := fun _ => True) Span_mkv hy3) fun v5 w a hp5 hf => ?_)
  obtain ⟨hb3, hp5⟩ := hp5
  obtain rfl := Span_open hp5
  have H := H.keep hb3
  refine pRun_ok (tb := tab) (n := 35) tabOk 2 _ _ hf rfl rfl fun a hf => ?_
  obtain ⟨y4, hy4, hF⟩ := bind_some hF
  refine wl0 rfl (op_call hf TF.cl32 rfl (by decide) (impl_MostSpans_ok (S := fun _ => True) Span_mkv mk_int mk_int hy4) fun v6 w a hp6 hf => ?_)
  obtain ⟨hb4, v7, v8, rfl, hp7, hp8⟩ := hp6
  obtain rfl := VR_int hp7
  obtain rfl := VR_bool hp8
  have H := H.keep hb4
  refine pRun_ok (tb := tab) (n := 35) tabOk 5 _ _ hf rfl rfl fun a hf => ?_
  have hf := hf.prune [7, 8, 9, 10] rfl
  refine wl_end ?_
  refine then_n ?_
  refine sq ?_
  refine sq ?_
  obtain ⟨c, hGc, hF⟩ := bind_some hF
  refine mid (fun a w => Fr a 35 [(34, (.bool c))] ∧ Mem w0 S [] [] [] w) ?_ ?_
  · refine reg ?_
    refine pRun_ok (tb := tab) (n := 35) tabOk 4 _ _ hf rfl rfl fun a hf => ?_
    refine (Bool.eq_false_or_eq_true (y4.1 != y2.1)).elim (fun hc => ?_) (fun hc => ?_)
    · rw [if_pos hc] at hGc
      have hf := hf.lit 30 rfl hc
      refine pRun_ok (tb := tab) (n := 35) tabOk 4 _ _ hf rfl rfl fun a hf => ?_
      obtain rfl := Option.some.inj hGc
      have hf := hf.prune [34] rfl
      have H := H.let [false] [] []
      exact wl_end ⟨hf, H⟩
    · rw [if_neg (nt hc)] at hGc
      have hf := hf.lit 30 rfl hc
      refine pRun_ok (tb := tab) (n := 35) tabOk 4 _ _ hf rfl rfl fun a hf => ?_
      obtain rfl := Option.some.inj hGc
      have hf := hf.prune [34] rfl
      have H := H.let [false] [] []
      exact wl_end ⟨hf, H⟩
  rintro a w ⟨hf, H⟩
  refine then_n ?_
  refine (Bool.eq_false_or_eq_true (c)).elim (fun hc2 => ?_) (fun hc2 => ?_)
  · rw [if_pos hc2] at hF
    refine cd_t hf rfl hc2 ?_
    refine sq ?_
    refine reg ?_
    refine pRun_ok (tb := tab) (n := 35) tabOk 1 _ _ hf rfl rfl fun a hf => ?_
    refine wl_end ?_
    refine then_n ?_
    refine wp_ret (then_r (?_))
    obtain rfl := Option.some.inj hF
    refine ret_1 (fn := Try.f6) (r := .tmp 6) hf rfl (rv_tmp hf rfl) ?_
    exact ⟨_, rfl, H.below, mk_bool⟩
  · rw [if_neg (nt hc2)] at hF
    refine cd_f hf rfl hc2 ?_
    refine wp_skip ?_
    refine then_n ?_
    refine sq ?_
    refine reg ?_
    refine pRun_ok (tb := tab) (n := 35) tabOk 1 _ _ hf rfl rfl fun a hf => ?_
    refine wl_end ?_
    refine then_n ?_
    refine wp_ret (?_)
    obtain rfl := Option.some.inj hF
    refine ret_1 (fn := Try.f6) (r := .tmp 6) hf rfl (rv_tmp hf rfl) ?_
    exact ⟨_, rfl, H.below, mk_bool⟩

/- loop.example/g00897/spec.l22Of -/
set_option maxHeartbeats 1000000 in
theorem spec_l22Of_ok {fu : Nat} {w0 : World} {S : Nat → Prop} {v0_ : Value} {value : Int} {r : Int} (h0 : VR w0 S v0_ value) (hF : spec_l22Of fu value = some r) :
    Calls Try.prog 108 [v0_].toArray w0 fun e w' => ∃ v, e = .returned v ∧ (Below w0.heap.size w0 w' ∧ VR w' (St w0 S [] [] true) v r) := by
  obtain rfl := VR_int h0
  have H := Mem.start w0 S
  refine enter Try.func108 rfl rfl (nle rfl) rfl fun a hf => ?_
  rw [spec_l22Of] at hF
  refine sq ?_
  refine reg ?_
  refine pRun_ok (tb := tab) (n := 16) tabOk 1 _ _ hf rfl rfl fun a hf => ?_
  refine wl_end ?_
  refine then_n ?_
  refine sq ?_
  refine reg ?_
  refine pRun_ok (tb := tab) (n := 16) tabOk 1 _ _ hf rfl rfl fun a hf => ?_
  refine wl_end ?_
  refine then_n ?_
  refine sq ?_
  obtain ⟨out', hB1, hF⟩ := bind_some hF
  have hf := hf.prune [0, 3] rfl
  have H := H.let [] [] []
  have hI : (fun (s : Int) (a : Act) (w : World) => match s with | level => Fr a 16 [(0, (.int .i64 value)), (3, (.int .i64 level))] ∧ Mem w0 S [] [] [] w) 0 a w0 := ⟨hf, H⟩
  refine mid (fun a w => ∃ s : Int, out' = s ∧ (fun (s : Int) (a : Act) (w : World) => match s with | level => Fr a 16 [(0, (.int .i64 value)), (3, (.int .i64 level))] ∧ Mem w0 S [] [] [] w) s a w) ?_ ?_
  · refine wp_block ?_
    refine loop_rule (fun k (s : Int) => spec_l22Of_L1 fu value k s = some out') (fun (s : Int) (a : Act) (w : World) => match s with | level => Fr a 16 [(0, (.int .i64 value)), (3, (.int .i64 level))] ∧ Mem w0 S [] [] [] w) (fun s h => by cases h) ?_ fu 0 a w0 hB1 hI
    rintro fk level a w hR1 hI
    replace hR1 : spec_l22Of_L1 fu value (fk + 1) level = some out' := hR1
    rw [spec_l22Of_L1] at hR1
    obtain ⟨hf, H⟩ := hI
    refine sq ?_
    refine sq ?_
    obtain ⟨c, hGc, hR1⟩ := bind_some hR1
    refine mid (fun a w => Fr a 16 [(0, (.int .i64 value)), (3, (.int .i64 level)), (12, (.bool c))] ∧ Mem w0 S [] [] [] w) ?_ ?_
    · refine reg ?_
      refine pRun_ok (tb := tab) (n := 16) tabOk 3 _ _ hf rfl rfl fun a hf => ?_
      refine (Bool.eq_false_or_eq_true (decide (level < 9900))).elim (fun hc => ?_) (fun hc => ?_)
      · rw [if_pos hc] at hGc
        have hf := hf.lit 6 rfl hc
        refine pRun_ok (tb := tab) (n := 16) tabOk 2 _ _ hf rfl rfl fun a hf => ?_
        obtain ⟨y, hy, hGc⟩ := bind_some hGc
        refine wlg hf rfl rfl rfl (op_call hf TF.cl103 rfl (by decide) (spec_l22Linear_ok (S := fun _ => True) mk_int hy) fun v w a hp hf => ?_)
        obtain ⟨hb, hp⟩ := hp
        obtain rfl := VR_int hp
        have H := H.keep hb
        refine pRun_ok (tb := tab) (n := 16) tabOk 3 _ _ hf rfl rfl fun a hf => ?_
        obtain rfl := Option.some.inj hGc
        have hf := hf.prune [0, 3, 12] rfl
        have H := H.let [] [] []
        exact wl_end ⟨hf, H⟩
      · rw [if_neg (nt hc)] at hGc
        have hf := hf.lit 6 rfl hc
        refine pRun_ok (tb := tab) (n := 16) tabOk 6 _ _ hf rfl rfl fun a hf => ?_
        obtain rfl := Option.some.inj hGc
        have hf := hf.prune [0, 3, 12] rfl
        have H := H.let [] [] []
        exact wl_end ⟨hf, H⟩
    rintro a w ⟨hf, H⟩
    refine then_n ?_
    refine (Bool.eq_false_or_eq_true (c)).elim (fun hc2 => ?_) (fun hc2 => ?_)
    · rw [if_pos hc2] at hR1
      refine cd_t hf rfl hc2 ?_
      refine wp_skip ?_
      refine then_n ?_
      refine wp_block ?_
      refine reg ?_
      refine pRun_ok (tb := tab) (n := 16) tabOk 3 _ _ hf rfl rfl fun a hf => ?_
      refine wl_end ?_
      refine blk_n ?_
      have hf := hf.prune [0, 3] rfl
      have H := H.let [] [] []
      exact then_n ⟨w64 (level + 100), hR1, hf, H⟩
    · rw [if_neg (nt hc2)] at hR1
      refine cd_f hf rfl hc2 ?_
      refine wp_exit (then_x (then_x (blk_e (?_))))
      have hf := hf.prune [0, 3] rfl
      have H := H.let [] [] []
      exact ⟨level, (Option.some.inj hR1).symm, hf, H⟩
  rintro a w ⟨level2, rfl, hf, H⟩
  refine then_n ?_
  refine sq ?_
  refine reg ?_
  refine pRun_ok (tb := tab) (n := 16) tabOk 2 _ _ hf rfl rfl fun a hf => ?_
  refine wl_end ?_
  refine then_n ?_
  refine wp_ret (?_)
  obtain rfl := Option.some.inj hF
  refine ret_1 (fn := Try.f108) (r := .tmp 2) hf rfl (rv_tmp hf rfl) ?_
  exact ⟨_, rfl, H.below, mk_int⟩

/- loop.example/g00897/spec.LevelOf -/
set_option maxHeartbeats 1000000 in
theorem spec_LevelOf_ok {fu : Nat} {w0 : World} {S : Nat → Prop} {v0_ : Value} {value : Int} {r : Int × Bool} (h0 : VR w0 S v0_ value) (hF : spec_LevelOf fu value = some r) :
    Calls Try.prog 33 [v0_].toArray w0 fun e w' => ∃ v, e = .returned v ∧ (Below w0.heap.size w0 w' ∧ ∃ u0 u1, v = .tuple #[u0, u1] ∧ VR w' (St w0 S [] [] true) u0 r.1 ∧ VR w' (St w0 S [] [] true) u1 r.2) := by
  obtain rfl := VR_int h0
  have H := Mem.start w0 S
  refine enter Try.func33 rfl rfl (nle rfl) rfl fun a hf => ?_
  rw [spec_LevelOf] at hF
  refine sq ?_
  refine reg ?_
  refine pRun_ok (tb := tab) (n := 9) tabOk 2 _ _ hf rfl rfl fun a hf => ?_
  refine wl_end ?_
  refine then_n ?_
  refine sq ?_
  refine sq ?_
  refine reg ?_
  refine pRun_ok (tb := tab) (n := 9) tabOk 1 _ _ hf rfl rfl fun a hf => ?_
  obtain ⟨y, hy, hF⟩ := bind_some hF
  refine wl0 rfl (op_call hf TF.cl97 rfl (by decide) (spec_l1In_ok (S := fun _ => True) mk_int mk_int mk_int hy) fun v w a hp hf => ?_)
  obtain ⟨hb, hp⟩ := hp
  obtain rfl := VR_bool hp
  have H := H.keep hb
  refine pRun_ok (tb := tab) (n := 9) tabOk 1 _ _ hf rfl rfl fun a hf => ?_
  refine wl_end ?_
  refine then_n ?_
  refine (Bool.eq_false_or_eq_true (!y)).elim (fun hc => ?_) (fun hc => ?_)
  · rw [if_pos hc] at hF
    refine cd_t hf rfl hc ?_
    refine sq ?_
    refine reg ?_
    refine pRun_ok (tb := tab) (n := 9) tabOk 2 _ _ hf rfl rfl fun a hf => ?_
    refine wl_end ?_
    refine then_n ?_
    refine wp_ret (then_r (?_))
    obtain rfl := Option.some.inj hF
    refine ret_2 (fn := Try.f33) (r := .tmp 2) (s := .tmp 3) hf rfl (rv_tmp hf rfl) (rv_tmp hf rfl) ?_
    exact ⟨_, rfl, H.below, _, _, rfl, mk_int, mk_bool⟩
  · rw [if_neg (nt hc)] at hF
    refine cd_f hf rfl hc ?_
    refine wp_skip ?_
    refine then_n ?_
    refine sq ?_
    refine reg ?_
    refine pRun_ok (tb := tab) (n := 9) tabOk 1 _ _ hf rfl rfl fun a hf => ?_
    obtain ⟨y2, hy2, hF⟩ := bind_some hF
    refine wl0 rfl (op_call hf TF.cl108 rfl (by decide) (spec_l22Of_ok (S := fun _ => True) mk_int hy2) fun v2 w a hp2 hf => ?_)
    obtain ⟨hb2, hp2⟩ := hp2
    obtain rfl := VR_int hp2
    have H := H.keep hb2
    refine pRun_ok (tb := tab) (n := 9) tabOk 2 _ _ hf rfl rfl fun a hf => ?_
    refine wl_end ?_
    refine then_n ?_
    refine wp_ret (?_)
    obtain rfl := Option.some.inj hF
    refine ret_2 (fn := Try.f33) (r := .tmp 2) (s := .tmp 3) hf rfl (rv_tmp hf rfl) (rv_tmp hf rfl) ?_
    exact ⟨_, rfl, H.below, _, _, rfl, mk_int, mk_bool⟩

/- loop.example/g00897/impl.LevelOf -/
set_option maxHeartbeats 1000000 in
theorem impl_LevelOf_ok {fu : Nat} {w0 : World} {S : Nat → Prop} {v0_ : Value} {value : Int} {r : Int × Bool} (h0 : VR w0 S v0_ value) (hF : impl_LevelOf fu value = some r) :
    Calls Try.prog 34 [v0_].toArray w0 fun e w' => ∃ v, e = .returned v ∧ (Below w0.heap.size w0 w' ∧ ∃ u0 u1, v = .tuple #[u0, u1] ∧ VR w' (St w0 S [] [] true) u0 r.1 ∧ VR w' (St w0 S [] [] true) u1 r.2) := by
  obtain rfl := VR_int h0
  have H := Mem.start w0 S
  refine enter Try.func34 rfl rfl (nle rfl) rfl fun a hf => ?_
  rw [impl_LevelOf] at hF
  refine sq ?_
  refine reg ?_
  refine pRun_ok (tb := tab) (n := 21) tabOk 2 _ _ hf rfl rfl fun a hf => ?_
  refine wl_end ?_
  refine then_n ?_
  refine sq ?_
  refine sq ?_
  refine reg ?_
  refine pRun_ok (tb := tab) (n := 21) tabOk 1 _ _ hf rfl rfl fun a hf => ?_
  obtain ⟨y, hy, hF⟩ := bind_some hF
  refine wl0 rfl (op_call hf TF.cl98 rfl (by decide) (impl_within_ok (S := fun _ => True) mk_int mk_int mk_int hy) fun v w a hp hf => ?_)
  obtain ⟨hb, hp⟩ := hp
  obtain rfl := VR_bool hp
  have H := H.keep hb
  refine pRun_ok (tb := tab) (n := 21) tabOk 1 _ _ hf rfl rfl fun a hf => ?_
  refine wl_end ?_
  refine then_n ?_
  refine (Bool.eq_false_or_eq_true (!y)).elim (fun hc => ?_) (fun hc => ?_)
  · rw [if_pos hc] at hF
    refine cd_t hf rfl hc ?_
    refine sq ?_
    refine reg ?_
    refine pRun_ok (tb := tab) (n := 21) tabOk 2 _ _ hf rfl rfl fun a hf => ?_
    refine wl_end ?_
    refine then_n ?_
    refine wp_ret (then_r (?_))
    obtain rfl := Option.some.inj hF
    refine ret_2 (fn := Try.f34) (r := .tmp 2) (s := .tmp 3) hf rfl (rv_tmp hf rfl) (rv_tmp hf rfl) ?_
    exact ⟨_, rfl, H.below, _, _, rfl, mk_int, mk_bool⟩
  · rw [if_neg (nt hc)] at hF
    refine cd_f hf rfl hc ?_
    refine wp_skip ?_
    refine then_n ?_
    refine sq ?_
    refine reg ?_
    refine pRun_ok (tb := tab) (n := 21) tabOk 1 _ _ hf rfl rfl fun a hf => ?_
    refine wl_end ?_
    refine then_n ?_
    refine sq ?_
    obtain ⟨out', hB1, hF⟩ := bind_some hF
    have hf := hf.prune [0, 4] rfl
    have H := H.let [] [] []
    have hI : (fun (s : Int) (a : Act) (w : World) => match s with | level => Fr a 21 [(0, (.int .i64 value)), (4, (.int .i64 level))] ∧ Mem w0 S [] [] [] w) 0 a w := ⟨hf, H⟩
    refine mid (fun a w => ∃ s : Int, out' = s ∧ (fun (s : Int) (a : Act) (w : World) => match s with | level => Fr a 21 [(0, (.int .i64 value)), (4, (.int .i64 level))] ∧ Mem w0 S [] [] [] w) s a w) ?_ ?_
    · refine wp_block ?_
      refine loop_rule (fun k (s : Int) => impl_LevelOf_L1 fu value k s = some out') (fun (s : Int) (a : Act) (w : World) => match s with | level => Fr a 21 [(0, (.int .i64 value)), (4, (.int .i64 level))] ∧ Mem w0 S [] [] [] w) (fun s h => by cases h) ?_ fu 0 a w hB1 hI
      rintro fk level a w hR1 hI
      replace hR1 : impl_LevelOf_L1 fu value (fk + 1) level = some out' := hR1
      rw [impl_LevelOf_L1] at hR1
      obtain ⟨hf, H⟩ := hI
      refine sq ?_
      refine sq ?_
      obtain ⟨c, hGc, hR1⟩ := bind_some hR1
      refine mid (fun a w => Fr a 21 [(0, (.int .i64 value)), (4, (.int .i64 level)), (17, (.bool c))] ∧ Mem w0 S [] [] [] w) ?_ ?_
      · refine reg ?_
        refine pRun_ok (tb := tab) (n := 21) tabOk 2 _ _ hf rfl rfl fun a hf => ?_
        obtain ⟨y2, hy2, hGc⟩ := bind_some hGc
        refine wl0 rfl (op_call hf TF.cl104 rfl (by decide) (impl_hasLinear_ok (S := fun _ => True) mk_int hy2) fun v2 w a hp2 hf => ?_)
        obtain ⟨hb2, hp2⟩ := hp2
        obtain rfl := VR_bool hp2
        have H := H.keep hb2
        refine pRun_ok (tb := tab) (n := 21) tabOk 1 _ _ hf rfl rfl fun a hf => ?_
        refine (Bool.eq_false_or_eq_true (y2)).elim (fun hc2 => ?_) (fun hc2 => ?_)
        · rw [if_pos hc2] at hGc
          have hf := hf.lit 11 rfl hc2
          refine pRun_ok (tb := tab) (n := 21) tabOk 2 _ _ hf rfl rfl fun a hf => ?_
          obtain ⟨y3, hy3, hGc⟩ := bind_some hGc
          refine wlg hf rfl rfl rfl (op_call hf TF.cl105 rfl (by decide) (impl_linear_ok (S := fun _ => True) mk_int hy3) fun v3 w a hp3 hf => ?_)
          obtain ⟨hb3, hp3⟩ := hp3
          obtain rfl := VR_int hp3
          have H := H.keep hb3
          refine pRun_ok (tb := tab) (n := 21) tabOk 3 _ _ hf rfl rfl fun a hf => ?_
          obtain rfl := Option.some.inj hGc
          have hf := hf.prune [0, 4, 17] rfl
          have H := H.let [] [] []
          exact wl_end ⟨hf, H⟩
        · rw [if_neg (nt hc2)] at hGc
          have hf := hf.lit 11 rfl hc2
          refine pRun_ok (tb := tab) (n := 21) tabOk 6 _ _ hf rfl rfl fun a hf => ?_
          obtain rfl := Option.some.inj hGc
          have hf := hf.prune [0, 4, 17] rfl
          have H := H.let [] [] []
          exact wl_end ⟨hf, H⟩
      rintro a w ⟨hf, H⟩
      refine then_n ?_
      refine (Bool.eq_false_or_eq_true (c)).elim (fun hc3 => ?_) (fun hc3 => ?_)
      · rw [if_pos hc3] at hR1
        refine cd_t hf rfl hc3 ?_
        refine wp_skip ?_
        refine then_n ?_
        refine wp_block ?_
        refine reg ?_
        refine pRun_ok (tb := tab) (n := 21) tabOk 3 _ _ hf rfl rfl fun a hf => ?_
        refine wl_end ?_
        refine blk_n ?_
        have hf := hf.prune [0, 4] rfl
        have H := H.let [] [] []
        exact then_n ⟨w64 (level + 100), hR1, hf, H⟩
      · rw [if_neg (nt hc3)] at hR1
        refine cd_f hf rfl hc3 ?_
        refine wp_exit (then_x (then_x (blk_e (?_))))
        have hf := hf.prune [0, 4] rfl
        have H := H.let [] [] []
        exact ⟨level, (Option.some.inj hR1).symm, hf, H⟩
    rintro a w ⟨level2, rfl, hf, H⟩
    refine then_n ?_
    refine sq ?_
    refine reg ?_
    refine pRun_ok (tb := tab) (n := 21) tabOk 3 _ _ hf rfl rfl fun a hf => ?_
    refine wl_end ?_
    refine then_n ?_
    refine wp_ret (?_)
    obtain rfl := Option.some.inj hF
    refine ret_2 (fn := Try.f34) (r := .tmp 2) (s := .tmp 3) hf rfl (rv_tmp hf rfl) (rv_tmp hf rfl) ?_
    exact ⟨_, rfl, H.below, _, _, rfl, mk_int, mk_bool⟩

/- loop.example/g00897/laws.FnExactLevelOf -/
set_option maxHeartbeats 1000000 in
theorem laws_FnExactLevelOf_ok {fu : Nat} {w0 : World} {S : Nat → Prop} {v0_ : Value} {aValue : Int} {r : Bool} (h0 : VR w0 S v0_ aValue) (hF : laws_FnExactLevelOf fu aValue = some r) :
    Calls Try.prog 7 [v0_].toArray w0 fun e w' => ∃ v, e = .returned v ∧ (Below w0.heap.size w0 w' ∧ VR w' (St w0 S [] [] true) v r) := by
  obtain rfl := VR_int h0
  have H := Mem.start w0 S
  refine enter Try.func7 rfl rfl (nle rfl) rfl fun a hf => ?_
  rw [laws_FnExactLevelOf] at hF
  refine sq ?_
  refine reg ?_
  refine pRun_ok (tb := tab) (n := 25) tabOk 1 _ _ hf rfl rfl fun a hf => ?_
  refine wl_end ?_
  refine then_n ?_
  refine sq ?_
  refine reg ?_
  refine pRun_ok (tb := tab) (n := 25) tabOk 1 _ _ hf rfl rfl fun a hf => ?_
  obtain ⟨y, hy, hF⟩ := bind_some hF
  refine wl0 rfl (op_call hf TF.cl33 rfl (by decide) (spec_LevelOf_ok (S := fun _ => True) mk_int hy) fun v w a hp hf => ?_)
  obtain ⟨hb, v2, v3, rfl, hp2, hp3⟩ := hp
  obtain rfl := VR_int hp2
  obtain rfl := VR_bool hp3
  have H := H.keep hb
  refine pRun_ok (tb := tab) (n := 25) tabOk 5 _ _ hf rfl rfl fun a hf => ?_
  refine wl_end ?_
  refine then_n ?_
  refine sq ?_
  refine reg ?_
  refine pRun_ok (tb := tab) (n := 25) tabOk 1 _ _ hf rfl rfl fun a hf => ?_
  obtain ⟨y2, hy2, hF⟩ := bind_some hF
  refine wl0 rfl (op_call hf TF.cl34 rfl (by decide) (impl_LevelOf_ok (S := fun _ => True) mk_int hy2) fun v4 w a hp4 hf => ?_)
  obtain ⟨hb2, v5, v6, rfl, hp5, hp6⟩ := hp4
  obtain rfl := VR_int hp5
  obtain rfl := VR_bool hp6
  have H := H.keep hb2
  refine pRun_ok (tb := tab) (n := 25) tabOk 5 _ _ hf rfl rfl fun a hf => ?_
  refine wl_end ?_
  refine then_n ?_
  refine sq ?_
  refine sq ?_
  obtain ⟨c, hGc, hF⟩ := bind_some hF
  refine mid (fun a w => Fr a 25 [(24, (.bool c))] ∧ Mem w0 S [] [] [] w) ?_ ?_
  · refine reg ?_
    refine pRun_ok (tb := tab) (n := 25) tabOk 4 _ _ hf rfl rfl fun a hf => ?_
    refine (Bool.eq_false_or_eq_true (y2.1 != y.1)).elim (fun hc => ?_) (fun hc => ?_)
    · rw [if_pos hc] at hGc
      have hf := hf.lit 20 rfl hc
      refine pRun_ok (tb := tab) (n := 25) tabOk 4 _ _ hf rfl rfl fun a hf => ?_
      obtain rfl := Option.some.inj hGc
      have hf := hf.prune [24] rfl
      have H := H.let [] [] []
      exact wl_end ⟨hf, H⟩
    · rw [if_neg (nt hc)] at hGc
      have hf := hf.lit 20 rfl hc
      refine pRun_ok (tb := tab) (n := 25) tabOk 4 _ _ hf rfl rfl fun a hf => ?_
      obtain rfl := Option.some.inj hGc
      have hf := hf.prune [24] rfl
      have H := H.let [] [] []
      exact wl_end ⟨hf, H⟩
  rintro a w ⟨hf, H⟩
  refine then_n ?_
  refine (Bool.eq_false_or_eq_true (c)).elim (fun hc2 => ?_) (fun hc2 => ?_)
  · rw [if_pos hc2] at hF
    refine cd_t hf rfl hc2 ?_
    refine sq ?_
    refine reg ?_
    refine pRun_ok (tb := tab) (n := 25) tabOk 1 _ _ hf rfl rfl fun a hf => ?_
    refine wl_end ?_
    refine then_n ?_
    refine wp_ret (then_r (?_))
    obtain rfl := Option.some.inj hF
    refine ret_1 (fn := Try.f7) (r := .tmp 2) hf rfl (rv_tmp hf rfl) ?_
    exact ⟨_, rfl, H.below, mk_bool⟩
  · rw [if_neg (nt hc2)] at hF
    refine cd_f hf rfl hc2 ?_
    refine wp_skip ?_
    refine then_n ?_
    refine sq ?_
    refine reg ?_
    refine pRun_ok (tb := tab) (n := 25) tabOk 1 _ _ hf rfl rfl fun a hf => ?_
    refine wl_end ?_
    refine then_n ?_
    refine wp_ret (?_)
    obtain rfl := Option.some.inj hF
    refine ret_1 (fn := Try.f7) (r := .tmp 2) hf rfl (rv_tmp hf rfl) ?_
    exact ⟨_, rfl, H.below, mk_bool⟩
end AT
