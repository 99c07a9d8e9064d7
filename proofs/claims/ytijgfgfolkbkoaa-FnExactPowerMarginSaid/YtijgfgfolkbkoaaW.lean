/- The Go functions do what is told of them, by program (gen.py). -/
import Derived.Test.YtijgfgfolkbkoaaW0
set_option linter.unusedVariables false
set_option linter.unusedSimpArgs false
set_option maxRecDepth 100000
namespace AT
open Go Go.RowKit Go.Proofs

/- loop.example/g00897/laws.FnExactPowerMargin -/
set_option maxHeartbeats 1000000 in
theorem laws_FnExactPowerMargin_ok {fu : Nat} {w0 : World} {S : Nat → Prop} {v0_ : Value} {v1_ : Value} {v2_ : Value} {v3_ : Value} {aLine : List Span} {aList : List Amplifier} {aLaunch : Int} {aNeed : Int} {r : Bool} (h0 : VR w0 S v0_ aLine) (h1 : VR w0 S v1_ aList) (h2 : VR w0 S v2_ aLaunch) (h3 : VR w0 S v3_ aNeed) (hF : laws_FnExactPowerMargin fu aLine aList aLaunch aNeed = some r) :
    Calls Try.prog 20 [v0_, v1_, v2_, v3_].toArray w0 fun e w' => ∃ v, e = .returned v ∧ (Below w0.heap.size w0 w' ∧ VR w' (St ⟨w0, []⟩ S [] [] [] true) v r) := by
  obtain ⟨A, c, rfl, hl⟩ := VR_list h0
  obtain ⟨A2, c2, rfl, hl2⟩ := VR_list h1
  obtain rfl := VR_int h2
  obtain rfl := VR_int h3
  have H := Mem.start ⟨w0, []⟩ S
  have H := H.pushArg (MP.val [(.slice A aLine.length c)] aLine) hl
  have H := H.pushArg (MP.val [(.slice A2 aList.length c2)] aList) hl2
  refine enter Try.func20 rfl rfl (nle rfl) rfl fun a hf => ?_
  rw [laws_FnExactPowerMargin] at hF
  refine sq ?_
  refine reg ?_
  refine pRun_ok (tb := tab) (n := 66) tabOk 1 _ _ hf rfl rfl fun a hf => ?_
  refine wl_end ?_
  refine then_n ?_
  refine sq ?_
  refine reg ?_
  refine pRun_ok (tb := tab) (n := 66) tabOk 1 _ _ hf rfl rfl fun a hf => ?_
  refine wl_end ?_
  refine then_n ?_
  refine sq ?_
  refine reg ?_
  refine pRun_ok (tb := tab) (n := 66) tabOk 2 _ _ hf rfl rfl fun a hf => ?_
  obtain ⟨y, hy, hF⟩ := bind_some hF
  refine wl0 rfl (op_call hf TF.cl80 rfl (by decide) (laws_szSpanS_ok (S := fun _ => True) (mk_list (rep_true (α := List Span) (H.get 1 rfl))) mk_int hy) fun v w a hp hf => ?_)
  obtain ⟨hb, hp⟩ := hp
  obtain rfl := VR_int hp
  have H := H.keep hb
  refine pRun_ok (tb := tab) (n := 66) tabOk 1 _ _ hf rfl rfl fun a hf => ?_
  refine wl_end ?_
  refine then_n ?_
  refine sq ?_
  refine sq ?_
  refine reg ?_
  refine pRun_ok (tb := tab) (n := 66) tabOk 2 _ _ hf rfl rfl fun a hf => ?_
  refine wl_end ?_
  refine then_n ?_
  refine (Bool.eq_false_or_eq_true (decide (y < 0))).elim (fun hc => ?_) (fun hc => ?_)
  · rw [if_pos hc] at hF
    refine cd_t hf rfl hc ?_
    refine sq ?_
    refine reg ?_
    refine pRun_ok (tb := tab) (n := 66) tabOk 1 _ _ hf rfl rfl fun a hf => ?_
    refine wl_end ?_
    refine then_n ?_
    refine wp_ret (then_r (?_))
    obtain rfl := Option.some.inj hF
    refine ret_1 (fn := Try.f20) (r := .tmp 8) hf rfl (rv_tmp hf rfl) ?_
    exact ⟨_, rfl, H.bel, mk_bool⟩
  · rw [if_neg (nt hc)] at hF
    refine cd_f hf rfl hc ?_
    refine wp_skip ?_
    refine then_n ?_
    refine sq ?_
    refine reg ?_
    refine pRun_ok (tb := tab) (n := 66) tabOk 2 _ _ hf rfl rfl fun a hf => ?_
    obtain ⟨y2, hy2, hF⟩ := bind_some hF
    refine wl0 rfl (op_call hf TF.cl54 rfl (by decide) (laws_szAmplifierS_ok (S := fun _ => True) (mk_list (rep_true (α := List Amplifier) (H.get 0 rfl))) mk_int hy2) fun v2 w a hp2 hf => ?_)
    obtain ⟨hb2, hp2⟩ := hp2
    obtain rfl := VR_int hp2
    have H := H.keep hb2
    refine pRun_ok (tb := tab) (n := 66) tabOk 1 _ _ hf rfl rfl fun a hf => ?_
    refine wl_end ?_
    refine then_n ?_
    refine sq ?_
    refine sq ?_
    refine reg ?_
    refine pRun_ok (tb := tab) (n := 66) tabOk 2 _ _ hf rfl rfl fun a hf => ?_
    refine wl_end ?_
    refine then_n ?_
    refine (Bool.eq_false_or_eq_true (decide (y2 < 0))).elim (fun hc2 => ?_) (fun hc2 => ?_)
    · rw [if_pos hc2] at hF
      refine cd_t hf rfl hc2 ?_
      refine sq ?_
      refine reg ?_
      refine pRun_ok (tb := tab) (n := 66) tabOk 1 _ _ hf rfl rfl fun a hf => ?_
      have hf := hf.prune [8] rfl
      refine wl_end ?_
      refine then_n ?_
      refine wp_ret (then_r (?_))
      obtain rfl := Option.some.inj hF
      refine ret_1 (fn := Try.f20) (r := .tmp 8) hf rfl (rv_tmp hf rfl) ?_
      exact ⟨_, rfl, H.bel, mk_bool⟩
    · rw [if_neg (nt hc2)] at hF
      refine cd_f hf rfl hc2 ?_
      refine wp_skip ?_
      refine then_n ?_
      refine sq ?_
      refine reg ?_
      refine pRun_ok (tb := tab) (n := 66) tabOk 1 _ _ hf rfl rfl fun a hf => ?_
      obtain ⟨y3, hy3, hF⟩ := bind_some hF
      refine wl0 rfl (op_call hf TF.cl82 rfl (by decide) (laws_toSpanS_ok (S := fun _ => True) (mk_list (rep_true (α := List Span) (H.get 1 rfl))) hy3) fun v3 w a hp3 hf => ?_)
      obtain ⟨hb3, F, hp4, hN⟩ := hp3
      obtain ⟨A3, c3, rfl, hl3⟩ := VO_list hp4
      have H := H.addOwn hb3 (X := [(⟨F, MP.own F [(.slice A3 y3.length c3)] (y3 : List Span)⟩ : DI)]) (by simpa using hN.1) (ps1 hl3 ps0) (by simpa using hN.2)
      have H := H.lend 0 rfl
      refine pRun_ok (tb := tab) (n := 66) tabOk 1 _ _ hf rfl rfl fun a hf => ?_
      obtain ⟨y4, hy4, hF⟩ := bind_some hF
      refine wl0 rfl (op_call hf TF.cl56 rfl (by decide) (laws_toAmplifierS_ok (S := fun _ => True) (mk_list (rep_true (α := List Amplifier) (H.get 1 rfl))) hy4) fun v4 w a hp5 hf => ?_)
      obtain ⟨hb4, F3, hp6, hN2⟩ := hp5
      obtain ⟨A4, c4, rfl, hl4⟩ := VO_list hp6
      have H := H.addOwn hb4 (X := [(⟨F3, MP.own F3 [(.slice A4 y4.length c4)] (y4 : List Amplifier)⟩ : DI)]) (by simpa using hN2.1) (ps1 hl4 ps0) (by simpa using hN2.2)
      have H := H.lend 0 rfl
      refine pRun_ok (tb := tab) (n := 66) tabOk 2 _ _ hf rfl rfl fun a hf => ?_
      obtain ⟨y5, hy5, hF⟩ := bind_some hF
      refine wl0 rfl (op_call hf TF.cl89 rfl (by decide) (spec_PowerMargin_ok (S := fun _ => True) (mk_list (rep_true (α := List Span) (H.get 1 rfl))) (mk_list (rep_true (α := List Amplifier) (H.get 0 rfl))) mk_int mk_int hy5) fun v5 w a hp7 hf => ?_)
      obtain ⟨hb5, v6, v7, rfl, hp8, hp9⟩ := hp7
      obtain rfl := VR_int hp8
      obtain rfl := VR_bool hp9
      have H := H.keep hb5
      refine pRun_ok (tb := tab) (n := 66) tabOk 5 _ _ hf rfl rfl fun a hf => ?_
      have hf := hf.prune [0, 1, 2, 3, 10, 11] rfl
      refine wl_end ?_
      refine then_n ?_
      refine sq ?_
      refine reg ?_
      refine pRun_ok (tb := tab) (n := 66) tabOk 1 _ _ hf rfl rfl fun a hf => ?_
      obtain ⟨y6, hy6, hF⟩ := bind_some hF
      refine wl0 rfl (op_call hf TF.cl82 rfl (by decide) (laws_toSpanS_ok (S := fun _ => True) (mk_list (rep_true (α := List Span) (H.get 3 rfl))) hy6) fun v8 w a hp10 hf => ?_)
      obtain ⟨hb6, F5, hp11, hN3⟩ := hp10
      obtain ⟨A5, c5, rfl, hl5⟩ := VO_list hp11
      have H := H.addOwn hb6 (X := [(⟨F5, MP.own F5 [(.slice A5 y6.length c5)] (y6 : List Span)⟩ : DI)]) (by simpa using hN3.1) (ps1 hl5 ps0) (by simpa using hN3.2)
      have H := H.lend 0 rfl
      refine pRun_ok (tb := tab) (n := 66) tabOk 1 _ _ hf rfl rfl fun a hf => ?_
      refine wl_end ?_
      refine then_n ?_
      refine sq ?_
      refine reg ?_
      refine pRun_ok (tb := tab) (n := 66) tabOk 1 _ _ hf rfl rfl fun a hf => ?_
      obtain ⟨y7, hy7, hF⟩ := bind_some hF
      refine wl0 rfl (op_call hf TF.cl56 rfl (by decide) (laws_toAmplifierS_ok (S := fun _ => True) (mk_list (rep_true (α := List Amplifier) (H.get 3 rfl))) hy7) fun v9 w a hp12 hf => ?_)
      obtain ⟨hb7, F7, hp13, hN4⟩ := hp12
      obtain ⟨A6, c6, rfl, hl6⟩ := VO_list hp13
      have H := H.addOwn hb7 (X := [(⟨F7, MP.own F7 [(.slice A6 y7.length c6)] (y7 : List Amplifier)⟩ : DI)]) (by simpa using hN4.1) (ps1 hl6 ps0) (by simpa using hN4.2)
      have H := H.lend 0 rfl
      refine pRun_ok (tb := tab) (n := 66) tabOk 1 _ _ hf rfl rfl fun a hf => ?_
      refine wl_end ?_
      refine then_n ?_
      refine sq ?_
      refine reg ?_
      refine pRun_ok (tb := tab) (n := 66) tabOk 4 _ _ hf rfl rfl fun a hf => ?_
      obtain ⟨y8, hy8, hF⟩ := bind_some hF
      refine wl0 rfl (op_call hf TF.cl90 rfl (by decide) (impl_PowerMargin_ok (S := fun _ => True) (mk_list (rep_true (α := List Span) (H.get 1 rfl))) (mk_list (rep_true (α := List Amplifier) (H.get 0 rfl))) mk_int mk_int hy8) fun v10 w a hp14 hf => ?_)
      obtain ⟨hb8, v11, v12, rfl, hp15, hp16⟩ := hp14
      obtain rfl := VR_int hp15
      obtain rfl := VR_bool hp16
      have H := H.keep hb8
      refine pRun_ok (tb := tab) (n := 66) tabOk 5 _ _ hf rfl rfl fun a hf => ?_
      have hf := hf.prune [0, 1, 10, 11, 12, 13, 14, 15] rfl
      refine wl_end ?_
      refine then_n ?_
      refine sq ?_
      refine sq ?_
      obtain ⟨c7, hGc7, hF⟩ := bind_some hF
      refine mid (fun a w => Fr a 66 [(0, (.slice A aLine.length c)), (1, (.slice A2 aList.length c2)), (12, (.slice A5 y6.length c5)), (13, (.slice A6 y7.length c6)), (55, (.bool c7))] ∧ Mem ⟨w0, []⟩ S [] [] [⟨F7, MP.own F7 [(.slice A6 y7.length c6)] (y7 : List Amplifier)⟩, ⟨F5, MP.own F5 [(.slice A5 y6.length c5)] (y6 : List Span)⟩] [(true, MP.val [(.slice A6 y7.length c6)] (y7 : List Amplifier)), (true, MP.val [(.slice A5 y6.length c5)] (y6 : List Span)), (false, MP.val [(.slice A2 aList.length c2)] (aList : List Amplifier)), (false, MP.val [(.slice A aLine.length c)] (aLine : List Span))] w) ?_ ?_
      · refine reg ?_
        refine pRun_ok (tb := tab) (n := 66) tabOk 4 _ _ hf rfl rfl fun a hf => ?_
        refine (Bool.eq_false_or_eq_true (y8.1 != y5.1)).elim (fun hc3 => ?_) (fun hc3 => ?_)
        · rw [if_pos hc3] at hGc7
          have hf := hf.lit 51 rfl hc3
          refine pRun_ok (tb := tab) (n := 66) tabOk 4 _ _ hf rfl rfl fun a hf => ?_
          obtain rfl := Option.some.inj hGc7
          have hf := hf.prune [0, 1, 12, 13, 55] rfl
          have H := H.let [] [] [true, true, false, false] [0, 1, 4, 5]
          exact wl_end ⟨hf, H⟩
        · rw [if_neg (nt hc3)] at hGc7
          have hf := hf.lit 51 rfl hc3
          refine pRun_ok (tb := tab) (n := 66) tabOk 4 _ _ hf rfl rfl fun a hf => ?_
          obtain rfl := Option.some.inj hGc7
          have hf := hf.prune [0, 1, 12, 13, 55] rfl
          have H := H.let [] [] [true, true, false, false] [0, 1, 4, 5]
          exact wl_end ⟨hf, H⟩
      rintro a w ⟨hf, H⟩
      refine then_n ?_
      refine (Bool.eq_false_or_eq_true (c7)).elim (fun hc4 => ?_) (fun hc4 => ?_)
      · rw [if_pos hc4] at hF
        refine cd_t hf rfl hc4 ?_
        refine sq ?_
        refine reg ?_
        refine pRun_ok (tb := tab) (n := 66) tabOk 1 _ _ hf rfl rfl fun a hf => ?_
        refine wl_end ?_
        refine then_n ?_
        refine wp_ret (then_r (?_))
        obtain rfl := Option.some.inj hF
        refine ret_1 (fn := Try.f20) (r := .tmp 8) hf rfl (rv_tmp hf rfl) ?_
        exact ⟨_, rfl, H.bel, mk_bool⟩
      · rw [if_neg (nt hc4)] at hF
        refine cd_f hf rfl hc4 ?_
        refine wp_skip ?_
        refine then_n ?_
        refine sq ?_
        refine sq ?_
        refine reg ?_
        refine pRun_ok (tb := tab) (n := 66) tabOk 2 _ _ hf rfl rfl fun a hf => ?_
        obtain ⟨y9, hy9, hF⟩ := bind_some hF
        refine wl0 rfl (op_call hf TF.cl82 rfl (by decide) (laws_toSpanS_ok (S := fun _ => True) (mk_list (rep_true (α := List Span) (H.get 3 rfl))) hy9) fun v13 w a hp17 hf => ?_)
        obtain ⟨hb9, F9, hp18, hN5⟩ := hp17
        obtain ⟨A7, c8, rfl, hl7⟩ := VO_list hp18
        have H := H.addOwn hb9 (X := [(⟨F9, MP.own F9 [(.slice A7 y9.length c8)] (y9 : List Span)⟩ : DI)]) (by simpa using hN5.1) (ps1 hl7 ps0) (by simpa using hN5.2)
        have H := H.lend 0 rfl
        obtain ⟨y10, hy10, hF⟩ := bind_some hF
        refine wl0 rfl (op_call hf TF.cl85 rfl (by decide) (laws_eqSpanS_ok (S := fun _ => True) (mk_list (rep_true (α := List Span) (H.get 2 rfl))) (mk_list (rep_true (α := List Span) (H.get 0 rfl))) hy10) fun v14 w a hp19 hf => ?_)
        obtain ⟨hb10, hp19⟩ := hp19
        obtain rfl := VR_bool hp19
        have H := H.keep hb10
        refine pRun_ok (tb := tab) (n := 66) tabOk 1 _ _ hf rfl rfl fun a hf => ?_
        refine wl_end ?_
        refine then_n ?_
        refine (Bool.eq_false_or_eq_true (!y10)).elim (fun hc5 => ?_) (fun hc5 => ?_)
        · rw [if_pos hc5] at hF
          refine cd_t hf rfl hc5 ?_
          refine sq ?_
          refine reg ?_
          refine pRun_ok (tb := tab) (n := 66) tabOk 1 _ _ hf rfl rfl fun a hf => ?_
          refine wl_end ?_
          refine then_n ?_
          refine wp_ret (then_r (?_))
          obtain rfl := Option.some.inj hF
          refine ret_1 (fn := Try.f20) (r := .tmp 8) hf rfl (rv_tmp hf rfl) ?_
          exact ⟨_, rfl, H.bel, mk_bool⟩
        · rw [if_neg (nt hc5)] at hF
          refine cd_f hf rfl hc5 ?_
          refine wp_skip ?_
          refine then_n ?_
          refine sq ?_
          refine sq ?_
          refine reg ?_
          refine pRun_ok (tb := tab) (n := 66) tabOk 2 _ _ hf rfl rfl fun a hf => ?_
          obtain ⟨y11, hy11, hF⟩ := bind_some hF
          refine wl0 rfl (op_call hf TF.cl56 rfl (by decide) (laws_toAmplifierS_ok (S := fun _ => True) (mk_list (rep_true (α := List Amplifier) (H.get 3 rfl))) hy11) fun v15 w a hp20 hf => ?_)
          obtain ⟨hb11, F11, hp21, hN6⟩ := hp20
          obtain ⟨A8, c9, rfl, hl8⟩ := VO_list hp21
          have H := H.addOwn hb11 (X := [(⟨F11, MP.own F11 [(.slice A8 y11.length c9)] (y11 : List Amplifier)⟩ : DI)]) (by simpa using hN6.1) (ps1 hl8 ps0) (by simpa using hN6.2)
          have H := H.lend 0 rfl
          obtain ⟨y12, hy12, hF⟩ := bind_some hF
          refine wl0 rfl (op_call hf TF.cl58 rfl (by decide) (laws_eqAmplifierS_ok (S := fun _ => True) (mk_list (rep_true (α := List Amplifier) (H.get 2 rfl))) (mk_list (rep_true (α := List Amplifier) (H.get 0 rfl))) hy12) fun v16 w a hp22 hf => ?_)
          obtain ⟨hb12, hp22⟩ := hp22
          obtain rfl := VR_bool hp22
          have H := H.keep hb12
          refine pRun_ok (tb := tab) (n := 66) tabOk 1 _ _ hf rfl rfl fun a hf => ?_
          have hf := hf.prune [65] rfl
          refine wl_end ?_
          refine then_n ?_
          refine (Bool.eq_false_or_eq_true (!y12)).elim (fun hc6 => ?_) (fun hc6 => ?_)
          · rw [if_pos hc6] at hF
            refine cd_t hf rfl hc6 ?_
            refine sq ?_
            refine reg ?_
            refine pRun_ok (tb := tab) (n := 66) tabOk 1 _ _ hf rfl rfl fun a hf => ?_
            refine wl_end ?_
            refine then_n ?_
            refine wp_ret (then_r (?_))
            obtain rfl := Option.some.inj hF
            refine ret_1 (fn := Try.f20) (r := .tmp 8) hf rfl (rv_tmp hf rfl) ?_
            exact ⟨_, rfl, H.bel, mk_bool⟩
          · rw [if_neg (nt hc6)] at hF
            refine cd_f hf rfl hc6 ?_
            refine wp_skip ?_
            refine then_n ?_
            refine sq ?_
            refine reg ?_
            refine pRun_ok (tb := tab) (n := 66) tabOk 1 _ _ hf rfl rfl fun a hf => ?_
            refine wl_end ?_
            refine then_n ?_
            refine wp_ret (?_)
            obtain rfl := Option.some.inj hF
            refine ret_1 (fn := Try.f20) (r := .tmp 8) hf rfl (rv_tmp hf rfl) ?_
            exact ⟨_, rfl, H.bel, mk_bool⟩
end AT
