/- The Go functions do what is told of them, by program (gen.py). -/
import Derived.Test.YtijgfgfolkbkoaaT
set_option linter.unusedVariables false
set_option linter.unusedSimpArgs false
set_option maxRecDepth 100000
namespace AT
open Go Go.RowKit Go.Proofs

/- loop.example/g00897/laws.toIntS -/
set_option maxHeartbeats 1000000 in
theorem laws_toIntS_ok {fu : Nat} {w0 : World} {S : Nat → Prop} {v0_ : Value} {a' : List Int} {r : List Int} (h0 : VR w0 S v0_ a') (hF : laws_toIntS fu a' = some r) :
    Calls Try.prog 41 [v0_].toArray w0 fun e w' => ∃ v, e = .returned v ∧ (Below w0.heap.size w0 w' ∧ ∃ F0, VO w' F0 v r ∧ New w0 w' F0) := by
  obtain ⟨A, c, rfl, hl⟩ := VR_list h0
  have H := Mem.start ⟨w0, []⟩ S
  have H := H.pushArg (MP.val [(.slice A a'.length c)] a') hl
  refine enter Try.func41 rfl rfl (nle rfl) rfl fun a hf => ?_
  rw [laws_toIntS] at hF
  refine sq ?_
  refine reg ?_
  refine pRun_ok (tb := tab) (n := 22) tabOk 1 _ _ hf rfl rfl fun a hf => ?_
  refine wl_end ?_
  refine then_n ?_
  refine sq ?_
  refine reg ?_
  refine pRun_ok (tb := tab) (n := 22) tabOk 2 _ _ hf rfl rfl fun a hf => ?_
  obtain ⟨l, hl, hF⟩ := bind_some hF
  refine wl0 rfl (op_make (z0 := (0 : Int)) hf H Try.underlying35 TF.ai3 rfl (by decide) rfl rfl rfl hl (by decide) fun A2 c2 a w hf H => ?_)
  refine pRun_ok (tb := tab) (n := 22) tabOk 1 _ _ hf rfl rfl fun a hf => ?_
  refine wl_end ?_
  refine then_n ?_
  refine sq ?_
  refine sq ?_
  refine reg ?_
  refine pRun_ok (tb := tab) (n := 22) tabOk 1 _ _ hf rfl rfl fun a hf => ?_
  refine wl_end ?_
  refine then_n ?_
  obtain ⟨out2, hB1, hF⟩ := bind_some hF
  have hf := hf.prune [0, 3, 4] rfl
  have H := H.let [] [true] [] [0]
  have hI : (fun (s : List Int × Int) (a : Act) (w : World) => match s with | (out', i) => ∃ (A3 : Option Addr) (c3 : Nat), Fr a 22 [(0, (.slice A a'.length c)), (3, (.slice A3 out'.length c3)), (4, (.int .i64 i))] ∧ Mem ⟨w0, []⟩ S [] [⟨.sh true, 3, A3, c3, (out' : List Int)⟩] [] [(false, MP.val [(.slice A a'.length c)] (a' : List Int))] w) (l, 0) a w := ⟨A2, c2, hf, H⟩
  refine mid (fun a w => ∃ s : List Int × Int, out2 = s ∧ (fun (s : List Int × Int) (a : Act) (w : World) => match s with | (out', i) => ∃ (A3 : Option Addr) (c3 : Nat), Fr a 22 [(0, (.slice A a'.length c)), (3, (.slice A3 out'.length c3)), (4, (.int .i64 i))] ∧ Mem ⟨w0, []⟩ S [] [⟨.sh true, 3, A3, c3, (out' : List Int)⟩] [] [(false, MP.val [(.slice A a'.length c)] (a' : List Int))] w) s a w) ?_ ?_
  · refine wp_block ?_
    refine loop_rule (fun k (s : List Int × Int) => laws_toIntS_L1 fu a' k s.1 s.2 = some out2) (fun (s : List Int × Int) (a : Act) (w : World) => match s with | (out', i) => ∃ (A3 : Option Addr) (c3 : Nat), Fr a 22 [(0, (.slice A a'.length c)), (3, (.slice A3 out'.length c3)), (4, (.int .i64 i))] ∧ Mem ⟨w0, []⟩ S [] [⟨.sh true, 3, A3, c3, (out' : List Int)⟩] [] [(false, MP.val [(.slice A a'.length c)] (a' : List Int))] w) (fun s h => by cases h) ?_ fu (l, 0) a w hB1 hI
    rintro fk ⟨out', i⟩ a w hR1 hI
    replace hR1 : laws_toIntS_L1 fu a' (fk + 1) out' i = some out2 := hR1
    rw [laws_toIntS_L1] at hR1
    obtain ⟨A3, c3, hf, H⟩ := hI
    refine sq ?_
    refine sq ?_
    refine reg ?_
    refine pRun_ok (tb := tab) (n := 22) tabOk 4 _ _ hf rfl rfl fun a hf => ?_
    refine wl_end ?_
    refine then_n ?_
    refine (Bool.eq_false_or_eq_true (decide (i < (a'.length : Int)))).elim (fun hc => ?_) (fun hc => ?_)
    · rw [if_pos hc] at hR1
      refine cd_t hf rfl hc ?_
      refine wp_skip ?_
      refine then_n ?_
      refine sq ?_
      refine wp_block ?_
      refine reg ?_
      refine pRun_ok (tb := tab) (n := 22) tabOk 4 _ _ hf rfl rfl fun a hf => ?_
      obtain ⟨e, he, hR1⟩ := bind_some hR1
      refine wl0 rfl (op_iaddr hf H Try.underlying35 TF.sz3 0 rfl rfl rfl he (by decide) fun p o cs a hf hr H => ?_)
      obtain rfl := hr
      refine wl0 rfl (op_q hf (rq_loadI hf H TF.ls3 0 0 rfl rfl rfl) rfl (by decide) fun a hf => ?_)
      obtain ⟨e2, he2, hR1⟩ := bind_some hR1
      refine wl0 rfl (op_iaddrR hf H Try.underlying35 TF.sz3 0 rfl rfl rfl he2 (by decide) fun p2 o2 cs2 a hf hA hr2 hk => ?_)
      obtain rfl := hr2
      refine wl0 rfl (op_storeR (e' := e) hf H TF.sz3 0 rfl rfl rfl rfl rfl (nle rfl) rfl hA he2 (st_full rfl) fun w H => ?_)
      replace hf : Fr a 22 [(0, (.slice A a'.length c)), (3, (.slice A3 out'.length c3)), (4, (.int .i64 i)), (8, (.int .i64 i)), (9, (.slice A a'.length c)), (10, (.int .i64 (a'.length : Int))), (11, (.bool (decide (i < (a'.length : Int))))), (14, (.slice A3 out'.length c3)), (15, (.int .i64 i)), (16, (.slice A a'.length c)), (17, (.int .i64 i)), (18, (.pointer (some ⟨p, o + 0, none⟩))), (19, (.int .i64 e)), (20, (.pointer (some ⟨p2, o2 + 0, none⟩)))] := hf.prune [0, 3, 4, 8, 9, 10, 11, 14, 15, 16, 17, 18, 19, 20] rfl
      replace hf : Fr a 22 [(0, (.slice A a'.length c)), (3, (.slice A3 (out'.set (i).toNat e).length c3)), (4, (.int .i64 i)), (8, (.int .i64 i)), (9, (.slice A a'.length c)), (10, (.int .i64 (a'.length : Int))), (11, (.bool (decide (i < (a'.length : Int))))), (14, (.slice A3 (out'.set (i).toNat e).length c3)), (15, (.int .i64 i)), (16, (.slice A a'.length c)), (17, (.int .i64 i)), (18, (.pointer (some ⟨p, o + 0, none⟩))), (19, (.int .i64 e)), (20, (.pointer (some ⟨p2, o2 + 0, none⟩)))] := by simpa only [List.length_set, Nat.add_zero] using hf
      refine wl_end ?_
      refine blk_n ?_
      refine then_n ?_
      refine reg ?_
      refine pRun_ok (tb := tab) (n := 22) tabOk 3 _ _ hf rfl rfl fun a hf => ?_
      have hf := hf.prune [0, 3, 4] rfl
      refine wl_end ?_
      have hf := hf.prune [0, 3, 4] rfl
      have H := H.let [] [true] [] [1]
      exact then_n ⟨(out'.set (i).toNat e, w64 (i + 1)), hR1, A3, c3, hf, H⟩
    · rw [if_neg (nt hc)] at hR1
      refine cd_f hf rfl hc ?_
      refine wp_exit (then_x (then_x (blk_e (?_))))
      have hf := hf.prune [0, 3, 4] rfl
      have H := H.let [] [true] [] [0]
      exact ⟨(out', i), (Option.some.inj hR1).symm, A3, c3, hf, H⟩
  rintro a w ⟨⟨out3, i2⟩, rfl, A4, c4, hf, H⟩
  dsimp only at hF
  refine then_n ?_
  refine sq ?_
  refine reg ?_
  refine pRun_ok (tb := tab) (n := 22) tabOk 2 _ _ hf rfl rfl fun a hf => ?_
  refine wl_end ?_
  refine then_n ?_
  refine wp_ret (?_)
  have H := H.rowOwn 0 rfl rfl
  obtain ⟨F, H⟩ := H.freezeOwn 0 rfl
  have H := H.lend 0 rfl
  obtain rfl := Option.some.inj hF
  refine ret_1 (fn := Try.f41) (r := .tmp 2) hf rfl (rv_tmp hf rfl) ?_
  have hN : New w0 w F := by simpa using H.ends (X := [(⟨F, MP.own F [(.slice A4 out3.length c4)] (out3 : List Int)⟩ : DI)])
  exact ⟨_, rfl, H.bel, F, (mko_list (H.ownAt 0 rfl)), hN⟩

/- loop.example/g00897/spec.l1In -/
set_option maxHeartbeats 1000000 in
theorem spec_l1In_ok {fu : Nat} {w0 : World} {S : Nat → Prop} {v0_ : Value} {v1_ : Value} {v2_ : Value} {x1 : Int} {a' : Int} {b' : Int} {r : Bool} (h0 : VR w0 S v0_ x1) (h1 : VR w0 S v1_ a') (h2 : VR w0 S v2_ b') (hF : spec_l1In fu x1 a' b' = some r) :
    Calls Try.prog 97 [v0_, v1_, v2_].toArray w0 fun e w' => ∃ v, e = .returned v ∧ (Below w0.heap.size w0 w' ∧ VR w' (St ⟨w0, []⟩ S [] [] [] true) v r) := by
  obtain rfl := VR_int h0
  obtain rfl := VR_int h1
  obtain rfl := VR_int h2
  have H := Mem.start ⟨w0, []⟩ S
  refine enter Try.func97 rfl rfl (nle rfl) rfl fun a hf => ?_
  rw [spec_l1In] at hF
  refine sq ?_
  refine reg ?_
  refine pRun_ok (tb := tab) (n := 15) tabOk 1 _ _ hf rfl rfl fun a hf => ?_
  refine wl_end ?_
  refine then_n ?_
  refine sq ?_
  obtain ⟨c, hGc, hF⟩ := bind_some hF
  refine mid (fun a w => Fr a 15 [(6, (.bool c))] ∧ Mem ⟨w0, []⟩ S [] [] [] [] w) ?_ ?_
  · refine reg ?_
    refine pRun_ok (tb := tab) (n := 15) tabOk 4 _ _ hf rfl rfl fun a hf => ?_
    refine (Bool.eq_false_or_eq_true (decide (x1 ≥ a'))).elim (fun hc => ?_) (fun hc => ?_)
    · rw [if_pos hc] at hGc
      have hf := hf.lit 10 rfl hc
      refine pRun_ok (tb := tab) (n := 15) tabOk 5 _ _ hf rfl rfl fun a hf => ?_
      obtain rfl := Option.some.inj hGc
      have hf := hf.prune [6] rfl
      have H := H.let [] [] [] []
      exact wl_end ⟨hf, H⟩
    · rw [if_neg (nt hc)] at hGc
      have hf := hf.lit 10 rfl hc
      refine pRun_ok (tb := tab) (n := 15) tabOk 5 _ _ hf rfl rfl fun a hf => ?_
      obtain rfl := Option.some.inj hGc
      have hf := hf.prune [6] rfl
      have H := H.let [] [] [] []
      exact wl_end ⟨hf, H⟩
  rintro a w ⟨hf, H⟩
  refine then_n ?_
  refine wp_ret (?_)
  obtain rfl := Option.some.inj hF
  refine ret_1 (fn := Try.f97) (r := .tmp 6) hf rfl (rv_tmp hf rfl) ?_
  exact ⟨_, rfl, H.bel, mk_bool⟩

/- loop.example/g00897/spec.JustifyBuffer -/
set_option maxHeartbeats 1000000 in
theorem spec_JustifyBuffer_ok {fu : Nat} {w0 : World} {S : Nat → Prop} {v0_ : Value} {v1_ : Value} {v2_ : Value} {v3_ : Value} {v4_ : Value} {fill : Int} {writes : List Int} {size : Int} {low : Int} {high : Int} {r : List Int × List Int × Bool} (h0 : VR w0 S v0_ fill) (h1 : VR w0 S v1_ writes) (h2 : VR w0 S v2_ size) (h3 : VR w0 S v3_ low) (h4 : VR w0 S v4_ high) (hF : spec_JustifyBuffer fu fill writes size low high = some r) :
    Calls Try.prog 40 [v0_, v1_, v2_, v3_, v4_].toArray w0 fun e w' => ∃ v, e = .returned v ∧ (Below w0.heap.size w0 w' ∧ ∃ F0 F1, ∃ u0 u1 u2, v = .tuple #[u0, u1, u2] ∧ VO w' F0 u0 r.1 ∧ VO w' F1 u1 r.2.1 ∧ VR w' (St ⟨w0, []⟩ S [] [] [] true) u2 r.2.2 ∧ New w0 w' (F0 ++ F1)) := by
  obtain rfl := VR_int h0
  obtain ⟨A, c, rfl, hl⟩ := VR_list h1
  obtain rfl := VR_int h2
  obtain rfl := VR_int h3
  obtain rfl := VR_int h4
  have H := Mem.start ⟨w0, []⟩ S
  have H := H.pushArg (MP.val [(.slice A writes.length c)] writes) hl
  refine enter Try.func40 rfl rfl (nle rfl) rfl fun a hf => ?_
  rw [spec_JustifyBuffer] at hF
  refine sq ?_
  refine reg ?_
  refine pRun_ok (tb := tab) (n := 95) tabOk 3 _ _ hf rfl rfl fun a hf => ?_
  refine wl_end ?_
  refine then_n ?_
  refine sq ?_
  refine reg ?_
  refine wl0 rfl (op_bslice hf H (.sh true) rfl 3 ([] : List Int) [] rfl (fun w => by kernel_rfl) rfl (by decide) rfl trivial el0 (by decide) fun A2 a w hf H => ?_)
  refine wl0 rfl (op_bslice hf H (.sh true) rfl 3 ([] : List Int) [] rfl (fun w => by kernel_rfl) rfl (by decide) rfl trivial el0 (by decide) fun A3 a w hf H => ?_)
  refine pRun_ok (tb := tab) (n := 95) tabOk 2 _ _ hf rfl rfl fun a hf => ?_
  refine wl_end ?_
  refine then_n ?_
  refine sq ?_
  refine sq ?_
  obtain ⟨c2, hGc2, hF⟩ := bind_some hF
  refine mid (fun a w => Fr a 95 [(0, (.int .i64 fill)), (1, (.slice A writes.length c)), (2, (.int .i64 size)), (3, (.int .i64 low)), (4, (.int .i64 high)), (13, (.slice A2 0 0)), (14, (.slice A3 0 0)), (43, (.bool c2))] ∧ Mem ⟨w0, []⟩ S [] [⟨.sh true, 3, A3, 0, (([] : List Int) : List Int)⟩, ⟨.sh true, 3, A2, 0, (([] : List Int) : List Int)⟩] [] [(false, MP.val [(.slice A writes.length c)] (writes : List Int))] w) ?_ ?_
  · refine reg ?_
    refine pRun_ok (tb := tab) (n := 95) tabOk 1 _ _ hf rfl rfl fun a hf => ?_
    obtain ⟨y, hy, hGc2⟩ := bind_some hGc2
    refine wl0 rfl (op_call hf TF.cl97 rfl (by decide) (spec_l1In_ok (S := fun _ => True) mk_int mk_int mk_int hy) fun v w a hp hf => ?_)
    obtain ⟨hb, hp⟩ := hp
    obtain rfl := VR_bool hp
    have H := H.keep hb
    refine pRun_ok (tb := tab) (n := 95) tabOk 2 _ _ hf rfl rfl fun a hf => ?_
    refine (Bool.eq_false_or_eq_true (!y)).elim (fun hc => ?_) (fun hc => ?_)
    · rw [if_pos hc] at hGc2
      have hf := hf.lit 22 rfl hc
      refine pRun_ok (tb := tab) (n := 95) tabOk 21 _ _ hf rfl rfl fun a hf => ?_
      obtain rfl := Option.some.inj hGc2
      have hf := hf.prune [0, 1, 2, 3, 4, 13, 14, 43] rfl
      have H := H.let [] [true, true] [] [0]
      exact wl_end ⟨hf, H⟩
    · rw [if_neg (nt hc)] at hGc2
      have hf := hf.lit 22 rfl hc
      refine pRun_ok (tb := tab) (n := 95) tabOk 2 _ _ hf rfl rfl fun a hf => ?_
      obtain ⟨y2, hy2, hGc2⟩ := bind_some hGc2
      refine wlg hf rfl rfl rfl (op_call hf TF.cl97 rfl (by decide) (spec_l1In_ok (S := fun _ => True) mk_int mk_int mk_int hy2) fun v2 w a hp2 hf => ?_)
      obtain ⟨hb2, hp2⟩ := hp2
      obtain rfl := VR_bool hp2
      have H := H.keep hb2
      refine pRun_ok (tb := tab) (n := 95) tabOk 3 _ _ hf rfl rfl fun a hf => ?_
      refine (Bool.eq_false_or_eq_true (!y2)).elim (fun hc2 => ?_) (fun hc2 => ?_)
      · rw [if_pos hc2] at hGc2
        have hf := hf.lit 28 rfl hc2
        refine pRun_ok (tb := tab) (n := 95) tabOk 15 _ _ hf rfl rfl fun a hf => ?_
        obtain rfl := Option.some.inj hGc2
        have hf := hf.prune [0, 1, 2, 3, 4, 13, 14, 43] rfl
        have H := H.let [] [true, true] [] [0]
        exact wl_end ⟨hf, H⟩
      · rw [if_neg (nt hc2)] at hGc2
        have hf := hf.lit 28 rfl hc2
        refine pRun_ok (tb := tab) (n := 95) tabOk 2 _ _ hf rfl rfl fun a hf => ?_
        obtain ⟨y3, hy3, hGc2⟩ := bind_some hGc2
        refine wlg hf rfl rfl rfl (op_call hf TF.cl97 rfl (by decide) (spec_l1In_ok (S := fun _ => True) mk_int mk_int mk_int hy3) fun v3 w a hp3 hf => ?_)
        obtain ⟨hb3, hp3⟩ := hp3
        obtain rfl := VR_bool hp3
        have H := H.keep hb3
        refine pRun_ok (tb := tab) (n := 95) tabOk 3 _ _ hf rfl rfl fun a hf => ?_
        refine (Bool.eq_false_or_eq_true (!y3)).elim (fun hc3 => ?_) (fun hc3 => ?_)
        · rw [if_pos hc3] at hGc2
          have hf := hf.lit 34 rfl hc3
          refine pRun_ok (tb := tab) (n := 95) tabOk 9 _ _ hf rfl rfl fun a hf => ?_
          obtain rfl := Option.some.inj hGc2
          have hf := hf.prune [0, 1, 2, 3, 4, 13, 14, 43] rfl
          have H := H.let [] [true, true] [] [0]
          exact wl_end ⟨hf, H⟩
        · rw [if_neg (nt hc3)] at hGc2
          have hf := hf.lit 34 rfl hc3
          refine pRun_ok (tb := tab) (n := 95) tabOk 5 _ _ hf rfl rfl fun a hf => ?_
          refine (Bool.eq_false_or_eq_true (decide (high > size))).elim (fun hc4 => ?_) (fun hc4 => ?_)
          · rw [if_pos hc4] at hGc2
            have hf := hf.lit 39 rfl hc4
            refine pRun_ok (tb := tab) (n := 95) tabOk 4 _ _ hf rfl rfl fun a hf => ?_
            obtain rfl := Option.some.inj hGc2
            have hf := hf.prune [0, 1, 2, 3, 4, 13, 14, 43] rfl
            have H := H.let [] [true, true] [] [0]
            exact wl_end ⟨hf, H⟩
          · rw [if_neg (nt hc4)] at hGc2
            have hf := hf.lit 39 rfl hc4
            refine pRun_ok (tb := tab) (n := 95) tabOk 4 _ _ hf rfl rfl fun a hf => ?_
            obtain rfl := Option.some.inj hGc2
            have hf := hf.prune [0, 1, 2, 3, 4, 13, 14, 43] rfl
            have H := H.let [] [true, true] [] [0]
            exact wl_end ⟨hf, H⟩
  rintro a w ⟨hf, H⟩
  refine then_n ?_
  refine (Bool.eq_false_or_eq_true (c2)).elim (fun hc5 => ?_) (fun hc5 => ?_)
  · rw [if_pos hc5] at hF
    refine cd_t hf rfl hc5 ?_
    refine sq ?_
    refine reg ?_
    refine pRun_ok (tb := tab) (n := 95) tabOk 5 _ _ hf rfl rfl fun a hf => ?_
    refine wl_end ?_
    refine then_n ?_
    refine wp_ret (then_r (?_))
    have H := H.rowOwn 1 rfl rfl
    obtain ⟨F, H⟩ := H.freezeOwn 1 rfl
    have H := H.lend 0 rfl
    have H := H.rowOwn 0 rfl rfl
    obtain ⟨F2, H⟩ := H.freezeOwn 0 rfl
    have H := H.lend 0 rfl
    have H := H.frontD 1 rfl
    obtain rfl := Option.some.inj hF
    refine ret_3 (fn := Try.f40) (r := .tmp 10) (s := .tmp 11) (t := .tmp 12) hf rfl (rv_tmp hf rfl) (rv_tmp hf rfl) (rv_tmp hf rfl) ?_
    have hN : New w0 w (F ++ F2) := by simpa using H.ends (X := [(⟨F, MP.own F [(.slice A2 0 0)] (([] : List Int) : List Int)⟩ : DI), (⟨F2, MP.own F2 [(.slice A3 0 0)] (([] : List Int) : List Int)⟩ : DI)])
    exact ⟨_, rfl, H.bel, F, F2, _, _, _, rfl, (mko_list (H.ownAt 0 rfl)), (mko_list (H.ownAt 1 rfl)), mk_bool, hN⟩
  · rw [if_neg (nt hc5)] at hF
    refine cd_f hf rfl hc5 ?_
    refine wp_skip ?_
    refine then_n ?_
    refine sq ?_
    refine sq ?_
    refine reg ?_
    refine pRun_ok (tb := tab) (n := 95) tabOk 1 _ _ hf rfl rfl fun a hf => ?_
    refine wl_end ?_
    refine then_n ?_
    obtain ⟨out', hB1, hF⟩ := bind_some hF
    have hf := hf.prune [0, 1, 2, 3, 4, 13, 14, 15] rfl
    have H := H.let [] [true, true] [] [0]
    have hI : (fun (s : Int × List Int × List Int × Int) (a : Act) (w : World) => match s with | (fill2, moves, fills, i) => ∃ (A4 : Option Addr) (c3 : Nat) (A5 : Option Addr) (c4 : Nat), Fr a 95 [(0, (.int .i64 fill2)), (1, (.slice A writes.length c)), (2, (.int .i64 size)), (3, (.int .i64 low)), (4, (.int .i64 high)), (13, (.slice A4 moves.length c3)), (14, (.slice A5 fills.length c4)), (15, (.int .i64 i))] ∧ Mem ⟨w0, []⟩ S [] [⟨.sh true, 3, A5, c4, (fills : List Int)⟩, ⟨.sh true, 3, A4, c3, (moves : List Int)⟩] [] [(false, MP.val [(.slice A writes.length c)] (writes : List Int))] w) (fill, ([] : List Int), ([] : List Int), 0) a w := ⟨A2, 0, A3, 0, hf, H⟩
    refine mid (fun a w => ∃ s : Int × List Int × List Int × Int, out' = Out.next s ∧ (fun (s : Int × List Int × List Int × Int) (a : Act) (w : World) => match s with | (fill2, moves, fills, i) => ∃ (A4 : Option Addr) (c3 : Nat) (A5 : Option Addr) (c4 : Nat), Fr a 95 [(0, (.int .i64 fill2)), (1, (.slice A writes.length c)), (2, (.int .i64 size)), (3, (.int .i64 low)), (4, (.int .i64 high)), (13, (.slice A4 moves.length c3)), (14, (.slice A5 fills.length c4)), (15, (.int .i64 i))] ∧ Mem ⟨w0, []⟩ S [] [⟨.sh true, 3, A5, c4, (fills : List Int)⟩, ⟨.sh true, 3, A4, c3, (moves : List Int)⟩] [] [(false, MP.val [(.slice A writes.length c)] (writes : List Int))] w) s a w) ?_ ?_
    · refine wp_block ?_
      refine loop_rule (fun k (s : Int × List Int × List Int × Int) => spec_JustifyBuffer_L1 fu writes size low high k s.1 s.2.1 s.2.2.1 s.2.2.2 = some out') (fun (s : Int × List Int × List Int × Int) (a : Act) (w : World) => match s with | (fill2, moves, fills, i) => ∃ (A4 : Option Addr) (c3 : Nat) (A5 : Option Addr) (c4 : Nat), Fr a 95 [(0, (.int .i64 fill2)), (1, (.slice A writes.length c)), (2, (.int .i64 size)), (3, (.int .i64 low)), (4, (.int .i64 high)), (13, (.slice A4 moves.length c3)), (14, (.slice A5 fills.length c4)), (15, (.int .i64 i))] ∧ Mem ⟨w0, []⟩ S [] [⟨.sh true, 3, A5, c4, (fills : List Int)⟩, ⟨.sh true, 3, A4, c3, (moves : List Int)⟩] [] [(false, MP.val [(.slice A writes.length c)] (writes : List Int))] w) (fun s h => by cases h) ?_ fu (fill, ([] : List Int), ([] : List Int), 0) a w hB1 hI
      rintro fk ⟨fill2, moves, fills, i⟩ a w hR1 hI
      replace hR1 : spec_JustifyBuffer_L1 fu writes size low high (fk + 1) fill2 moves fills i = some out' := hR1
      rw [spec_JustifyBuffer_L1] at hR1
      obtain ⟨A4, c3, A5, c4, hf, H⟩ := hI
      refine sq ?_
      refine sq ?_
      refine reg ?_
      refine pRun_ok (tb := tab) (n := 95) tabOk 4 _ _ hf rfl rfl fun a hf => ?_
      refine wl_end ?_
      refine then_n ?_
      refine (Bool.eq_false_or_eq_true (decide (i < (writes.length : Int)))).elim (fun hc6 => ?_) (fun hc6 => ?_)
      · rw [if_pos hc6] at hR1
        refine cd_t hf rfl hc6 ?_
        refine wp_skip ?_
        refine then_n ?_
        refine sq ?_
        refine wp_block ?_
        refine sq ?_
        refine sq ?_
        refine reg ?_
        refine pRun_ok (tb := tab) (n := 95) tabOk 2 _ _ hf rfl rfl fun a hf => ?_
        obtain ⟨e, he, hR1⟩ := bind_some hR1
        refine wl0 rfl (op_iaddr hf H Try.underlying35 TF.sz3 0 rfl rfl rfl he (by decide) fun p o cs a hf hr H => ?_)
        obtain rfl := hr
        refine wl0 rfl (op_q hf (rq_loadI hf H TF.ls3 0 0 rfl rfl rfl) rfl (by decide) fun a hf => ?_)
        obtain ⟨y4, hy4, hR1⟩ := bind_some hR1
        refine wl0 rfl (op_call hf TF.cl97 rfl (by decide) (spec_l1In_ok (S := fun _ => True) mk_int mk_int mk_int hy4) fun v4 w a hp4 hf => ?_)
        obtain ⟨hb4, hp4⟩ := hp4
        obtain rfl := VR_bool hp4
        have H := H.keep hb4
        refine pRun_ok (tb := tab) (n := 95) tabOk 1 _ _ hf rfl rfl fun a hf => ?_
        refine wl_end ?_
        refine then_n ?_
        refine (Bool.eq_false_or_eq_true (!y4)).elim (fun hc7 => ?_) (fun hc7 => ?_)
        · rw [if_pos hc7] at hR1
          refine cd_t hf rfl hc7 ?_
          refine sq ?_
          refine reg ?_
          refine wl0 rfl (op_bslice hf H (.sh true) rfl 3 ([] : List Int) [] rfl (fun w => by kernel_rfl) rfl (by decide) rfl trivial el0 (by decide) fun A6 a w hf H => ?_)
          refine wl0 rfl (op_bslice hf H (.sh true) rfl 3 ([] : List Int) [] rfl (fun w => by kernel_rfl) rfl (by decide) rfl trivial el0 (by decide) fun A7 a w hf H => ?_)
          refine pRun_ok (tb := tab) (n := 95) tabOk 3 _ _ hf rfl rfl fun a hf => ?_
          have hf := hf.prune [10, 11, 12] rfl
          refine wl_end ?_
          refine then_n ?_
          refine wp_ret (then_r (blk_r (then_r (then_r (blk_r (then_r (then_r (?_))))))))
          have H := H.rowOwn 1 rfl rfl
          obtain ⟨F3, H⟩ := H.freezeOwn 1 rfl
          have H := H.lend 0 rfl
          have H := H.rowOwn 0 rfl rfl
          obtain ⟨F4, H⟩ := H.freezeOwn 0 rfl
          have H := H.lend 0 rfl
          have H := H.frontD 1 rfl
          obtain rfl := Option.some.inj hR1
          replace hF := on_ret hF
          obtain rfl := Option.some.inj hF
          refine ret_3 (fn := Try.f40) (r := .tmp 10) (s := .tmp 11) (t := .tmp 12) hf rfl (rv_tmp hf rfl) (rv_tmp hf rfl) (rv_tmp hf rfl) ?_
          have hN : New w0 w (F3 ++ F4) := by simpa using H.ends (X := [(⟨F3, MP.own F3 [(.slice A6 0 0)] (([] : List Int) : List Int)⟩ : DI), (⟨F4, MP.own F4 [(.slice A7 0 0)] (([] : List Int) : List Int)⟩ : DI)])
          exact ⟨_, rfl, H.bel, F3, F4, _, _, _, rfl, (mko_list (H.ownAt 0 rfl)), (mko_list (H.ownAt 1 rfl)), mk_bool, hN⟩
        · rw [if_neg (nt hc7)] at hR1
          refine cd_f hf rfl hc7 ?_
          refine wp_skip ?_
          refine then_n ?_
          refine sq ?_
          refine reg ?_
          refine pRun_ok (tb := tab) (n := 95) tabOk 3 _ _ hf rfl rfl fun a hf => ?_
          obtain ⟨e2, he2, hR1⟩ := bind_some hR1
          refine wl0 rfl (op_iaddr hf H Try.underlying35 TF.sz3 1 rfl rfl rfl he2 (by decide) fun p2 o2 cs2 a hf hr2 H => ?_)
          obtain rfl := hr2
          refine wl0 rfl (op_q hf (rq_loadI hf H TF.ls3 0 0 rfl rfl rfl) rfl (by decide) fun a hf => ?_)
          refine pRun_ok (tb := tab) (n := 95) tabOk 2 _ _ hf rfl rfl fun a hf => ?_
          have hf := hf.prune [0, 1, 2, 3, 4, 13, 14, 15] rfl
          refine wl_end ?_
          refine then_n ?_
          refine sq ?_
          refine sq ?_
          refine reg ?_
          refine pRun_ok (tb := tab) (n := 95) tabOk 3 _ _ hf rfl rfl fun a hf => ?_
          refine wl_end ?_
          refine then_n ?_
          refine (Bool.eq_false_or_eq_true (decide ((w64 (fill2 + e2)) > size))).elim (fun hc8 => ?_) (fun hc8 => ?_)
          · rw [if_pos hc8] at hR1
            refine cd_t hf rfl hc8 ?_
            refine sq ?_
            refine reg ?_
            refine wl0 rfl (op_bslice hf H (.sh true) rfl 3 ([] : List Int) [] rfl (fun w => by kernel_rfl) rfl (by decide) rfl trivial el0 (by decide) fun A8 a w hf H => ?_)
            refine wl0 rfl (op_bslice hf H (.sh true) rfl 3 ([] : List Int) [] rfl (fun w => by kernel_rfl) rfl (by decide) rfl trivial el0 (by decide) fun A9 a w hf H => ?_)
            refine pRun_ok (tb := tab) (n := 95) tabOk 3 _ _ hf rfl rfl fun a hf => ?_
            have hf := hf.prune [10, 11, 12] rfl
            refine wl_end ?_
            refine then_n ?_
            refine wp_ret (then_r (blk_r (then_r (then_r (blk_r (then_r (then_r (?_))))))))
            have H := H.rowOwn 1 rfl rfl
            obtain ⟨F5, H⟩ := H.freezeOwn 1 rfl
            have H := H.lend 0 rfl
            have H := H.rowOwn 0 rfl rfl
            obtain ⟨F6, H⟩ := H.freezeOwn 0 rfl
            have H := H.lend 0 rfl
            have H := H.frontD 1 rfl
            obtain rfl := Option.some.inj hR1
            replace hF := on_ret hF
            obtain rfl := Option.some.inj hF
            refine ret_3 (fn := Try.f40) (r := .tmp 10) (s := .tmp 11) (t := .tmp 12) hf rfl (rv_tmp hf rfl) (rv_tmp hf rfl) (rv_tmp hf rfl) ?_
            have hN : New w0 w (F5 ++ F6) := by simpa using H.ends (X := [(⟨F5, MP.own F5 [(.slice A8 0 0)] (([] : List Int) : List Int)⟩ : DI), (⟨F6, MP.own F6 [(.slice A9 0 0)] (([] : List Int) : List Int)⟩ : DI)])
            exact ⟨_, rfl, H.bel, F5, F6, _, _, _, rfl, (mko_list (H.ownAt 0 rfl)), (mko_list (H.ownAt 1 rfl)), mk_bool, hN⟩
          · rw [if_neg (nt hc8)] at hR1
            refine cd_f hf rfl hc8 ?_
            refine wp_skip ?_
            refine then_n ?_
            refine sq ?_
            refine reg ?_
            refine pRun_ok (tb := tab) (n := 95) tabOk 1 _ _ hf rfl rfl fun a hf => ?_
            refine wl_end ?_
            refine then_n ?_
            refine sq ?_
            refine sq ?_
            refine reg ?_
            refine pRun_ok (tb := tab) (n := 95) tabOk 3 _ _ hf rfl rfl fun a hf => ?_
            refine wl_end ?_
            refine then_n ?_
            refine (Bool.eq_false_or_eq_true (decide ((w64 (fill2 + e2)) > high))).elim (fun hc9 => ?_) (fun hc9 => ?_)
            · rw [if_pos hc9] at hR1
              refine cd_t hf rfl hc9 ?_
              refine reg ?_
              refine pRun_ok (tb := tab) (n := 95) tabOk 1 _ _ hf rfl rfl fun a hf => ?_
              refine wl_end ?_
              refine then_n ?_
              refine sq ?_
              refine sq ?_
              refine reg ?_
              refine pRun_ok (tb := tab) (n := 95) tabOk 3 _ _ hf rfl rfl fun a hf => ?_
              refine wl_end ?_
              refine then_n ?_
              refine (Bool.eq_false_or_eq_true (decide ((w64 (fill2 + e2)) < low))).elim (fun hc10 => ?_) (fun hc10 => ?_)
              · rw [if_pos hc10] at hR1
                refine cd_t hf rfl hc10 ?_
                refine reg ?_
                refine pRun_ok (tb := tab) (n := 95) tabOk 1 _ _ hf rfl rfl fun a hf => ?_
                refine wl_end ?_
                refine then_n ?_
                refine sq ?_
                refine reg ?_
                refine pRun_ok (tb := tab) (n := 95) tabOk 5 _ _ hf rfl rfl fun a hf => ?_
                have hf := hf.prune [0, 1, 2, 3, 4, 13, 14, 15, 16] rfl
                refine wl_end ?_
                refine then_n ?_
                refine sq ?_
                refine sq ?_
                refine reg ?_
                refine pRun_ok (tb := tab) (n := 95) tabOk 2 _ _ hf rfl rfl fun a hf => ?_
                refine wl_end ?_
                refine then_n ?_
                refine (Bool.eq_false_or_eq_true (decide ((w64 ((w64 ((w64 (fill2 + e2)) - 12)) - (-1))) < 0))).elim (fun hc11 => ?_) (fun hc11 => ?_)
                · rw [if_pos hc11] at hR1
                  refine cd_t hf rfl hc11 ?_
                  refine sq ?_
                  refine reg ?_
                  refine wl0 rfl (op_bslice hf H (.sh true) rfl 3 ([] : List Int) [] rfl (fun w => by kernel_rfl) rfl (by decide) rfl trivial el0 (by decide) fun A10 a w hf H => ?_)
                  refine wl0 rfl (op_bslice hf H (.sh true) rfl 3 ([] : List Int) [] rfl (fun w => by kernel_rfl) rfl (by decide) rfl trivial el0 (by decide) fun A11 a w hf H => ?_)
                  refine pRun_ok (tb := tab) (n := 95) tabOk 3 _ _ hf rfl rfl fun a hf => ?_
                  have hf := hf.prune [10, 11, 12] rfl
                  refine wl_end ?_
                  refine then_n ?_
                  refine wp_ret (then_r (blk_r (then_r (then_r (blk_r (then_r (then_r (?_))))))))
                  have H := H.rowOwn 1 rfl rfl
                  obtain ⟨F7, H⟩ := H.freezeOwn 1 rfl
                  have H := H.lend 0 rfl
                  have H := H.rowOwn 0 rfl rfl
                  obtain ⟨F8, H⟩ := H.freezeOwn 0 rfl
                  have H := H.lend 0 rfl
                  have H := H.frontD 1 rfl
                  obtain rfl := Option.some.inj hR1
                  replace hF := on_ret hF
                  obtain rfl := Option.some.inj hF
                  refine ret_3 (fn := Try.f40) (r := .tmp 10) (s := .tmp 11) (t := .tmp 12) hf rfl (rv_tmp hf rfl) (rv_tmp hf rfl) (rv_tmp hf rfl) ?_
                  have hN : New w0 w (F7 ++ F8) := by simpa using H.ends (X := [(⟨F7, MP.own F7 [(.slice A10 0 0)] (([] : List Int) : List Int)⟩ : DI), (⟨F8, MP.own F8 [(.slice A11 0 0)] (([] : List Int) : List Int)⟩ : DI)])
                  exact ⟨_, rfl, H.bel, F7, F8, _, _, _, rfl, (mko_list (H.ownAt 0 rfl)), (mko_list (H.ownAt 1 rfl)), mk_bool, hN⟩
                · rw [if_neg (nt hc11)] at hR1
                  refine cd_f hf rfl hc11 ?_
                  refine wp_skip ?_
                  refine then_n ?_
                  refine sq ?_
                  refine reg ?_
                  refine pRun_ok (tb := tab) (n := 95) tabOk 2 _ _ hf rfl rfl fun a hf => ?_
                  refine wl0 rfl (op_bslice hf H (.sh true) rfl 3 ([(-1)] : List Int) [(.int .i64 (-1))] rfl (fun w => by kernel_rfl) rfl (by decide) rfl trivial (el1 (y := (-1)) rfl) (by decide) fun A12 a w hf H => ?_)
                  obtain ⟨l, hl, hR1⟩ := bind_some hR1
                  refine wl0 rfl (op_appR hf H Try.underlying35 TF.ai3 rfl (by decide) 2 0 rfl rfl rfl rfl (.inr rfl) hl (by decide) fun A13 c5 a w hf H => ?_)
                  refine pRun_ok (tb := tab) (n := 95) tabOk 1 _ _ hf rfl rfl fun a hf => ?_
                  refine wl_end ?_
                  refine then_n ?_
                  refine reg ?_
                  refine pRun_ok (tb := tab) (n := 95) tabOk 2 _ _ hf rfl rfl fun a hf => ?_
                  refine wl0 rfl (op_bslice hf H (.sh true) rfl 3 ([w64 ((w64 ((w64 (fill2 + e2)) - 12)) - (-1))] : List Int) [(.int .i64 (w64 ((w64 ((w64 (fill2 + e2)) - 12)) - (-1))))] rfl (fun w => by kernel_rfl) rfl (by decide) rfl trivial (el1 (y := w64 ((w64 ((w64 (fill2 + e2)) - 12)) - (-1))) rfl) (by decide) fun A14 a w hf H => ?_)
                  obtain ⟨l2, hl2, hR1⟩ := bind_some hR1
                  refine wl0 rfl (op_appR hf H Try.underlying35 TF.ai3 rfl (by decide) 2 0 rfl rfl rfl rfl (.inr rfl) hl2 (by decide) fun A15 c6 a w hf H => ?_)
                  refine pRun_ok (tb := tab) (n := 95) tabOk 1 _ _ hf rfl rfl fun a hf => ?_
                  refine wl_end ?_
                  refine blk_n ?_
                  refine then_n ?_
                  refine reg ?_
                  refine pRun_ok (tb := tab) (n := 95) tabOk 3 _ _ hf rfl rfl fun a hf => ?_
                  have hf := hf.prune [0, 1, 2, 3, 4, 13, 14, 15] rfl
                  refine wl_end ?_
                  have hf := hf.prune [0, 1, 2, 3, 4, 13, 14, 15] rfl
                  have H := H.let [] [false, false, true, true] [] [2]
                  exact then_n ⟨(w64 ((w64 ((w64 (fill2 + e2)) - 12)) - (-1)), l, l2, w64 (i + 1)), hR1, A13, c5, A15, c6, hf, H⟩
              · rw [if_neg (nt hc10)] at hR1
                refine cd_f hf rfl hc10 ?_
                refine wp_skip ?_
                refine then_n ?_
                refine sq ?_
                refine reg ?_
                refine pRun_ok (tb := tab) (n := 95) tabOk 5 _ _ hf rfl rfl fun a hf => ?_
                have hf := hf.prune [0, 1, 2, 3, 4, 13, 14, 15, 16] rfl
                refine wl_end ?_
                refine then_n ?_
                refine sq ?_
                refine sq ?_
                refine reg ?_
                refine pRun_ok (tb := tab) (n := 95) tabOk 2 _ _ hf rfl rfl fun a hf => ?_
                refine wl_end ?_
                refine then_n ?_
                refine (Bool.eq_false_or_eq_true (decide ((w64 ((w64 ((w64 (fill2 + e2)) - 12)) - 1)) < 0))).elim (fun hc12 => ?_) (fun hc12 => ?_)
                · rw [if_pos hc12] at hR1
                  refine cd_t hf rfl hc12 ?_
                  refine sq ?_
                  refine reg ?_
                  refine wl0 rfl (op_bslice hf H (.sh true) rfl 3 ([] : List Int) [] rfl (fun w => by kernel_rfl) rfl (by decide) rfl trivial el0 (by decide) fun A16 a w hf H => ?_)
                  refine wl0 rfl (op_bslice hf H (.sh true) rfl 3 ([] : List Int) [] rfl (fun w => by kernel_rfl) rfl (by decide) rfl trivial el0 (by decide) fun A17 a w hf H => ?_)
                  refine pRun_ok (tb := tab) (n := 95) tabOk 3 _ _ hf rfl rfl fun a hf => ?_
                  have hf := hf.prune [10, 11, 12] rfl
                  refine wl_end ?_
                  refine then_n ?_
                  refine wp_ret (then_r (blk_r (then_r (then_r (blk_r (then_r (then_r (?_))))))))
                  have H := H.rowOwn 1 rfl rfl
                  obtain ⟨F9, H⟩ := H.freezeOwn 1 rfl
                  have H := H.lend 0 rfl
                  have H := H.rowOwn 0 rfl rfl
                  obtain ⟨F10, H⟩ := H.freezeOwn 0 rfl
                  have H := H.lend 0 rfl
                  have H := H.frontD 1 rfl
                  obtain rfl := Option.some.inj hR1
                  replace hF := on_ret hF
                  obtain rfl := Option.some.inj hF
                  refine ret_3 (fn := Try.f40) (r := .tmp 10) (s := .tmp 11) (t := .tmp 12) hf rfl (rv_tmp hf rfl) (rv_tmp hf rfl) (rv_tmp hf rfl) ?_
                  have hN : New w0 w (F9 ++ F10) := by simpa using H.ends (X := [(⟨F9, MP.own F9 [(.slice A16 0 0)] (([] : List Int) : List Int)⟩ : DI), (⟨F10, MP.own F10 [(.slice A17 0 0)] (([] : List Int) : List Int)⟩ : DI)])
                  exact ⟨_, rfl, H.bel, F9, F10, _, _, _, rfl, (mko_list (H.ownAt 0 rfl)), (mko_list (H.ownAt 1 rfl)), mk_bool, hN⟩
                · rw [if_neg (nt hc12)] at hR1
                  refine cd_f hf rfl hc12 ?_
                  refine wp_skip ?_
                  refine then_n ?_
                  refine sq ?_
                  refine reg ?_
                  refine pRun_ok (tb := tab) (n := 95) tabOk 2 _ _ hf rfl rfl fun a hf => ?_
                  refine wl0 rfl (op_bslice hf H (.sh true) rfl 3 ([1] : List Int) [(.int .i64 1)] rfl (fun w => by kernel_rfl) rfl (by decide) rfl trivial (el1 (y := 1) rfl) (by decide) fun A18 a w hf H => ?_)
                  obtain ⟨l3, hl3, hR1⟩ := bind_some hR1
                  refine wl0 rfl (op_appR hf H Try.underlying35 TF.ai3 rfl (by decide) 2 0 rfl rfl rfl rfl (.inr rfl) hl3 (by decide) fun A19 c7 a w hf H => ?_)
                  refine pRun_ok (tb := tab) (n := 95) tabOk 1 _ _ hf rfl rfl fun a hf => ?_
                  refine wl_end ?_
                  refine then_n ?_
                  refine reg ?_
                  refine pRun_ok (tb := tab) (n := 95) tabOk 2 _ _ hf rfl rfl fun a hf => ?_
                  refine wl0 rfl (op_bslice hf H (.sh true) rfl 3 ([w64 ((w64 ((w64 (fill2 + e2)) - 12)) - 1)] : List Int) [(.int .i64 (w64 ((w64 ((w64 (fill2 + e2)) - 12)) - 1)))] rfl (fun w => by kernel_rfl) rfl (by decide) rfl trivial (el1 (y := w64 ((w64 ((w64 (fill2 + e2)) - 12)) - 1)) rfl) (by decide) fun A20 a w hf H => ?_)
                  obtain ⟨l4, hl4, hR1⟩ := bind_some hR1
                  refine wl0 rfl (op_appR hf H Try.underlying35 TF.ai3 rfl (by decide) 2 0 rfl rfl rfl rfl (.inr rfl) hl4 (by decide) fun A21 c8 a w hf H => ?_)
                  refine pRun_ok (tb := tab) (n := 95) tabOk 1 _ _ hf rfl rfl fun a hf => ?_
                  refine wl_end ?_
                  refine blk_n ?_
                  refine then_n ?_
                  refine reg ?_
                  refine pRun_ok (tb := tab) (n := 95) tabOk 3 _ _ hf rfl rfl fun a hf => ?_
                  have hf := hf.prune [0, 1, 2, 3, 4, 13, 14, 15] rfl
                  refine wl_end ?_
                  have hf := hf.prune [0, 1, 2, 3, 4, 13, 14, 15] rfl
                  have H := H.let [] [false, false, true, true] [] [2]
                  exact then_n ⟨(w64 ((w64 ((w64 (fill2 + e2)) - 12)) - 1), l3, l4, w64 (i + 1)), hR1, A19, c7, A21, c8, hf, H⟩
            · rw [if_neg (nt hc9)] at hR1
              refine cd_f hf rfl hc9 ?_
              refine wp_skip ?_
              refine then_n ?_
              refine sq ?_
              refine sq ?_
              refine reg ?_
              refine pRun_ok (tb := tab) (n := 95) tabOk 3 _ _ hf rfl rfl fun a hf => ?_
              refine wl_end ?_
              refine then_n ?_
              refine (Bool.eq_false_or_eq_true (decide ((w64 (fill2 + e2)) < low))).elim (fun hc13 => ?_) (fun hc13 => ?_)
              · rw [if_pos hc13] at hR1
                refine cd_t hf rfl hc13 ?_
                refine reg ?_
                refine pRun_ok (tb := tab) (n := 95) tabOk 1 _ _ hf rfl rfl fun a hf => ?_
                refine wl_end ?_
                refine then_n ?_
                refine sq ?_
                refine reg ?_
                refine pRun_ok (tb := tab) (n := 95) tabOk 5 _ _ hf rfl rfl fun a hf => ?_
                have hf := hf.prune [0, 1, 2, 3, 4, 13, 14, 15, 16] rfl
                refine wl_end ?_
                refine then_n ?_
                refine sq ?_
                refine sq ?_
                refine reg ?_
                refine pRun_ok (tb := tab) (n := 95) tabOk 2 _ _ hf rfl rfl fun a hf => ?_
                refine wl_end ?_
                refine then_n ?_
                refine (Bool.eq_false_or_eq_true (decide ((w64 ((w64 ((w64 (fill2 + e2)) - 12)) - (-1))) < 0))).elim (fun hc14 => ?_) (fun hc14 => ?_)
                · rw [if_pos hc14] at hR1
                  refine cd_t hf rfl hc14 ?_
                  refine sq ?_
                  refine reg ?_
                  refine wl0 rfl (op_bslice hf H (.sh true) rfl 3 ([] : List Int) [] rfl (fun w => by kernel_rfl) rfl (by decide) rfl trivial el0 (by decide) fun A22 a w hf H => ?_)
                  refine wl0 rfl (op_bslice hf H (.sh true) rfl 3 ([] : List Int) [] rfl (fun w => by kernel_rfl) rfl (by decide) rfl trivial el0 (by decide) fun A23 a w hf H => ?_)
                  refine pRun_ok (tb := tab) (n := 95) tabOk 3 _ _ hf rfl rfl fun a hf => ?_
                  have hf := hf.prune [10, 11, 12] rfl
                  refine wl_end ?_
                  refine then_n ?_
                  refine wp_ret (then_r (blk_r (then_r (then_r (blk_r (then_r (then_r (?_))))))))
                  have H := H.rowOwn 1 rfl rfl
                  obtain ⟨F11, H⟩ := H.freezeOwn 1 rfl
                  have H := H.lend 0 rfl
                  have H := H.rowOwn 0 rfl rfl
                  obtain ⟨F12, H⟩ := H.freezeOwn 0 rfl
                  have H := H.lend 0 rfl
                  have H := H.frontD 1 rfl
                  obtain rfl := Option.some.inj hR1
                  replace hF := on_ret hF
                  obtain rfl := Option.some.inj hF
                  refine ret_3 (fn := Try.f40) (r := .tmp 10) (s := .tmp 11) (t := .tmp 12) hf rfl (rv_tmp hf rfl) (rv_tmp hf rfl) (rv_tmp hf rfl) ?_
                  have hN : New w0 w (F11 ++ F12) := by simpa using H.ends (X := [(⟨F11, MP.own F11 [(.slice A22 0 0)] (([] : List Int) : List Int)⟩ : DI), (⟨F12, MP.own F12 [(.slice A23 0 0)] (([] : List Int) : List Int)⟩ : DI)])
                  exact ⟨_, rfl, H.bel, F11, F12, _, _, _, rfl, (mko_list (H.ownAt 0 rfl)), (mko_list (H.ownAt 1 rfl)), mk_bool, hN⟩
                · rw [if_neg (nt hc14)] at hR1
                  refine cd_f hf rfl hc14 ?_
                  refine wp_skip ?_
                  refine then_n ?_
                  refine sq ?_
                  refine reg ?_
                  refine pRun_ok (tb := tab) (n := 95) tabOk 2 _ _ hf rfl rfl fun a hf => ?_
                  refine wl0 rfl (op_bslice hf H (.sh true) rfl 3 ([(-1)] : List Int) [(.int .i64 (-1))] rfl (fun w => by kernel_rfl) rfl (by decide) rfl trivial (el1 (y := (-1)) rfl) (by decide) fun A24 a w hf H => ?_)
                  obtain ⟨l5, hl5, hR1⟩ := bind_some hR1
                  refine wl0 rfl (op_appR hf H Try.underlying35 TF.ai3 rfl (by decide) 2 0 rfl rfl rfl rfl (.inr rfl) hl5 (by decide) fun A25 c9 a w hf H => ?_)
                  refine pRun_ok (tb := tab) (n := 95) tabOk 1 _ _ hf rfl rfl fun a hf => ?_
                  refine wl_end ?_
                  refine then_n ?_
                  refine reg ?_
                  refine pRun_ok (tb := tab) (n := 95) tabOk 2 _ _ hf rfl rfl fun a hf => ?_
                  refine wl0 rfl (op_bslice hf H (.sh true) rfl 3 ([w64 ((w64 ((w64 (fill2 + e2)) - 12)) - (-1))] : List Int) [(.int .i64 (w64 ((w64 ((w64 (fill2 + e2)) - 12)) - (-1))))] rfl (fun w => by kernel_rfl) rfl (by decide) rfl trivial (el1 (y := w64 ((w64 ((w64 (fill2 + e2)) - 12)) - (-1))) rfl) (by decide) fun A26 a w hf H => ?_)
                  obtain ⟨l6, hl6, hR1⟩ := bind_some hR1
                  refine wl0 rfl (op_appR hf H Try.underlying35 TF.ai3 rfl (by decide) 2 0 rfl rfl rfl rfl (.inr rfl) hl6 (by decide) fun A27 c10 a w hf H => ?_)
                  refine pRun_ok (tb := tab) (n := 95) tabOk 1 _ _ hf rfl rfl fun a hf => ?_
                  refine wl_end ?_
                  refine blk_n ?_
                  refine then_n ?_
                  refine reg ?_
                  refine pRun_ok (tb := tab) (n := 95) tabOk 3 _ _ hf rfl rfl fun a hf => ?_
                  have hf := hf.prune [0, 1, 2, 3, 4, 13, 14, 15] rfl
                  refine wl_end ?_
                  have hf := hf.prune [0, 1, 2, 3, 4, 13, 14, 15] rfl
                  have H := H.let [] [false, false, true, true] [] [2]
                  exact then_n ⟨(w64 ((w64 ((w64 (fill2 + e2)) - 12)) - (-1)), l5, l6, w64 (i + 1)), hR1, A25, c9, A27, c10, hf, H⟩
              · rw [if_neg (nt hc13)] at hR1
                refine cd_f hf rfl hc13 ?_
                refine wp_skip ?_
                refine then_n ?_
                refine sq ?_
                refine reg ?_
                refine pRun_ok (tb := tab) (n := 95) tabOk 5 _ _ hf rfl rfl fun a hf => ?_
                have hf := hf.prune [0, 1, 2, 3, 4, 13, 14, 15, 16] rfl
                refine wl_end ?_
                refine then_n ?_
                refine sq ?_
                refine sq ?_
                refine reg ?_
                refine pRun_ok (tb := tab) (n := 95) tabOk 2 _ _ hf rfl rfl fun a hf => ?_
                refine wl_end ?_
                refine then_n ?_
                refine (Bool.eq_false_or_eq_true (decide ((w64 ((w64 ((w64 (fill2 + e2)) - 12)) - 0)) < 0))).elim (fun hc15 => ?_) (fun hc15 => ?_)
                · rw [if_pos hc15] at hR1
                  refine cd_t hf rfl hc15 ?_
                  refine sq ?_
                  refine reg ?_
                  refine wl0 rfl (op_bslice hf H (.sh true) rfl 3 ([] : List Int) [] rfl (fun w => by kernel_rfl) rfl (by decide) rfl trivial el0 (by decide) fun A28 a w hf H => ?_)
                  refine wl0 rfl (op_bslice hf H (.sh true) rfl 3 ([] : List Int) [] rfl (fun w => by kernel_rfl) rfl (by decide) rfl trivial el0 (by decide) fun A29 a w hf H => ?_)
                  refine pRun_ok (tb := tab) (n := 95) tabOk 3 _ _ hf rfl rfl fun a hf => ?_
                  have hf := hf.prune [10, 11, 12] rfl
                  refine wl_end ?_
                  refine then_n ?_
                  refine wp_ret (then_r (blk_r (then_r (then_r (blk_r (then_r (then_r (?_))))))))
                  have H := H.rowOwn 1 rfl rfl
                  obtain ⟨F13, H⟩ := H.freezeOwn 1 rfl
                  have H := H.lend 0 rfl
                  have H := H.rowOwn 0 rfl rfl
                  obtain ⟨F14, H⟩ := H.freezeOwn 0 rfl
                  have H := H.lend 0 rfl
                  have H := H.frontD 1 rfl
                  obtain rfl := Option.some.inj hR1
                  replace hF := on_ret hF
                  obtain rfl := Option.some.inj hF
                  refine ret_3 (fn := Try.f40) (r := .tmp 10) (s := .tmp 11) (t := .tmp 12) hf rfl (rv_tmp hf rfl) (rv_tmp hf rfl) (rv_tmp hf rfl) ?_
                  have hN : New w0 w (F13 ++ F14) := by simpa using H.ends (X := [(⟨F13, MP.own F13 [(.slice A28 0 0)] (([] : List Int) : List Int)⟩ : DI), (⟨F14, MP.own F14 [(.slice A29 0 0)] (([] : List Int) : List Int)⟩ : DI)])
                  exact ⟨_, rfl, H.bel, F13, F14, _, _, _, rfl, (mko_list (H.ownAt 0 rfl)), (mko_list (H.ownAt 1 rfl)), mk_bool, hN⟩
                · rw [if_neg (nt hc15)] at hR1
                  refine cd_f hf rfl hc15 ?_
                  refine wp_skip ?_
                  refine then_n ?_
                  refine sq ?_
                  refine reg ?_
                  refine pRun_ok (tb := tab) (n := 95) tabOk 2 _ _ hf rfl rfl fun a hf => ?_
                  refine wl0 rfl (op_bslice hf H (.sh true) rfl 3 ([0] : List Int) [(.int .i64 0)] rfl (fun w => by kernel_rfl) rfl (by decide) rfl trivial (el1 (y := 0) rfl) (by decide) fun A30 a w hf H => ?_)
                  obtain ⟨l7, hl7, hR1⟩ := bind_some hR1
                  refine wl0 rfl (op_appR hf H Try.underlying35 TF.ai3 rfl (by decide) 2 0 rfl rfl rfl rfl (.inr rfl) hl7 (by decide) fun A31 c11 a w hf H => ?_)
                  refine pRun_ok (tb := tab) (n := 95) tabOk 1 _ _ hf rfl rfl fun a hf => ?_
                  refine wl_end ?_
                  refine then_n ?_
                  refine reg ?_
                  refine pRun_ok (tb := tab) (n := 95) tabOk 2 _ _ hf rfl rfl fun a hf => ?_
                  refine wl0 rfl (op_bslice hf H (.sh true) rfl 3 ([w64 ((w64 ((w64 (fill2 + e2)) - 12)) - 0)] : List Int) [(.int .i64 (w64 ((w64 ((w64 (fill2 + e2)) - 12)) - 0)))] rfl (fun w => by kernel_rfl) rfl (by decide) rfl trivial (el1 (y := w64 ((w64 ((w64 (fill2 + e2)) - 12)) - 0)) rfl) (by decide) fun A32 a w hf H => ?_)
                  obtain ⟨l8, hl8, hR1⟩ := bind_some hR1
                  refine wl0 rfl (op_appR hf H Try.underlying35 TF.ai3 rfl (by decide) 2 0 rfl rfl rfl rfl (.inr rfl) hl8 (by decide) fun A33 c12 a w hf H => ?_)
                  refine pRun_ok (tb := tab) (n := 95) tabOk 1 _ _ hf rfl rfl fun a hf => ?_
                  refine wl_end ?_
                  refine blk_n ?_
                  refine then_n ?_
                  refine reg ?_
                  refine pRun_ok (tb := tab) (n := 95) tabOk 3 _ _ hf rfl rfl fun a hf => ?_
                  have hf := hf.prune [0, 1, 2, 3, 4, 13, 14, 15] rfl
                  refine wl_end ?_
                  have hf := hf.prune [0, 1, 2, 3, 4, 13, 14, 15] rfl
                  have H := H.let [] [false, false, true, true] [] [2]
                  exact then_n ⟨(w64 ((w64 ((w64 (fill2 + e2)) - 12)) - 0), l7, l8, w64 (i + 1)), hR1, A31, c11, A33, c12, hf, H⟩
      · rw [if_neg (nt hc6)] at hR1
        refine cd_f hf rfl hc6 ?_
        refine wp_exit (then_x (then_x (blk_e (?_))))
        have hf := hf.prune [0, 1, 2, 3, 4, 13, 14, 15] rfl
        have H := H.let [] [true, true] [] [0]
        exact ⟨(fill2, moves, fills, i), (Option.some.inj hR1).symm, A4, c3, A5, c4, hf, H⟩
    rintro a w ⟨⟨fill3, moves2, fills2, i2⟩, rfl, A34, c13, A35, c14, hf, H⟩
    replace hF := on_next hF
    dsimp only at hF
    refine then_n ?_
    refine sq ?_
    refine reg ?_
    refine pRun_ok (tb := tab) (n := 95) tabOk 5 _ _ hf rfl rfl fun a hf => ?_
    refine wl_end ?_
    refine then_n ?_
    refine wp_ret (?_)
    have H := H.rowOwn 1 rfl rfl
    obtain ⟨F15, H⟩ := H.freezeOwn 1 rfl
    have H := H.lend 0 rfl
    have H := H.rowOwn 0 rfl rfl
    obtain ⟨F16, H⟩ := H.freezeOwn 0 rfl
    have H := H.lend 0 rfl
    have H := H.frontD 1 rfl
    obtain rfl := Option.some.inj hF
    refine ret_3 (fn := Try.f40) (r := .tmp 10) (s := .tmp 11) (t := .tmp 12) hf rfl (rv_tmp hf rfl) (rv_tmp hf rfl) (rv_tmp hf rfl) ?_
    have hN : New w0 w (F15 ++ F16) := by simpa using H.ends (X := [(⟨F15, MP.own F15 [(.slice A34 moves2.length c13)] (moves2 : List Int)⟩ : DI), (⟨F16, MP.own F16 [(.slice A35 fills2.length c14)] (fills2 : List Int)⟩ : DI)])
    exact ⟨_, rfl, H.bel, F15, F16, _, _, _, rfl, (mko_list (H.ownAt 0 rfl)), (mko_list (H.ownAt 1 rfl)), mk_bool, hN⟩

/- loop.example/g00897/impl.within -/
set_option maxHeartbeats 1000000 in
theorem impl_within_ok {fu : Nat} {w0 : World} {S : Nat → Prop} {v0_ : Value} {v1_ : Value} {v2_ : Value} {n' : Int} {low : Int} {high : Int} {r : Bool} (h0 : VR w0 S v0_ n') (h1 : VR w0 S v1_ low) (h2 : VR w0 S v2_ high) (hF : impl_within fu n' low high = some r) :
    Calls Try.prog 98 [v0_, v1_, v2_].toArray w0 fun e w' => ∃ v, e = .returned v ∧ (Below w0.heap.size w0 w' ∧ VR w' (St ⟨w0, []⟩ S [] [] [] true) v r) := by
  obtain rfl := VR_int h0
  obtain rfl := VR_int h1
  obtain rfl := VR_int h2
  have H := Mem.start ⟨w0, []⟩ S
  refine enter Try.func98 rfl rfl (nle rfl) rfl fun a hf => ?_
  rw [impl_within] at hF
  refine sq ?_
  refine reg ?_
  refine pRun_ok (tb := tab) (n := 15) tabOk 1 _ _ hf rfl rfl fun a hf => ?_
  refine wl_end ?_
  refine then_n ?_
  refine sq ?_
  obtain ⟨c, hGc, hF⟩ := bind_some hF
  refine mid (fun a w => Fr a 15 [(6, (.bool c))] ∧ Mem ⟨w0, []⟩ S [] [] [] [] w) ?_ ?_
  · refine reg ?_
    refine pRun_ok (tb := tab) (n := 15) tabOk 4 _ _ hf rfl rfl fun a hf => ?_
    refine (Bool.eq_false_or_eq_true (decide (low ≤ n'))).elim (fun hc => ?_) (fun hc => ?_)
    · rw [if_pos hc] at hGc
      have hf := hf.lit 10 rfl hc
      refine pRun_ok (tb := tab) (n := 15) tabOk 5 _ _ hf rfl rfl fun a hf => ?_
      obtain rfl := Option.some.inj hGc
      have hf := hf.prune [6] rfl
      have H := H.let [] [] [] []
      exact wl_end ⟨hf, H⟩
    · rw [if_neg (nt hc)] at hGc
      have hf := hf.lit 10 rfl hc
      refine pRun_ok (tb := tab) (n := 15) tabOk 5 _ _ hf rfl rfl fun a hf => ?_
      obtain rfl := Option.some.inj hGc
      have hf := hf.prune [6] rfl
      have H := H.let [] [] [] []
      exact wl_end ⟨hf, H⟩
  rintro a w ⟨hf, H⟩
  refine then_n ?_
  refine wp_ret (?_)
  obtain rfl := Option.some.inj hF
  refine ret_1 (fn := Try.f98) (r := .tmp 6) hf rfl (rv_tmp hf rfl) ?_
  exact ⟨_, rfl, H.bel, mk_bool⟩

/- loop.example/g00897/impl.JustifyBuffer -/
set_option maxHeartbeats 1000000 in
theorem impl_JustifyBuffer_ok {fu : Nat} {w0 : World} {S : Nat → Prop} {v0_ : Value} {v1_ : Value} {v2_ : Value} {v3_ : Value} {v4_ : Value} {fill : Int} {writes : List Int} {size : Int} {low : Int} {high : Int} {r : List Int × List Int × Bool} (h0 : VR w0 S v0_ fill) (h1 : VR w0 S v1_ writes) (h2 : VR w0 S v2_ size) (h3 : VR w0 S v3_ low) (h4 : VR w0 S v4_ high) (hF : impl_JustifyBuffer fu fill writes size low high = some r) :
    Calls Try.prog 42 [v0_, v1_, v2_, v3_, v4_].toArray w0 fun e w' => ∃ v, e = .returned v ∧ (Below w0.heap.size w0 w' ∧ ∃ F0 F1, ∃ u0 u1 u2, v = .tuple #[u0, u1, u2] ∧ VO w' F0 u0 r.1 ∧ VO w' F1 u1 r.2.1 ∧ VR w' (St ⟨w0, []⟩ S [] [] [] true) u2 r.2.2 ∧ New w0 w' (F0 ++ F1)) := by
  obtain rfl := VR_int h0
  obtain ⟨A, c, rfl, hl⟩ := VR_list h1
  obtain rfl := VR_int h2
  obtain rfl := VR_int h3
  obtain rfl := VR_int h4
  have H := Mem.start ⟨w0, []⟩ S
  have H := H.pushArg (MP.val [(.slice A writes.length c)] writes) hl
  refine enter Try.func42 rfl rfl (nle rfl) rfl fun a hf => ?_
  rw [impl_JustifyBuffer] at hF
  refine sq ?_
  refine reg ?_
  refine pRun_ok (tb := tab) (n := 87) tabOk 3 _ _ hf rfl rfl fun a hf => ?_
  refine wl_end ?_
  refine then_n ?_
  refine sq ?_
  refine sq ?_
  obtain ⟨c2, hGc2, hF⟩ := bind_some hF
  refine mid (fun a w => Fr a 87 [(0, (.int .i64 fill)), (1, (.slice A writes.length c)), (2, (.int .i64 size)), (3, (.int .i64 low)), (4, (.int .i64 high)), (42, (.bool c2))] ∧ Mem ⟨w0, []⟩ S [] [] [] [(false, MP.val [(.slice A writes.length c)] (writes : List Int))] w) ?_ ?_
  · refine reg ?_
    refine pRun_ok (tb := tab) (n := 87) tabOk 1 _ _ hf rfl rfl fun a hf => ?_
    obtain ⟨y, hy, hGc2⟩ := bind_some hGc2
    refine wl0 rfl (op_call hf TF.cl98 rfl (by decide) (impl_within_ok (S := fun _ => True) mk_int mk_int mk_int hy) fun v w a hp hf => ?_)
    obtain ⟨hb, hp⟩ := hp
    obtain rfl := VR_bool hp
    have H := H.keep hb
    refine pRun_ok (tb := tab) (n := 87) tabOk 2 _ _ hf rfl rfl fun a hf => ?_
    refine (Bool.eq_false_or_eq_true (!y)).elim (fun hc => ?_) (fun hc => ?_)
    · rw [if_pos hc] at hGc2
      have hf := hf.lit 21 rfl hc
      refine pRun_ok (tb := tab) (n := 87) tabOk 21 _ _ hf rfl rfl fun a hf => ?_
      obtain rfl := Option.some.inj hGc2
      have hf := hf.prune [0, 1, 2, 3, 4, 42] rfl
      have H := H.let [] [] [] [0]
      exact wl_end ⟨hf, H⟩
    · rw [if_neg (nt hc)] at hGc2
      have hf := hf.lit 21 rfl hc
      refine pRun_ok (tb := tab) (n := 87) tabOk 2 _ _ hf rfl rfl fun a hf => ?_
      obtain ⟨y2, hy2, hGc2⟩ := bind_some hGc2
      refine wlg hf rfl rfl rfl (op_call hf TF.cl98 rfl (by decide) (impl_within_ok (S := fun _ => True) mk_int mk_int mk_int hy2) fun v2 w a hp2 hf => ?_)
      obtain ⟨hb2, hp2⟩ := hp2
      obtain rfl := VR_bool hp2
      have H := H.keep hb2
      refine pRun_ok (tb := tab) (n := 87) tabOk 3 _ _ hf rfl rfl fun a hf => ?_
      refine (Bool.eq_false_or_eq_true (!y2)).elim (fun hc2 => ?_) (fun hc2 => ?_)
      · rw [if_pos hc2] at hGc2
        have hf := hf.lit 27 rfl hc2
        refine pRun_ok (tb := tab) (n := 87) tabOk 15 _ _ hf rfl rfl fun a hf => ?_
        obtain rfl := Option.some.inj hGc2
        have hf := hf.prune [0, 1, 2, 3, 4, 42] rfl
        have H := H.let [] [] [] [0]
        exact wl_end ⟨hf, H⟩
      · rw [if_neg (nt hc2)] at hGc2
        have hf := hf.lit 27 rfl hc2
        refine pRun_ok (tb := tab) (n := 87) tabOk 2 _ _ hf rfl rfl fun a hf => ?_
        obtain ⟨y3, hy3, hGc2⟩ := bind_some hGc2
        refine wlg hf rfl rfl rfl (op_call hf TF.cl98 rfl (by decide) (impl_within_ok (S := fun _ => True) mk_int mk_int mk_int hy3) fun v3 w a hp3 hf => ?_)
        obtain ⟨hb3, hp3⟩ := hp3
        obtain rfl := VR_bool hp3
        have H := H.keep hb3
        refine pRun_ok (tb := tab) (n := 87) tabOk 3 _ _ hf rfl rfl fun a hf => ?_
        refine (Bool.eq_false_or_eq_true (!y3)).elim (fun hc3 => ?_) (fun hc3 => ?_)
        · rw [if_pos hc3] at hGc2
          have hf := hf.lit 33 rfl hc3
          refine pRun_ok (tb := tab) (n := 87) tabOk 9 _ _ hf rfl rfl fun a hf => ?_
          obtain rfl := Option.some.inj hGc2
          have hf := hf.prune [0, 1, 2, 3, 4, 42] rfl
          have H := H.let [] [] [] [0]
          exact wl_end ⟨hf, H⟩
        · rw [if_neg (nt hc3)] at hGc2
          have hf := hf.lit 33 rfl hc3
          refine pRun_ok (tb := tab) (n := 87) tabOk 5 _ _ hf rfl rfl fun a hf => ?_
          refine (Bool.eq_false_or_eq_true (decide (high > size))).elim (fun hc4 => ?_) (fun hc4 => ?_)
          · rw [if_pos hc4] at hGc2
            have hf := hf.lit 38 rfl hc4
            refine pRun_ok (tb := tab) (n := 87) tabOk 4 _ _ hf rfl rfl fun a hf => ?_
            obtain rfl := Option.some.inj hGc2
            have hf := hf.prune [0, 1, 2, 3, 4, 42] rfl
            have H := H.let [] [] [] [0]
            exact wl_end ⟨hf, H⟩
          · rw [if_neg (nt hc4)] at hGc2
            have hf := hf.lit 38 rfl hc4
            refine pRun_ok (tb := tab) (n := 87) tabOk 4 _ _ hf rfl rfl fun a hf => ?_
            obtain rfl := Option.some.inj hGc2
            have hf := hf.prune [0, 1, 2, 3, 4, 42] rfl
            have H := H.let [] [] [] [0]
            exact wl_end ⟨hf, H⟩
  rintro a w ⟨hf, H⟩
  refine then_n ?_
  refine (Bool.eq_false_or_eq_true (c2)).elim (fun hc5 => ?_) (fun hc5 => ?_)
  · rw [if_pos hc5] at hF
    refine cd_t hf rfl hc5 ?_
    refine sq ?_
    refine reg ?_
    refine pRun_ok (tb := tab) (n := 87) tabOk 3 _ _ hf rfl rfl fun a hf => ?_
    refine wl_end ?_
    refine then_n ?_
    refine wp_ret (then_r (?_))
    have H := H.ownNil (Int)
    have H := H.lend 0 rfl
    have H := H.ownNil (Int)
    have H := H.lend 0 rfl
    have H := H.frontD 1 rfl
    obtain rfl := Option.some.inj hF
    refine ret_3 (fn := Try.f42) (r := .tmp 10) (s := .tmp 11) (t := .tmp 12) hf rfl (rv_tmp hf rfl) (rv_tmp hf rfl) (rv_tmp hf rfl) ?_
    have hN : New w0 w ([] ++ []) := by simpa using H.ends (X := [(⟨[], MP.own [] [(.slice none 0 0)] ([] : List Int)⟩ : DI), (⟨[], MP.own [] [(.slice none 0 0)] ([] : List Int)⟩ : DI)])
    exact ⟨_, rfl, H.bel, [], [], _, _, _, rfl, (mko_list (H.ownAt 0 rfl)), (mko_list (H.ownAt 1 rfl)), mk_bool, hN⟩
  · rw [if_neg (nt hc5)] at hF
    refine cd_f hf rfl hc5 ?_
    refine wp_skip ?_
    refine then_n ?_
    refine sq ?_
    refine reg ?_
    refine wl0 rfl (op_bslice hf H (.sh true) rfl 3 ([] : List Int) [] rfl (fun w => by kernel_rfl) rfl (by decide) rfl trivial el0 (by decide) fun A2 a w hf H => ?_)
    refine wl0 rfl (op_bslice hf H (.sh true) rfl 3 ([] : List Int) [] rfl (fun w => by kernel_rfl) rfl (by decide) rfl trivial el0 (by decide) fun A3 a w hf H => ?_)
    refine pRun_ok (tb := tab) (n := 87) tabOk 2 _ _ hf rfl rfl fun a hf => ?_
    refine wl_end ?_
    refine then_n ?_
    refine sq ?_
    refine sq ?_
    refine reg ?_
    refine pRun_ok (tb := tab) (n := 87) tabOk 3 _ _ hf rfl rfl fun a hf => ?_
    refine wl_end ?_
    refine then_n ?_
    obtain ⟨out', hB1, hF⟩ := bind_some hF
    have hf := hf.prune [0, 2, 3, 4, 13, 14, 45, 46, 47] rfl
    have H := H.let [] [true, true] [] [0]
    have hI : (fun (s : Int × List Int × List Int × Int) (a : Act) (w : World) => match s with | (fill2, drifts, fills, i) => ∃ (A4 : Option Addr) (c3 : Nat) (A5 : Option Addr) (c4 : Nat), Fr a 87 [(0, (.int .i64 fill2)), (2, (.int .i64 size)), (3, (.int .i64 low)), (4, (.int .i64 high)), (13, (.slice A4 drifts.length c3)), (14, (.slice A5 fills.length c4)), (45, (.slice A writes.length c)), (46, (.int .i64 (writes.length : Int))), (47, (.int .i64 i))] ∧ Mem ⟨w0, []⟩ S [] [⟨.sh true, 3, A5, c4, (fills : List Int)⟩, ⟨.sh true, 3, A4, c3, (drifts : List Int)⟩] [] [(false, MP.val [(.slice A writes.length c)] (writes : List Int))] w) (fill, ([] : List Int), ([] : List Int), 0) a w := ⟨A2, 0, A3, 0, hf, H⟩
    refine mid (fun a w => ∃ s : Int × List Int × List Int × Int, out' = Out.next s ∧ (fun (s : Int × List Int × List Int × Int) (a : Act) (w : World) => match s with | (fill2, drifts, fills, i) => ∃ (A4 : Option Addr) (c3 : Nat) (A5 : Option Addr) (c4 : Nat), Fr a 87 [(0, (.int .i64 fill2)), (2, (.int .i64 size)), (3, (.int .i64 low)), (4, (.int .i64 high)), (13, (.slice A4 drifts.length c3)), (14, (.slice A5 fills.length c4)), (45, (.slice A writes.length c)), (46, (.int .i64 (writes.length : Int))), (47, (.int .i64 i))] ∧ Mem ⟨w0, []⟩ S [] [⟨.sh true, 3, A5, c4, (fills : List Int)⟩, ⟨.sh true, 3, A4, c3, (drifts : List Int)⟩] [] [(false, MP.val [(.slice A writes.length c)] (writes : List Int))] w) s a w) ?_ ?_
    · refine wp_block ?_
      refine loop_rule (fun k (s : Int × List Int × List Int × Int) => impl_JustifyBuffer_L1 fu writes size low high k s.1 s.2.1 s.2.2.1 s.2.2.2 = some out') (fun (s : Int × List Int × List Int × Int) (a : Act) (w : World) => match s with | (fill2, drifts, fills, i) => ∃ (A4 : Option Addr) (c3 : Nat) (A5 : Option Addr) (c4 : Nat), Fr a 87 [(0, (.int .i64 fill2)), (2, (.int .i64 size)), (3, (.int .i64 low)), (4, (.int .i64 high)), (13, (.slice A4 drifts.length c3)), (14, (.slice A5 fills.length c4)), (45, (.slice A writes.length c)), (46, (.int .i64 (writes.length : Int))), (47, (.int .i64 i))] ∧ Mem ⟨w0, []⟩ S [] [⟨.sh true, 3, A5, c4, (fills : List Int)⟩, ⟨.sh true, 3, A4, c3, (drifts : List Int)⟩] [] [(false, MP.val [(.slice A writes.length c)] (writes : List Int))] w) (fun s h => by cases h) ?_ fu (fill, ([] : List Int), ([] : List Int), 0) a w hB1 hI
      rintro fk ⟨fill2, drifts, fills, i⟩ a w hR1 hI
      replace hR1 : impl_JustifyBuffer_L1 fu writes size low high (fk + 1) fill2 drifts fills i = some out' := hR1
      rw [impl_JustifyBuffer_L1] at hR1
      obtain ⟨A4, c3, A5, c4, hf, H⟩ := hI
      refine sq ?_
      refine reg ?_
      refine pRun_ok (tb := tab) (n := 87) tabOk 1 _ _ hf rfl rfl fun a hf => ?_
      refine wl_end ?_
      refine then_n ?_
      refine sq ?_
      refine (Bool.eq_false_or_eq_true (decide (i < (writes.length : Int)))).elim (fun hc6 => ?_) (fun hc6 => ?_)
      · rw [if_pos hc6] at hR1
        refine cd_t hf rfl hc6 ?_
        refine wp_skip ?_
        refine then_n ?_
        refine sq ?_
        refine wp_block ?_
        refine sq ?_
        refine reg ?_
        obtain ⟨e, he, hR1⟩ := bind_some hR1
        refine wl0 rfl (op_iaddr hf H Try.underlying35 TF.sz3 0 rfl rfl rfl he (by decide) fun p o cs a hf hr H => ?_)
        obtain rfl := hr
        refine wl0 rfl (op_q hf (rq_loadI hf H TF.ls3 0 0 rfl rfl rfl) rfl (by decide) fun a hf => ?_)
        refine pRun_ok (tb := tab) (n := 87) tabOk 1 _ _ hf rfl rfl fun a hf => ?_
        refine wl_end ?_
        refine then_n ?_
        refine sq ?_
        refine sq ?_
        refine reg ?_
        refine pRun_ok (tb := tab) (n := 87) tabOk 1 _ _ hf rfl rfl fun a hf => ?_
        obtain ⟨y4, hy4, hR1⟩ := bind_some hR1
        refine wl0 rfl (op_call hf TF.cl98 rfl (by decide) (impl_within_ok (S := fun _ => True) mk_int mk_int mk_int hy4) fun v4 w a hp4 hf => ?_)
        obtain ⟨hb4, hp4⟩ := hp4
        obtain rfl := VR_bool hp4
        have H := H.keep hb4
        refine pRun_ok (tb := tab) (n := 87) tabOk 1 _ _ hf rfl rfl fun a hf => ?_
        refine wl_end ?_
        refine then_n ?_
        refine (Bool.eq_false_or_eq_true (!y4)).elim (fun hc7 => ?_) (fun hc7 => ?_)
        · rw [if_pos hc7] at hR1
          refine cd_t hf rfl hc7 ?_
          refine sq ?_
          refine reg ?_
          refine pRun_ok (tb := tab) (n := 87) tabOk 3 _ _ hf rfl rfl fun a hf => ?_
          have hf := hf.prune [10, 11, 12] rfl
          refine wl_end ?_
          refine then_n ?_
          refine wp_ret (then_r (blk_r (then_r (then_r (blk_r (then_r (then_r (?_))))))))
          have H := H.ownNil (Int)
          have H := H.lend 0 rfl
          have H := H.ownNil (Int)
          have H := H.lend 0 rfl
          have H := H.frontD 1 rfl
          obtain rfl := Option.some.inj hR1
          replace hF := on_ret hF
          obtain rfl := Option.some.inj hF
          refine ret_3 (fn := Try.f42) (r := .tmp 10) (s := .tmp 11) (t := .tmp 12) hf rfl (rv_tmp hf rfl) (rv_tmp hf rfl) (rv_tmp hf rfl) ?_
          have hN : New w0 w ([] ++ []) := by simpa using H.ends (X := [(⟨[], MP.own [] [(.slice none 0 0)] ([] : List Int)⟩ : DI), (⟨[], MP.own [] [(.slice none 0 0)] ([] : List Int)⟩ : DI)])
          exact ⟨_, rfl, H.bel, [], [], _, _, _, rfl, (mko_list (H.ownAt 0 rfl)), (mko_list (H.ownAt 1 rfl)), mk_bool, hN⟩
        · rw [if_neg (nt hc7)] at hR1
          refine cd_f hf rfl hc7 ?_
          refine wp_skip ?_
          refine then_n ?_
          refine sq ?_
          refine reg ?_
          refine pRun_ok (tb := tab) (n := 87) tabOk 4 _ _ hf rfl rfl fun a hf => ?_
          refine wl_end ?_
          refine then_n ?_
          refine sq ?_
          refine reg ?_
          refine pRun_ok (tb := tab) (n := 87) tabOk 1 _ _ hf rfl rfl fun a hf => ?_
          refine wl_end ?_
          refine then_n ?_
          refine sq ?_
          refine sq ?_
          refine reg ?_
          refine pRun_ok (tb := tab) (n := 87) tabOk 3 _ _ hf rfl rfl fun a hf => ?_
          refine wl_end ?_
          refine then_n ?_
          refine (Bool.eq_false_or_eq_true (decide ((w64 (fill2 + e)) > high))).elim (fun hc8 => ?_) (fun hc8 => ?_)
          · rw [if_pos hc8] at hR1
            refine cd_t hf rfl hc8 ?_
            refine reg ?_
            refine pRun_ok (tb := tab) (n := 87) tabOk 1 _ _ hf rfl rfl fun a hf => ?_
            have hf := hf.prune [0, 2, 3, 4, 13, 14, 17, 45, 46, 47] rfl
            refine wl_end ?_
            refine then_n ?_
            refine sq ?_
            refine sq ?_
            refine reg ?_
            refine pRun_ok (tb := tab) (n := 87) tabOk 3 _ _ hf rfl rfl fun a hf => ?_
            refine wl_end ?_
            refine then_n ?_
            refine (Bool.eq_false_or_eq_true (decide ((w64 (fill2 + e)) < low))).elim (fun hc9 => ?_) (fun hc9 => ?_)
            · rw [if_pos hc9] at hR1
              refine cd_t hf rfl hc9 ?_
              refine reg ?_
              refine pRun_ok (tb := tab) (n := 87) tabOk 1 _ _ hf rfl rfl fun a hf => ?_
              refine wl_end ?_
              refine then_n ?_
              refine sq ?_
              refine sq ?_
              obtain ⟨c5, hGc5, hR1⟩ := bind_some hR1
              refine mid (fun a w => Fr a 87 [(0, (.int .i64 (w64 (fill2 + e)))), (2, (.int .i64 size)), (3, (.int .i64 low)), (4, (.int .i64 high)), (13, (.slice A4 drifts.length c3)), (14, (.slice A5 fills.length c4)), (17, (.int .i64 (-1))), (45, (.slice A writes.length c)), (46, (.int .i64 (writes.length : Int))), (47, (.int .i64 i)), (71, (.bool c5))] ∧ Mem ⟨w0, []⟩ S [] [⟨.sh true, 3, A5, c4, (fills : List Int)⟩, ⟨.sh true, 3, A4, c3, (drifts : List Int)⟩] [] [(false, MP.val [(.slice A writes.length c)] (writes : List Int))] w) ?_ ?_
              · refine reg ?_
                refine pRun_ok (tb := tab) (n := 87) tabOk 4 _ _ hf rfl rfl fun a hf => ?_
                refine (Bool.eq_false_or_eq_true (decide ((w64 (fill2 + e)) > size))).elim (fun hc10 => ?_) (fun hc10 => ?_)
                · rw [if_pos hc10] at hGc5
                  have hf := hf.lit 66 rfl hc10
                  refine pRun_ok (tb := tab) (n := 87) tabOk 5 _ _ hf rfl rfl fun a hf => ?_
                  obtain rfl := Option.some.inj hGc5
                  have hf := hf.prune [0, 2, 3, 4, 13, 14, 17, 45, 46, 47, 71] rfl
                  have H := H.let [] [true, true] [] [1]
                  exact wl_end ⟨hf, H⟩
                · rw [if_neg (nt hc10)] at hGc5
                  have hf := hf.lit 66 rfl hc10
                  refine pRun_ok (tb := tab) (n := 87) tabOk 5 _ _ hf rfl rfl fun a hf => ?_
                  obtain rfl := Option.some.inj hGc5
                  have hf := hf.prune [0, 2, 3, 4, 13, 14, 17, 45, 46, 47, 71] rfl
                  have H := H.let [] [true, true] [] [1]
                  exact wl_end ⟨hf, H⟩
              rintro a w ⟨hf, H⟩
              refine then_n ?_
              refine (Bool.eq_false_or_eq_true (c5)).elim (fun hc11 => ?_) (fun hc11 => ?_)
              · rw [if_pos hc11] at hR1
                refine cd_t hf rfl hc11 ?_
                refine sq ?_
                refine reg ?_
                refine pRun_ok (tb := tab) (n := 87) tabOk 3 _ _ hf rfl rfl fun a hf => ?_
                refine wl_end ?_
                refine then_n ?_
                refine wp_ret (then_r (blk_r (then_r (then_r (blk_r (then_r (then_r (?_))))))))
                have H := H.ownNil (Int)
                have H := H.lend 0 rfl
                have H := H.ownNil (Int)
                have H := H.lend 0 rfl
                have H := H.frontD 1 rfl
                obtain rfl := Option.some.inj hR1
                replace hF := on_ret hF
                obtain rfl := Option.some.inj hF
                refine ret_3 (fn := Try.f42) (r := .tmp 10) (s := .tmp 11) (t := .tmp 12) hf rfl (rv_tmp hf rfl) (rv_tmp hf rfl) (rv_tmp hf rfl) ?_
                have hN : New w0 w ([] ++ []) := by simpa using H.ends (X := [(⟨[], MP.own [] [(.slice none 0 0)] ([] : List Int)⟩ : DI), (⟨[], MP.own [] [(.slice none 0 0)] ([] : List Int)⟩ : DI)])
                exact ⟨_, rfl, H.bel, [], [], _, _, _, rfl, (mko_list (H.ownAt 0 rfl)), (mko_list (H.ownAt 1 rfl)), mk_bool, hN⟩
              · rw [if_neg (nt hc11)] at hR1
                refine cd_f hf rfl hc11 ?_
                refine wp_skip ?_
                refine then_n ?_
                refine sq ?_
                refine reg ?_
                refine pRun_ok (tb := tab) (n := 87) tabOk 5 _ _ hf rfl rfl fun a hf => ?_
                refine wl_end ?_
                refine then_n ?_
                refine reg ?_
                refine pRun_ok (tb := tab) (n := 87) tabOk 2 _ _ hf rfl rfl fun a hf => ?_
                refine wl0 rfl (op_bslice hf H (.sh true) rfl 3 ([(-1)] : List Int) [(.int .i64 (-1))] rfl (fun w => by kernel_rfl) rfl (by decide) rfl trivial (el1 (y := (-1)) rfl) (by decide) fun A6 a w hf H => ?_)
                obtain ⟨l, hl, hR1⟩ := bind_some hR1
                refine wl0 rfl (op_appR hf H Try.underlying35 TF.ai3 rfl (by decide) 2 0 rfl rfl rfl rfl (.inr rfl) hl (by decide) fun A7 c6 a w hf H => ?_)
                refine pRun_ok (tb := tab) (n := 87) tabOk 2 _ _ hf rfl rfl fun a hf => ?_
                refine wl0 rfl (op_bslice hf H (.sh true) rfl 3 ([w64 ((w64 (fill2 + e)) - (w64 (12 + (-1))))] : List Int) [(.int .i64 (w64 ((w64 (fill2 + e)) - (w64 (12 + (-1))))))] rfl (fun w => by kernel_rfl) rfl (by decide) rfl trivial (el1 (y := w64 ((w64 (fill2 + e)) - (w64 (12 + (-1))))) rfl) (by decide) fun A8 a w hf H => ?_)
                obtain ⟨l2, hl2, hR1⟩ := bind_some hR1
                refine wl0 rfl (op_appR hf H Try.underlying35 TF.ai3 rfl (by decide) 2 0 rfl rfl rfl rfl (.inr rfl) hl2 (by decide) fun A9 c7 a w hf H => ?_)
                refine pRun_ok (tb := tab) (n := 87) tabOk 2 _ _ hf rfl rfl fun a hf => ?_
                have hf := hf.prune [0, 2, 3, 4, 13, 14, 45, 46, 47] rfl
                refine wl_end ?_
                refine blk_n ?_
                refine then_n ?_
                refine reg ?_
                refine pRun_ok (tb := tab) (n := 87) tabOk 2 _ _ hf rfl rfl fun a hf => ?_
                refine wl_end ?_
                have hf := hf.prune [0, 2, 3, 4, 13, 14, 45, 46, 47] rfl
                have H := H.let [] [false, false, true, true] [] [0]
                exact then_n ⟨(w64 ((w64 (fill2 + e)) - (w64 (12 + (-1)))), l, l2, w64 (i + 1)), hR1, A7, c6, A9, c7, hf, H⟩
            · rw [if_neg (nt hc9)] at hR1
              refine cd_f hf rfl hc9 ?_
              refine wp_skip ?_
              refine then_n ?_
              refine sq ?_
              refine sq ?_
              obtain ⟨c8, hGc8, hR1⟩ := bind_some hR1
              refine mid (fun a w => Fr a 87 [(0, (.int .i64 (w64 (fill2 + e)))), (2, (.int .i64 size)), (3, (.int .i64 low)), (4, (.int .i64 high)), (13, (.slice A4 drifts.length c3)), (14, (.slice A5 fills.length c4)), (17, (.int .i64 1)), (45, (.slice A writes.length c)), (46, (.int .i64 (writes.length : Int))), (47, (.int .i64 i)), (71, (.bool c8))] ∧ Mem ⟨w0, []⟩ S [] [⟨.sh true, 3, A5, c4, (fills : List Int)⟩, ⟨.sh true, 3, A4, c3, (drifts : List Int)⟩] [] [(false, MP.val [(.slice A writes.length c)] (writes : List Int))] w) ?_ ?_
              · refine reg ?_
                refine pRun_ok (tb := tab) (n := 87) tabOk 4 _ _ hf rfl rfl fun a hf => ?_
                refine (Bool.eq_false_or_eq_true (decide ((w64 (fill2 + e)) > size))).elim (fun hc12 => ?_) (fun hc12 => ?_)
                · rw [if_pos hc12] at hGc8
                  have hf := hf.lit 66 rfl hc12
                  refine pRun_ok (tb := tab) (n := 87) tabOk 5 _ _ hf rfl rfl fun a hf => ?_
                  obtain rfl := Option.some.inj hGc8
                  have hf := hf.prune [0, 2, 3, 4, 13, 14, 17, 45, 46, 47, 71] rfl
                  have H := H.let [] [true, true] [] [1]
                  exact wl_end ⟨hf, H⟩
                · rw [if_neg (nt hc12)] at hGc8
                  have hf := hf.lit 66 rfl hc12
                  refine pRun_ok (tb := tab) (n := 87) tabOk 5 _ _ hf rfl rfl fun a hf => ?_
                  obtain rfl := Option.some.inj hGc8
                  have hf := hf.prune [0, 2, 3, 4, 13, 14, 17, 45, 46, 47, 71] rfl
                  have H := H.let [] [true, true] [] [1]
                  exact wl_end ⟨hf, H⟩
              rintro a w ⟨hf, H⟩
              refine then_n ?_
              refine (Bool.eq_false_or_eq_true (c8)).elim (fun hc13 => ?_) (fun hc13 => ?_)
              · rw [if_pos hc13] at hR1
                refine cd_t hf rfl hc13 ?_
                refine sq ?_
                refine reg ?_
                refine pRun_ok (tb := tab) (n := 87) tabOk 3 _ _ hf rfl rfl fun a hf => ?_
                refine wl_end ?_
                refine then_n ?_
                refine wp_ret (then_r (blk_r (then_r (then_r (blk_r (then_r (then_r (?_))))))))
                have H := H.ownNil (Int)
                have H := H.lend 0 rfl
                have H := H.ownNil (Int)
                have H := H.lend 0 rfl
                have H := H.frontD 1 rfl
                obtain rfl := Option.some.inj hR1
                replace hF := on_ret hF
                obtain rfl := Option.some.inj hF
                refine ret_3 (fn := Try.f42) (r := .tmp 10) (s := .tmp 11) (t := .tmp 12) hf rfl (rv_tmp hf rfl) (rv_tmp hf rfl) (rv_tmp hf rfl) ?_
                have hN : New w0 w ([] ++ []) := by simpa using H.ends (X := [(⟨[], MP.own [] [(.slice none 0 0)] ([] : List Int)⟩ : DI), (⟨[], MP.own [] [(.slice none 0 0)] ([] : List Int)⟩ : DI)])
                exact ⟨_, rfl, H.bel, [], [], _, _, _, rfl, (mko_list (H.ownAt 0 rfl)), (mko_list (H.ownAt 1 rfl)), mk_bool, hN⟩
              · rw [if_neg (nt hc13)] at hR1
                refine cd_f hf rfl hc13 ?_
                refine wp_skip ?_
                refine then_n ?_
                refine sq ?_
                refine reg ?_
                refine pRun_ok (tb := tab) (n := 87) tabOk 5 _ _ hf rfl rfl fun a hf => ?_
                refine wl_end ?_
                refine then_n ?_
                refine reg ?_
                refine pRun_ok (tb := tab) (n := 87) tabOk 2 _ _ hf rfl rfl fun a hf => ?_
                refine wl0 rfl (op_bslice hf H (.sh true) rfl 3 ([1] : List Int) [(.int .i64 1)] rfl (fun w => by kernel_rfl) rfl (by decide) rfl trivial (el1 (y := 1) rfl) (by decide) fun A10 a w hf H => ?_)
                obtain ⟨l3, hl3, hR1⟩ := bind_some hR1
                refine wl0 rfl (op_appR hf H Try.underlying35 TF.ai3 rfl (by decide) 2 0 rfl rfl rfl rfl (.inr rfl) hl3 (by decide) fun A11 c9 a w hf H => ?_)
                refine pRun_ok (tb := tab) (n := 87) tabOk 2 _ _ hf rfl rfl fun a hf => ?_
                refine wl0 rfl (op_bslice hf H (.sh true) rfl 3 ([w64 ((w64 (fill2 + e)) - (w64 (12 + 1)))] : List Int) [(.int .i64 (w64 ((w64 (fill2 + e)) - (w64 (12 + 1)))))] rfl (fun w => by kernel_rfl) rfl (by decide) rfl trivial (el1 (y := w64 ((w64 (fill2 + e)) - (w64 (12 + 1)))) rfl) (by decide) fun A12 a w hf H => ?_)
                obtain ⟨l4, hl4, hR1⟩ := bind_some hR1
                refine wl0 rfl (op_appR hf H Try.underlying35 TF.ai3 rfl (by decide) 2 0 rfl rfl rfl rfl (.inr rfl) hl4 (by decide) fun A13 c10 a w hf H => ?_)
                refine pRun_ok (tb := tab) (n := 87) tabOk 2 _ _ hf rfl rfl fun a hf => ?_
                have hf := hf.prune [0, 2, 3, 4, 13, 14, 45, 46, 47] rfl
                refine wl_end ?_
                refine blk_n ?_
                refine then_n ?_
                refine reg ?_
                refine pRun_ok (tb := tab) (n := 87) tabOk 2 _ _ hf rfl rfl fun a hf => ?_
                refine wl_end ?_
                have hf := hf.prune [0, 2, 3, 4, 13, 14, 45, 46, 47] rfl
                have H := H.let [] [false, false, true, true] [] [0]
                exact then_n ⟨(w64 ((w64 (fill2 + e)) - (w64 (12 + 1))), l3, l4, w64 (i + 1)), hR1, A11, c9, A13, c10, hf, H⟩
          · rw [if_neg (nt hc8)] at hR1
            refine cd_f hf rfl hc8 ?_
            refine wp_skip ?_
            refine then_n ?_
            refine sq ?_
            refine sq ?_
            refine reg ?_
            refine pRun_ok (tb := tab) (n := 87) tabOk 3 _ _ hf rfl rfl fun a hf => ?_
            have hf := hf.prune [0, 2, 3, 4, 13, 14, 17, 45, 46, 47, 62] rfl
            refine wl_end ?_
            refine then_n ?_
            refine (Bool.eq_false_or_eq_true (decide ((w64 (fill2 + e)) < low))).elim (fun hc14 => ?_) (fun hc14 => ?_)
            · rw [if_pos hc14] at hR1
              refine cd_t hf rfl hc14 ?_
              refine reg ?_
              refine pRun_ok (tb := tab) (n := 87) tabOk 1 _ _ hf rfl rfl fun a hf => ?_
              refine wl_end ?_
              refine then_n ?_
              refine sq ?_
              refine sq ?_
              obtain ⟨c11, hGc11, hR1⟩ := bind_some hR1
              refine mid (fun a w => Fr a 87 [(0, (.int .i64 (w64 (fill2 + e)))), (2, (.int .i64 size)), (3, (.int .i64 low)), (4, (.int .i64 high)), (13, (.slice A4 drifts.length c3)), (14, (.slice A5 fills.length c4)), (17, (.int .i64 (-1))), (45, (.slice A writes.length c)), (46, (.int .i64 (writes.length : Int))), (47, (.int .i64 i)), (71, (.bool c11))] ∧ Mem ⟨w0, []⟩ S [] [⟨.sh true, 3, A5, c4, (fills : List Int)⟩, ⟨.sh true, 3, A4, c3, (drifts : List Int)⟩] [] [(false, MP.val [(.slice A writes.length c)] (writes : List Int))] w) ?_ ?_
              · refine reg ?_
                refine pRun_ok (tb := tab) (n := 87) tabOk 4 _ _ hf rfl rfl fun a hf => ?_
                refine (Bool.eq_false_or_eq_true (decide ((w64 (fill2 + e)) > size))).elim (fun hc15 => ?_) (fun hc15 => ?_)
                · rw [if_pos hc15] at hGc11
                  have hf := hf.lit 66 rfl hc15
                  refine pRun_ok (tb := tab) (n := 87) tabOk 5 _ _ hf rfl rfl fun a hf => ?_
                  obtain rfl := Option.some.inj hGc11
                  have hf := hf.prune [0, 2, 3, 4, 13, 14, 17, 45, 46, 47, 71] rfl
                  have H := H.let [] [true, true] [] [1]
                  exact wl_end ⟨hf, H⟩
                · rw [if_neg (nt hc15)] at hGc11
                  have hf := hf.lit 66 rfl hc15
                  refine pRun_ok (tb := tab) (n := 87) tabOk 5 _ _ hf rfl rfl fun a hf => ?_
                  obtain rfl := Option.some.inj hGc11
                  have hf := hf.prune [0, 2, 3, 4, 13, 14, 17, 45, 46, 47, 71] rfl
                  have H := H.let [] [true, true] [] [1]
                  exact wl_end ⟨hf, H⟩
              rintro a w ⟨hf, H⟩
              refine then_n ?_
              refine (Bool.eq_false_or_eq_true (c11)).elim (fun hc16 => ?_) (fun hc16 => ?_)
              · rw [if_pos hc16] at hR1
                refine cd_t hf rfl hc16 ?_
                refine sq ?_
                refine reg ?_
                refine pRun_ok (tb := tab) (n := 87) tabOk 3 _ _ hf rfl rfl fun a hf => ?_
                refine wl_end ?_
                refine then_n ?_
                refine wp_ret (then_r (blk_r (then_r (then_r (blk_r (then_r (then_r (?_))))))))
                have H := H.ownNil (Int)
                have H := H.lend 0 rfl
                have H := H.ownNil (Int)
                have H := H.lend 0 rfl
                have H := H.frontD 1 rfl
                obtain rfl := Option.some.inj hR1
                replace hF := on_ret hF
                obtain rfl := Option.some.inj hF
                refine ret_3 (fn := Try.f42) (r := .tmp 10) (s := .tmp 11) (t := .tmp 12) hf rfl (rv_tmp hf rfl) (rv_tmp hf rfl) (rv_tmp hf rfl) ?_
                have hN : New w0 w ([] ++ []) := by simpa using H.ends (X := [(⟨[], MP.own [] [(.slice none 0 0)] ([] : List Int)⟩ : DI), (⟨[], MP.own [] [(.slice none 0 0)] ([] : List Int)⟩ : DI)])
                exact ⟨_, rfl, H.bel, [], [], _, _, _, rfl, (mko_list (H.ownAt 0 rfl)), (mko_list (H.ownAt 1 rfl)), mk_bool, hN⟩
              · rw [if_neg (nt hc16)] at hR1
                refine cd_f hf rfl hc16 ?_
                refine wp_skip ?_
                refine then_n ?_
                refine sq ?_
                refine reg ?_
                refine pRun_ok (tb := tab) (n := 87) tabOk 5 _ _ hf rfl rfl fun a hf => ?_
                refine wl_end ?_
                refine then_n ?_
                refine reg ?_
                refine pRun_ok (tb := tab) (n := 87) tabOk 2 _ _ hf rfl rfl fun a hf => ?_
                refine wl0 rfl (op_bslice hf H (.sh true) rfl 3 ([(-1)] : List Int) [(.int .i64 (-1))] rfl (fun w => by kernel_rfl) rfl (by decide) rfl trivial (el1 (y := (-1)) rfl) (by decide) fun A14 a w hf H => ?_)
                obtain ⟨l5, hl5, hR1⟩ := bind_some hR1
                refine wl0 rfl (op_appR hf H Try.underlying35 TF.ai3 rfl (by decide) 2 0 rfl rfl rfl rfl (.inr rfl) hl5 (by decide) fun A15 c12 a w hf H => ?_)
                refine pRun_ok (tb := tab) (n := 87) tabOk 2 _ _ hf rfl rfl fun a hf => ?_
                refine wl0 rfl (op_bslice hf H (.sh true) rfl 3 ([w64 ((w64 (fill2 + e)) - (w64 (12 + (-1))))] : List Int) [(.int .i64 (w64 ((w64 (fill2 + e)) - (w64 (12 + (-1))))))] rfl (fun w => by kernel_rfl) rfl (by decide) rfl trivial (el1 (y := w64 ((w64 (fill2 + e)) - (w64 (12 + (-1))))) rfl) (by decide) fun A16 a w hf H => ?_)
                obtain ⟨l6, hl6, hR1⟩ := bind_some hR1
                refine wl0 rfl (op_appR hf H Try.underlying35 TF.ai3 rfl (by decide) 2 0 rfl rfl rfl rfl (.inr rfl) hl6 (by decide) fun A17 c13 a w hf H => ?_)
                refine pRun_ok (tb := tab) (n := 87) tabOk 2 _ _ hf rfl rfl fun a hf => ?_
                have hf := hf.prune [0, 2, 3, 4, 13, 14, 45, 46, 47] rfl
                refine wl_end ?_
                refine blk_n ?_
                refine then_n ?_
                refine reg ?_
                refine pRun_ok (tb := tab) (n := 87) tabOk 2 _ _ hf rfl rfl fun a hf => ?_
                refine wl_end ?_
                have hf := hf.prune [0, 2, 3, 4, 13, 14, 45, 46, 47] rfl
                have H := H.let [] [false, false, true, true] [] [0]
                exact then_n ⟨(w64 ((w64 (fill2 + e)) - (w64 (12 + (-1)))), l5, l6, w64 (i + 1)), hR1, A15, c12, A17, c13, hf, H⟩
            · rw [if_neg (nt hc14)] at hR1
              refine cd_f hf rfl hc14 ?_
              refine wp_skip ?_
              refine then_n ?_
              refine sq ?_
              refine sq ?_
              obtain ⟨c14, hGc14, hR1⟩ := bind_some hR1
              refine mid (fun a w => Fr a 87 [(0, (.int .i64 (w64 (fill2 + e)))), (2, (.int .i64 size)), (3, (.int .i64 low)), (4, (.int .i64 high)), (13, (.slice A4 drifts.length c3)), (14, (.slice A5 fills.length c4)), (17, (.int .i64 0)), (45, (.slice A writes.length c)), (46, (.int .i64 (writes.length : Int))), (47, (.int .i64 i)), (71, (.bool c14))] ∧ Mem ⟨w0, []⟩ S [] [⟨.sh true, 3, A5, c4, (fills : List Int)⟩, ⟨.sh true, 3, A4, c3, (drifts : List Int)⟩] [] [(false, MP.val [(.slice A writes.length c)] (writes : List Int))] w) ?_ ?_
              · refine reg ?_
                refine pRun_ok (tb := tab) (n := 87) tabOk 4 _ _ hf rfl rfl fun a hf => ?_
                refine (Bool.eq_false_or_eq_true (decide ((w64 (fill2 + e)) > size))).elim (fun hc17 => ?_) (fun hc17 => ?_)
                · rw [if_pos hc17] at hGc14
                  have hf := hf.lit 66 rfl hc17
                  refine pRun_ok (tb := tab) (n := 87) tabOk 5 _ _ hf rfl rfl fun a hf => ?_
                  obtain rfl := Option.some.inj hGc14
                  have hf := hf.prune [0, 2, 3, 4, 13, 14, 17, 45, 46, 47, 71] rfl
                  have H := H.let [] [true, true] [] [1]
                  exact wl_end ⟨hf, H⟩
                · rw [if_neg (nt hc17)] at hGc14
                  have hf := hf.lit 66 rfl hc17
                  refine pRun_ok (tb := tab) (n := 87) tabOk 5 _ _ hf rfl rfl fun a hf => ?_
                  obtain rfl := Option.some.inj hGc14
                  have hf := hf.prune [0, 2, 3, 4, 13, 14, 17, 45, 46, 47, 71] rfl
                  have H := H.let [] [true, true] [] [1]
                  exact wl_end ⟨hf, H⟩
              rintro a w ⟨hf, H⟩
              refine then_n ?_
              refine (Bool.eq_false_or_eq_true (c14)).elim (fun hc18 => ?_) (fun hc18 => ?_)
              · rw [if_pos hc18] at hR1
                refine cd_t hf rfl hc18 ?_
                refine sq ?_
                refine reg ?_
                refine pRun_ok (tb := tab) (n := 87) tabOk 3 _ _ hf rfl rfl fun a hf => ?_
                refine wl_end ?_
                refine then_n ?_
                refine wp_ret (then_r (blk_r (then_r (then_r (blk_r (then_r (then_r (?_))))))))
                have H := H.ownNil (Int)
                have H := H.lend 0 rfl
                have H := H.ownNil (Int)
                have H := H.lend 0 rfl
                have H := H.frontD 1 rfl
                obtain rfl := Option.some.inj hR1
                replace hF := on_ret hF
                obtain rfl := Option.some.inj hF
                refine ret_3 (fn := Try.f42) (r := .tmp 10) (s := .tmp 11) (t := .tmp 12) hf rfl (rv_tmp hf rfl) (rv_tmp hf rfl) (rv_tmp hf rfl) ?_
                have hN : New w0 w ([] ++ []) := by simpa using H.ends (X := [(⟨[], MP.own [] [(.slice none 0 0)] ([] : List Int)⟩ : DI), (⟨[], MP.own [] [(.slice none 0 0)] ([] : List Int)⟩ : DI)])
                exact ⟨_, rfl, H.bel, [], [], _, _, _, rfl, (mko_list (H.ownAt 0 rfl)), (mko_list (H.ownAt 1 rfl)), mk_bool, hN⟩
              · rw [if_neg (nt hc18)] at hR1
                refine cd_f hf rfl hc18 ?_
                refine wp_skip ?_
                refine then_n ?_
                refine sq ?_
                refine reg ?_
                refine pRun_ok (tb := tab) (n := 87) tabOk 5 _ _ hf rfl rfl fun a hf => ?_
                refine wl_end ?_
                refine then_n ?_
                refine reg ?_
                refine pRun_ok (tb := tab) (n := 87) tabOk 2 _ _ hf rfl rfl fun a hf => ?_
                refine wl0 rfl (op_bslice hf H (.sh true) rfl 3 ([0] : List Int) [(.int .i64 0)] rfl (fun w => by kernel_rfl) rfl (by decide) rfl trivial (el1 (y := 0) rfl) (by decide) fun A18 a w hf H => ?_)
                obtain ⟨l7, hl7, hR1⟩ := bind_some hR1
                refine wl0 rfl (op_appR hf H Try.underlying35 TF.ai3 rfl (by decide) 2 0 rfl rfl rfl rfl (.inr rfl) hl7 (by decide) fun A19 c15 a w hf H => ?_)
                refine pRun_ok (tb := tab) (n := 87) tabOk 2 _ _ hf rfl rfl fun a hf => ?_
                refine wl0 rfl (op_bslice hf H (.sh true) rfl 3 ([w64 ((w64 (fill2 + e)) - (w64 (12 + 0)))] : List Int) [(.int .i64 (w64 ((w64 (fill2 + e)) - (w64 (12 + 0)))))] rfl (fun w => by kernel_rfl) rfl (by decide) rfl trivial (el1 (y := w64 ((w64 (fill2 + e)) - (w64 (12 + 0)))) rfl) (by decide) fun A20 a w hf H => ?_)
                obtain ⟨l8, hl8, hR1⟩ := bind_some hR1
                refine wl0 rfl (op_appR hf H Try.underlying35 TF.ai3 rfl (by decide) 2 0 rfl rfl rfl rfl (.inr rfl) hl8 (by decide) fun A21 c16 a w hf H => ?_)
                refine pRun_ok (tb := tab) (n := 87) tabOk 2 _ _ hf rfl rfl fun a hf => ?_
                have hf := hf.prune [0, 2, 3, 4, 13, 14, 45, 46, 47] rfl
                refine wl_end ?_
                refine blk_n ?_
                refine then_n ?_
                refine reg ?_
                refine pRun_ok (tb := tab) (n := 87) tabOk 2 _ _ hf rfl rfl fun a hf => ?_
                refine wl_end ?_
                have hf := hf.prune [0, 2, 3, 4, 13, 14, 45, 46, 47] rfl
                have H := H.let [] [false, false, true, true] [] [0]
                exact then_n ⟨(w64 ((w64 (fill2 + e)) - (w64 (12 + 0))), l7, l8, w64 (i + 1)), hR1, A19, c15, A21, c16, hf, H⟩
      · rw [if_neg (nt hc6)] at hR1
        refine cd_f hf rfl hc6 ?_
        refine wp_exit (then_x (then_x (blk_e (?_))))
        have hf := hf.prune [0, 2, 3, 4, 13, 14, 45, 46, 47] rfl
        have H := H.let [] [true, true] [] [0]
        exact ⟨(fill2, drifts, fills, i), (Option.some.inj hR1).symm, A4, c3, A5, c4, hf, H⟩
    rintro a w ⟨⟨fill3, drifts2, fills2, i2⟩, rfl, A22, c17, A23, c18, hf, H⟩
    replace hF := on_next hF
    dsimp only at hF
    refine then_n ?_
    refine sq ?_
    refine reg ?_
    refine pRun_ok (tb := tab) (n := 87) tabOk 5 _ _ hf rfl rfl fun a hf => ?_
    refine wl_end ?_
    refine then_n ?_
    refine wp_ret (?_)
    have H := H.rowOwn 1 rfl rfl
    obtain ⟨F, H⟩ := H.freezeOwn 1 rfl
    have H := H.lend 0 rfl
    have H := H.rowOwn 0 rfl rfl
    obtain ⟨F2, H⟩ := H.freezeOwn 0 rfl
    have H := H.lend 0 rfl
    have H := H.frontD 1 rfl
    obtain rfl := Option.some.inj hF
    refine ret_3 (fn := Try.f42) (r := .tmp 10) (s := .tmp 11) (t := .tmp 12) hf rfl (rv_tmp hf rfl) (rv_tmp hf rfl) (rv_tmp hf rfl) ?_
    have hN : New w0 w (F ++ F2) := by simpa using H.ends (X := [(⟨F, MP.own F [(.slice A22 drifts2.length c17)] (drifts2 : List Int)⟩ : DI), (⟨F2, MP.own F2 [(.slice A23 fills2.length c18)] (fills2 : List Int)⟩ : DI)])
    exact ⟨_, rfl, H.bel, F, F2, _, _, _, rfl, (mko_list (H.ownAt 0 rfl)), (mko_list (H.ownAt 1 rfl)), mk_bool, hN⟩

/- loop.example/g00897/laws.eqIntS -/
set_option maxHeartbeats 1000000 in
theorem laws_eqIntS_ok {fu : Nat} {w0 : World} {S : Nat → Prop} {v0_ : Value} {v1_ : Value} {a' : List Int} {b' : List Int} {r : Bool} (h0 : VR w0 S v0_ a') (h1 : VR w0 S v1_ b') (hF : laws_eqIntS fu a' b' = some r) :
    Calls Try.prog 43 [v0_, v1_].toArray w0 fun e w' => ∃ v, e = .returned v ∧ (Below w0.heap.size w0 w' ∧ VR w' (St ⟨w0, []⟩ S [] [] [] true) v r) := by
  obtain ⟨A, c, rfl, hl⟩ := VR_list h0
  obtain ⟨A2, c2, rfl, hl2⟩ := VR_list h1
  have H := Mem.start ⟨w0, []⟩ S
  have H := H.pushArg (MP.val [(.slice A a'.length c)] a') hl
  have H := H.pushArg (MP.val [(.slice A2 b'.length c2)] b') hl2
  refine enter Try.func43 rfl rfl (nle rfl) rfl fun a hf => ?_
  rw [laws_eqIntS] at hF
  refine sq ?_
  refine reg ?_
  refine pRun_ok (tb := tab) (n := 26) tabOk 1 _ _ hf rfl rfl fun a hf => ?_
  refine wl_end ?_
  refine then_n ?_
  refine sq ?_
  refine sq ?_
  refine reg ?_
  refine pRun_ok (tb := tab) (n := 26) tabOk 5 _ _ hf rfl rfl fun a hf => ?_
  refine wl_end ?_
  refine then_n ?_
  refine (Bool.eq_false_or_eq_true ((a'.length : Int) != (b'.length : Int))).elim (fun hc => ?_) (fun hc => ?_)
  · rw [if_pos hc] at hF
    refine cd_t hf rfl hc ?_
    refine sq ?_
    refine reg ?_
    refine pRun_ok (tb := tab) (n := 26) tabOk 1 _ _ hf rfl rfl fun a hf => ?_
    refine wl_end ?_
    refine then_n ?_
    refine wp_ret (then_r (?_))
    obtain rfl := Option.some.inj hF
    refine ret_1 (fn := Try.f43) (r := .tmp 4) hf rfl (rv_tmp hf rfl) ?_
    exact ⟨_, rfl, H.bel, mk_bool⟩
  · rw [if_neg (nt hc)] at hF
    refine cd_f hf rfl hc ?_
    refine wp_skip ?_
    refine then_n ?_
    refine sq ?_
    refine sq ?_
    refine reg ?_
    refine pRun_ok (tb := tab) (n := 26) tabOk 1 _ _ hf rfl rfl fun a hf => ?_
    refine wl_end ?_
    refine then_n ?_
    obtain ⟨out', hB1, hF⟩ := bind_some hF
    have hf := hf.prune [0, 1, 5] rfl
    have H := H.let [] [] [] [0, 1]
    have hI : (fun (s : Int) (a : Act) (w : World) => match s with | i => Fr a 26 [(0, (.slice A a'.length c)), (1, (.slice A2 b'.length c2)), (5, (.int .i64 i))] ∧ Mem ⟨w0, []⟩ S [] [] [] [(false, MP.val [(.slice A2 b'.length c2)] (b' : List Int)), (false, MP.val [(.slice A a'.length c)] (a' : List Int))] w) 0 a w0 := ⟨hf, H⟩
    refine mid (fun a w => ∃ s : Int, out' = Out.next s ∧ (fun (s : Int) (a : Act) (w : World) => match s with | i => Fr a 26 [(0, (.slice A a'.length c)), (1, (.slice A2 b'.length c2)), (5, (.int .i64 i))] ∧ Mem ⟨w0, []⟩ S [] [] [] [(false, MP.val [(.slice A2 b'.length c2)] (b' : List Int)), (false, MP.val [(.slice A a'.length c)] (a' : List Int))] w) s a w) ?_ ?_
    · refine wp_block ?_
      refine loop_rule (fun k (s : Int) => laws_eqIntS_L1 fu a' b' k s = some out') (fun (s : Int) (a : Act) (w : World) => match s with | i => Fr a 26 [(0, (.slice A a'.length c)), (1, (.slice A2 b'.length c2)), (5, (.int .i64 i))] ∧ Mem ⟨w0, []⟩ S [] [] [] [(false, MP.val [(.slice A2 b'.length c2)] (b' : List Int)), (false, MP.val [(.slice A a'.length c)] (a' : List Int))] w) (fun s h => by cases h) ?_ fu 0 a w0 hB1 hI
      rintro fk i a w hR1 hI
      replace hR1 : laws_eqIntS_L1 fu a' b' (fk + 1) i = some out' := hR1
      rw [laws_eqIntS_L1] at hR1
      obtain ⟨hf, H⟩ := hI
      refine sq ?_
      refine sq ?_
      refine reg ?_
      refine pRun_ok (tb := tab) (n := 26) tabOk 4 _ _ hf rfl rfl fun a hf => ?_
      refine wl_end ?_
      refine then_n ?_
      refine (Bool.eq_false_or_eq_true (decide (i < (a'.length : Int)))).elim (fun hc2 => ?_) (fun hc2 => ?_)
      · rw [if_pos hc2] at hR1
        refine cd_t hf rfl hc2 ?_
        refine wp_skip ?_
        refine then_n ?_
        refine sq ?_
        refine wp_block ?_
        refine sq ?_
        refine drawn [] (bs := [false, false, false, false, false, false, false, false, false]) (fuel := 9) (Checked.mixed Try.checked) rfl rfl fun w hb => ?_
        have H := H.keep hb
        refine tkP (i := 0) (bs' := [true, false, false, false, false, false, false, false, false]) rfl rfl rfl (by decide) hf (by kernel_rfl) (fun _ => trivial) (fun w => pOp_ok (tb := tab) tabOk hf rfl) rfl fun a hf => ?_
        refine tkP (i := 1) (bs' := [true, true, false, false, false, false, false, false, false]) rfl rfl rfl (by decide) hf (by kernel_rfl) (fun _ => trivial) (fun w => pOp_ok (tb := tab) tabOk hf rfl) rfl fun a hf => ?_
        obtain ⟨e, he, hR1⟩ := bind_some hR1
        obtain ⟨p, o, cs, hx, hr, H⟩ := pre_iaddr H Try.underlying35 TF.sz3 1 rfl he
        refine tkP (i := 2) (bs' := [true, true, true, false, false, false, false, false, false]) rfl rfl rfl (by decide) hf (by kernel_rfl) (fun _ => trivial) (fun w => rq_iaddrE hf rfl rfl rfl hx w) rfl fun a hf => ?_
        obtain rfl := hr
        refine str (fun w => Mem ⟨w0, []⟩ S [] [] [] [(false, MP.cells ⟨p, o, none⟩ [(.int .i64 e)]), (false, MP.val [(.slice A2 b'.length c2)] (b' : List Int)), (false, MP.val [(.slice A a'.length c)] (a' : List Int))] w) (fun w H => trivial) ?_
        have hS : Mem ⟨w0, []⟩ S [] [] [] [(false, MP.cells ⟨p, o, none⟩ [(.int .i64 e)]), (false, MP.val [(.slice A2 b'.length c2)] (b' : List Int)), (false, MP.val [(.slice A a'.length c)] (a' : List Int))] w := H.let [] [] [] [0, 1, 2]
        refine tkS (i := 3) (bs' := [true, true, true, true, false, false, false, false, false]) [] rfl rfl rfl (by decide) hf (by kernel_rfl) (by kernel_rfl) hS (fun w H => rq_loadI hf H TF.ls3 0 0 rfl rfl rfl) rfl fun a hf => ?_
        refine tkP (i := 4) (bs' := [true, true, true, true, true, false, false, false, false]) rfl rfl rfl (by decide) hf (by kernel_rfl) (fun _ => hS) (fun w => pOp_ok (tb := tab) tabOk hf rfl) rfl fun a hf => ?_
        refine tkP (i := 5) (bs' := [true, true, true, true, true, true, false, false, false]) rfl rfl rfl (by decide) hf (by kernel_rfl) (fun _ => hS) (fun w => pOp_ok (tb := tab) tabOk hf rfl) rfl fun a hf => ?_
        obtain ⟨e2, he2, hR1⟩ := bind_some hR1
        obtain ⟨p2, o2, cs2, hx2, hr2, H⟩ := pre_iaddr H Try.underlying35 TF.sz3 1 rfl he2
        refine tkP (i := 6) (bs' := [true, true, true, true, true, true, true, false, false]) rfl rfl rfl (by decide) hf (by kernel_rfl) (fun _ => hS) (fun w => rq_iaddrE hf rfl rfl rfl hx2 w) rfl fun a hf => ?_
        obtain rfl := hr2
        refine str (fun w => Mem ⟨w0, []⟩ S [] [] [] [(false, MP.cells ⟨p2, o2, none⟩ [(.int .i64 e2)]), (false, MP.cells ⟨p, o, none⟩ [(.int .i64 e)]), (false, MP.val [(.slice A2 b'.length c2)] (b' : List Int)), (false, MP.val [(.slice A a'.length c)] (a' : List Int))] w) (fun w H => H.let [] [] [] [1, 2, 3]) ?_
        have hS : Mem ⟨w0, []⟩ S [] [] [] [(false, MP.cells ⟨p2, o2, none⟩ [(.int .i64 e2)]), (false, MP.cells ⟨p, o, none⟩ [(.int .i64 e)]), (false, MP.val [(.slice A2 b'.length c2)] (b' : List Int)), (false, MP.val [(.slice A a'.length c)] (a' : List Int))] w := H.let [] [] [] [0, 1, 2, 3]
        refine tkS (i := 7) (bs' := [true, true, true, true, true, true, true, true, false]) [] rfl rfl rfl (by decide) hf (by kernel_rfl) (by kernel_rfl) hS (fun w H => rq_loadI hf H TF.ls3 0 0 rfl rfl rfl) rfl fun a hf => ?_
        refine tkP (i := 8) (bs' := [true, true, true, true, true, true, true, true, true]) rfl rfl rfl (by decide) hf (by kernel_rfl) (fun _ => hS) (fun w => pOp_ok (tb := tab) tabOk hf rfl) rfl fun a hf => ?_
        refine dn (by kernel_rfl) ?_
        refine then_n ?_
        refine (Bool.eq_false_or_eq_true (e != e2)).elim (fun hc3 => ?_) (fun hc3 => ?_)
        · rw [if_pos hc3] at hR1
          refine cd_t hf rfl hc3 ?_
          refine sq ?_
          refine reg ?_
          refine pRun_ok (tb := tab) (n := 26) tabOk 1 _ _ hf rfl rfl fun a hf => ?_
          have hf := hf.prune [4] rfl
          refine wl_end ?_
          refine then_n ?_
          refine wp_ret (blk_r (then_r (then_r (blk_r (then_r (then_r (?_)))))))
          obtain rfl := Option.some.inj hR1
          replace hF := on_ret hF
          obtain rfl := Option.some.inj hF
          refine ret_1 (fn := Try.f43) (r := .tmp 4) hf rfl (rv_tmp hf rfl) ?_
          exact ⟨_, rfl, H.bel, mk_bool⟩
        · rw [if_neg (nt hc3)] at hR1
          refine cd_f hf rfl hc3 ?_
          refine wp_skip ?_
          refine blk_n ?_
          refine then_n ?_
          refine reg ?_
          refine pRun_ok (tb := tab) (n := 26) tabOk 3 _ _ hf rfl rfl fun a hf => ?_
          have hf := hf.prune [0, 1, 5] rfl
          refine wl_end ?_
          have hf := hf.prune [0, 1, 5] rfl
          have H := H.let [] [] [] [2, 3]
          exact then_n ⟨w64 (i + 1), hR1, hf, H⟩
      · rw [if_neg (nt hc2)] at hR1
        refine cd_f hf rfl hc2 ?_
        refine wp_exit (then_x (then_x (blk_e (?_))))
        have hf := hf.prune [0, 1, 5] rfl
        have H := H.let [] [] [] [0, 1]
        exact ⟨i, (Option.some.inj hR1).symm, hf, H⟩
    rintro a w ⟨i2, rfl, hf, H⟩
    replace hF := on_next hF
    refine then_n ?_
    refine sq ?_
    refine reg ?_
    refine pRun_ok (tb := tab) (n := 26) tabOk 1 _ _ hf rfl rfl fun a hf => ?_
    refine wl_end ?_
    refine then_n ?_
    refine wp_ret (?_)
    obtain rfl := Option.some.inj hF
    refine ret_1 (fn := Try.f43) (r := .tmp 4) hf rfl (rv_tmp hf rfl) ?_
    exact ⟨_, rfl, H.bel, mk_bool⟩

/- loop.example/g00897/laws.markIntS -/
set_option maxHeartbeats 1000000 in
theorem laws_markIntS_ok {fu : Nat} {w0 : World} {S : Nat → Prop} {F : List Nat} {cs : List Value} {v1_ : Value} {a' : List Int} {k' : Int} {r : Int × List Int} (hO : GoTy.own w0 F cs a') (hn : F.Nodup) (h1 : VR w0 S v1_ k') (hF : laws_markIntS fu a' k' = some r) :
    Calls Try.prog 44 [(bif GoTy.agg (List Int) then .agg cs.toArray else cs.headD undef), v1_].toArray w0 fun e w' => ∃ v, e = .returned v ∧ (Chg w0 w' F ∧ VR w' (fun _ => True) v r.1 ∧ ∃ F', GoTy.own w' F' cs r.2 ∧ Back w0 w' F F') := by
  obtain rfl := VR_int h1
  obtain ⟨A, c, rfl, hO⟩ := own_list hO
  have H := Mem.startG S hO hn
  obtain ⟨Fs, E, H, -⟩ := H.thaw rfl
  have H := H.rowSh 0 rfl
  refine enter Try.func44 rfl rfl (nle rfl) rfl fun a hf => ?_
  rw [laws_markIntS] at hF
  refine sq ?_
  refine reg ?_
  refine pRun_ok (tb := tab) (n := 19) tabOk 1 _ _ hf rfl rfl fun a hf => ?_
  refine wl_end ?_
  refine then_n ?_
  refine sq ?_
  refine sq ?_
  refine reg ?_
  refine pRun_ok (tb := tab) (n := 19) tabOk 1 _ _ hf rfl rfl fun a hf => ?_
  refine wl_end ?_
  refine then_n ?_
  obtain ⟨out', hB1, hF⟩ := bind_some hF
  have hf := hf.prune [0, 1, 5] rfl
  have hf : Fr a 19 [(0, (.slice A a'.length c)), (1, (.int .i64 k')), (5, (.int .i64 0))] := by first | exact hf | (simp only [List.length_set] at hf; exact hf)
  have H := H.let [] [true] [] []
  have hI : (fun (s : List Int × Int × Int) (a : Act) (w : World) => match s with | (a2, k2, i) => a2.length = a'.length ∧ Fr a 19 [(0, (.slice A a'.length c)), (1, (.int .i64 k2)), (5, (.int .i64 i))] ∧ Mem ⟨w0, F⟩ S [] [⟨.sh true, E, A, c, (a2 : List Int)⟩] [] [] w) (a', k', 0) a w0 := ⟨rfl, hf, H⟩
  refine mid (fun a w => ∃ s : List Int × Int × Int, out' = s ∧ (fun (s : List Int × Int × Int) (a : Act) (w : World) => match s with | (a2, k2, i) => a2.length = a'.length ∧ Fr a 19 [(0, (.slice A a'.length c)), (1, (.int .i64 k2)), (5, (.int .i64 i))] ∧ Mem ⟨w0, F⟩ S [] [⟨.sh true, E, A, c, (a2 : List Int)⟩] [] [] w) s a w) ?_ ?_
  · refine wp_block ?_
    refine loop_rule (fun k (s : List Int × Int × Int) => laws_markIntS_L1 fu k s.1 s.2.1 s.2.2 = some out') (fun (s : List Int × Int × Int) (a : Act) (w : World) => match s with | (a2, k2, i) => a2.length = a'.length ∧ Fr a 19 [(0, (.slice A a'.length c)), (1, (.int .i64 k2)), (5, (.int .i64 i))] ∧ Mem ⟨w0, F⟩ S [] [⟨.sh true, E, A, c, (a2 : List Int)⟩] [] [] w) (fun s h => by cases h) ?_ fu (a', k', 0) a w0 hB1 hI
    rintro fk ⟨a2, k2, i⟩ a w hR1 hI
    replace hR1 : laws_markIntS_L1 fu (fk + 1) a2 k2 i = some out' := hR1
    rw [laws_markIntS_L1] at hR1
    obtain ⟨hlen, hf, H⟩ := hI
    have hf : Fr a 19 [(0, (.slice A a2.length c)), (1, (.int .i64 k2)), (5, (.int .i64 i))] := by rw [hlen]; exact hf
    refine sq ?_
    refine sq ?_
    refine reg ?_
    refine pRun_ok (tb := tab) (n := 19) tabOk 4 _ _ hf rfl rfl fun a hf => ?_
    refine wl_end ?_
    refine then_n ?_
    refine (Bool.eq_false_or_eq_true (decide (i < (a2.length : Int)))).elim (fun hc => ?_) (fun hc => ?_)
    · rw [if_pos hc] at hR1
      refine cd_t hf rfl hc ?_
      refine wp_skip ?_
      refine then_n ?_
      refine sq ?_
      refine wp_block ?_
      refine sq ?_
      refine reg ?_
      refine pRun_ok (tb := tab) (n := 19) tabOk 3 _ _ hf rfl rfl fun a hf => ?_
      obtain ⟨e, he, hR1⟩ := bind_some hR1
      refine wl0 rfl (op_iaddrR hf H Try.underlying35 TF.sz3 0 rfl rfl rfl he (by decide) fun p o cs a hf hA hr hk => ?_)
      obtain rfl := hr
      refine wl0 rfl (op_storeR (e' := k2) hf H TF.sz3 0 rfl rfl rfl rfl rfl (nle rfl) rfl hA he (st_full rfl) fun w H => ?_)
      replace hf : Fr a 19 [(0, (.slice A a2.length c)), (1, (.int .i64 k2)), (5, (.int .i64 i)), (6, (.int .i64 i)), (7, (.slice A a2.length c)), (8, (.int .i64 (a2.length : Int))), (9, (.bool (decide (i < (a2.length : Int))))), (12, (.slice A a2.length c)), (13, (.int .i64 i)), (14, (.int .i64 k2)), (15, (.pointer (some ⟨p, o + 0, none⟩)))] := hf.prune [0, 1, 5, 6, 7, 8, 9, 12, 13, 14, 15] rfl
      replace hf : Fr a 19 [(0, (.slice A (a2.set (i).toNat k2).length c)), (1, (.int .i64 k2)), (5, (.int .i64 i)), (6, (.int .i64 i)), (7, (.slice A (a2.set (i).toNat k2).length c)), (8, (.int .i64 (a2.length : Int))), (9, (.bool (decide (i < (a2.length : Int))))), (12, (.slice A (a2.set (i).toNat k2).length c)), (13, (.int .i64 i)), (14, (.int .i64 k2)), (15, (.pointer (some ⟨p, o + 0, none⟩)))] := by simpa only [List.length_set, Nat.add_zero] using hf
      refine wl_end ?_
      refine then_n ?_
      refine reg ?_
      refine pRun_ok (tb := tab) (n := 19) tabOk 3 _ _ hf rfl rfl fun a hf => ?_
      refine wl_end ?_
      refine blk_n ?_
      refine then_n ?_
      refine reg ?_
      refine pRun_ok (tb := tab) (n := 19) tabOk 3 _ _ hf rfl rfl fun a hf => ?_
      refine wl_end ?_
      have hf := hf.prune [0, 1, 5] rfl
      have hf : Fr a 19 [(0, (.slice A a'.length c)), (1, (.int .i64 (w64 (k2 + 1)))), (5, (.int .i64 (w64 (i + 1))))] := by first | exact hf | (simp only [List.length_set, hlen] at hf; exact hf)
      have H := H.let [] [true] [] []
      exact then_n ⟨(a2.set (i).toNat k2, w64 (k2 + 1), w64 (i + 1)), hR1, (by simp only [List.length_set, hlen]), hf, H⟩
    · rw [if_neg (nt hc)] at hR1
      refine cd_f hf rfl hc ?_
      refine wp_exit (then_x (then_x (blk_e (?_))))
      have hf := hf.prune [0, 1, 5] rfl
      have hf : Fr a 19 [(0, (.slice A a'.length c)), (1, (.int .i64 k2)), (5, (.int .i64 i))] := by first | exact hf | (simp only [List.length_set, hlen] at hf; exact hf)
      have H := H.let [] [true] [] []
      exact ⟨(a2, k2, i), (Option.some.inj hR1).symm, (by simp only [List.length_set, hlen]), hf, H⟩
  rintro a w ⟨⟨a3, k3, i2⟩, rfl, hlen, hf, H⟩
  try dsimp only at hlen
  have hf : Fr a 19 [(0, (.slice A a3.length c)), (1, (.int .i64 k3)), (5, (.int .i64 i2))] := by rw [hlen]; exact hf
  dsimp only at hF
  refine then_n ?_
  refine sq ?_
  refine reg ?_
  refine pRun_ok (tb := tab) (n := 19) tabOk 2 _ _ hf rfl rfl fun a hf => ?_
  refine wl_end ?_
  refine then_n ?_
  refine wp_ret (?_)
  have H := H.rowOwn 0 rfl rfl
  obtain ⟨F', H⟩ := H.freezeOwn 0 rfl
  rw [hlen] at H
  obtain rfl := Option.some.inj hF
  refine ret_1 (fn := Try.f44) (r := .tmp 4) hf rfl (rv_tmp hf rfl) ?_
  exact ⟨_, rfl, H.chg, mk_int, _, H.ownAt 0 rfl, H.back⟩

/- loop.example/g00897/laws.heldIntS -/
set_option maxHeartbeats 1000000 in
theorem laws_heldIntS_ok {fu : Nat} {w0 : World} {S : Nat → Prop} {v0_ : Value} {v1_ : Value} {a' : List Int} {k' : Int} {r : Int} (h0 : VR w0 S v0_ a') (h1 : VR w0 S v1_ k') (hF : laws_heldIntS fu a' k' = some r) :
    Calls Try.prog 45 [v0_, v1_].toArray w0 fun e w' => ∃ v, e = .returned v ∧ (Below w0.heap.size w0 w' ∧ VR w' (St ⟨w0, []⟩ S [] [] [] true) v r) := by
  obtain ⟨A, c, rfl, hl⟩ := VR_list h0
  obtain rfl := VR_int h1
  have H := Mem.start ⟨w0, []⟩ S
  have H := H.pushArg (MP.val [(.slice A a'.length c)] a') hl
  refine enter Try.func45 rfl rfl (nle rfl) rfl fun a hf => ?_
  rw [laws_heldIntS] at hF
  refine sq ?_
  refine reg ?_
  refine pRun_ok (tb := tab) (n := 21) tabOk 1 _ _ hf rfl rfl fun a hf => ?_
  refine wl_end ?_
  refine then_n ?_
  refine sq ?_
  refine sq ?_
  refine reg ?_
  refine pRun_ok (tb := tab) (n := 21) tabOk 1 _ _ hf rfl rfl fun a hf => ?_
  refine wl_end ?_
  refine then_n ?_
  obtain ⟨out', hB1, hF⟩ := bind_some hF
  have hf := hf.prune [0, 1, 5] rfl
  have H := H.let [] [] [] [0]
  have hI : (fun (s : Int × Int) (a : Act) (w : World) => match s with | (k2, i) => Fr a 21 [(0, (.slice A a'.length c)), (1, (.int .i64 k2)), (5, (.int .i64 i))] ∧ Mem ⟨w0, []⟩ S [] [] [] [(false, MP.val [(.slice A a'.length c)] (a' : List Int))] w) (k', 0) a w0 := ⟨hf, H⟩
  refine mid (fun a w => ∃ s : Int × Int, out' = Out.next s ∧ (fun (s : Int × Int) (a : Act) (w : World) => match s with | (k2, i) => Fr a 21 [(0, (.slice A a'.length c)), (1, (.int .i64 k2)), (5, (.int .i64 i))] ∧ Mem ⟨w0, []⟩ S [] [] [] [(false, MP.val [(.slice A a'.length c)] (a' : List Int))] w) s a w) ?_ ?_
  · refine wp_block ?_
    refine loop_rule (fun k (s : Int × Int) => laws_heldIntS_L1 fu a' k s.1 s.2 = some out') (fun (s : Int × Int) (a : Act) (w : World) => match s with | (k2, i) => Fr a 21 [(0, (.slice A a'.length c)), (1, (.int .i64 k2)), (5, (.int .i64 i))] ∧ Mem ⟨w0, []⟩ S [] [] [] [(false, MP.val [(.slice A a'.length c)] (a' : List Int))] w) (fun s h => by cases h) ?_ fu (k', 0) a w0 hB1 hI
    rintro fk ⟨k2, i⟩ a w hR1 hI
    replace hR1 : laws_heldIntS_L1 fu a' (fk + 1) k2 i = some out' := hR1
    rw [laws_heldIntS_L1] at hR1
    obtain ⟨hf, H⟩ := hI
    refine sq ?_
    refine sq ?_
    refine reg ?_
    refine pRun_ok (tb := tab) (n := 21) tabOk 4 _ _ hf rfl rfl fun a hf => ?_
    refine wl_end ?_
    refine then_n ?_
    refine (Bool.eq_false_or_eq_true (decide (i < (a'.length : Int)))).elim (fun hc => ?_) (fun hc => ?_)
    · rw [if_pos hc] at hR1
      refine cd_t hf rfl hc ?_
      refine wp_skip ?_
      refine then_n ?_
      refine sq ?_
      refine wp_block ?_
      refine sq ?_
      refine sq ?_
      refine reg ?_
      refine pRun_ok (tb := tab) (n := 21) tabOk 2 _ _ hf rfl rfl fun a hf => ?_
      obtain ⟨e, he, hR1⟩ := bind_some hR1
      refine wl0 rfl (op_iaddr hf H Try.underlying35 TF.sz3 0 rfl rfl rfl he (by decide) fun p o cs a hf hr H => ?_)
      obtain rfl := hr
      refine wl0 rfl (op_q hf (rq_loadI hf H TF.ls3 0 0 rfl rfl rfl) rfl (by decide) fun a hf => ?_)
      refine pRun_ok (tb := tab) (n := 21) tabOk 2 _ _ hf rfl rfl fun a hf => ?_
      refine wl_end ?_
      refine then_n ?_
      refine (Bool.eq_false_or_eq_true (e != k2)).elim (fun hc2 => ?_) (fun hc2 => ?_)
      · rw [if_pos hc2] at hR1
        refine cd_t hf rfl hc2 ?_
        refine sq ?_
        refine reg ?_
        refine pRun_ok (tb := tab) (n := 21) tabOk 1 _ _ hf rfl rfl fun a hf => ?_
        have hf := hf.prune [4] rfl
        refine wl_end ?_
        refine then_n ?_
        refine wp_ret (then_r (blk_r (then_r (then_r (blk_r (then_r (then_r (?_))))))))
        obtain rfl := Option.some.inj hR1
        replace hF := on_ret hF
        obtain rfl := Option.some.inj hF
        refine ret_1 (fn := Try.f45) (r := .tmp 4) hf rfl (rv_tmp hf rfl) ?_
        exact ⟨_, rfl, H.bel, mk_int⟩
      · rw [if_neg (nt hc2)] at hR1
        refine cd_f hf rfl hc2 ?_
        refine wp_skip ?_
        refine then_n ?_
        refine reg ?_
        refine pRun_ok (tb := tab) (n := 21) tabOk 3 _ _ hf rfl rfl fun a hf => ?_
        refine wl_end ?_
        refine blk_n ?_
        refine then_n ?_
        refine reg ?_
        refine pRun_ok (tb := tab) (n := 21) tabOk 3 _ _ hf rfl rfl fun a hf => ?_
        have hf := hf.prune [0, 1, 5] rfl
        refine wl_end ?_
        have hf := hf.prune [0, 1, 5] rfl
        have H := H.let [] [] [] [1]
        exact then_n ⟨(w64 (k2 + 1), w64 (i + 1)), hR1, hf, H⟩
    · rw [if_neg (nt hc)] at hR1
      refine cd_f hf rfl hc ?_
      refine wp_exit (then_x (then_x (blk_e (?_))))
      have hf := hf.prune [0, 1, 5] rfl
      have H := H.let [] [] [] [0]
      exact ⟨(k2, i), (Option.some.inj hR1).symm, hf, H⟩
  rintro a w ⟨⟨k3, i2⟩, rfl, hf, H⟩
  replace hF := on_next hF
  dsimp only at hF
  refine then_n ?_
  refine sq ?_
  refine reg ?_
  refine pRun_ok (tb := tab) (n := 21) tabOk 2 _ _ hf rfl rfl fun a hf => ?_
  refine wl_end ?_
  refine then_n ?_
  refine wp_ret (?_)
  obtain rfl := Option.some.inj hF
  refine ret_1 (fn := Try.f45) (r := .tmp 4) hf rfl (rv_tmp hf rfl) ?_
  exact ⟨_, rfl, H.bel, mk_int⟩

/- loop.example/g00897/laws.FnExactJustifyBuffer -/
set_option maxHeartbeats 1000000 in
theorem laws_FnExactJustifyBuffer_ok {fu : Nat} {w0 : World} {S : Nat → Prop} {v0_ : Value} {v1_ : Value} {v2_ : Value} {v3_ : Value} {v4_ : Value} {aFill : Int} {aWrites : List Int} {aSize : Int} {aLow : Int} {aHigh : Int} {r : Bool} (h0 : VR w0 S v0_ aFill) (h1 : VR w0 S v1_ aWrites) (h2 : VR w0 S v2_ aSize) (h3 : VR w0 S v3_ aLow) (h4 : VR w0 S v4_ aHigh) (hF : laws_FnExactJustifyBuffer fu aFill aWrites aSize aLow aHigh = some r) :
    Calls Try.prog 9 [v0_, v1_, v2_, v3_, v4_].toArray w0 fun e w' => ∃ v, e = .returned v ∧ (Below w0.heap.size w0 w' ∧ VR w' (St ⟨w0, []⟩ S [] [] [] true) v r) := by
  obtain rfl := VR_int h0
  obtain ⟨A, c, rfl, hl⟩ := VR_list h1
  obtain rfl := VR_int h2
  obtain rfl := VR_int h3
  obtain rfl := VR_int h4
  have H := Mem.start ⟨w0, []⟩ S
  have H := H.pushArg (MP.val [(.slice A aWrites.length c)] aWrites) hl
  refine enter Try.func9 rfl rfl (nle rfl) rfl fun a hf => ?_
  rw [laws_FnExactJustifyBuffer] at hF
  refine sq ?_
  refine reg ?_
  refine pRun_ok (tb := tab) (n := 150) tabOk 1 _ _ hf rfl rfl fun a hf => ?_
  refine wl_end ?_
  refine then_n ?_
  refine sq ?_
  refine sq ?_
  refine reg ?_
  refine pRun_ok (tb := tab) (n := 150) tabOk 3 _ _ hf rfl rfl fun a hf => ?_
  refine wl_end ?_
  refine then_n ?_
  refine (Bool.eq_false_or_eq_true (decide ((aWrites.length : Int) > 1048576))).elim (fun hc => ?_) (fun hc => ?_)
  · rw [if_pos hc] at hF
    refine cd_t hf rfl hc ?_
    refine sq ?_
    refine reg ?_
    refine pRun_ok (tb := tab) (n := 150) tabOk 1 _ _ hf rfl rfl fun a hf => ?_
    refine wl_end ?_
    refine then_n ?_
    refine wp_ret (then_r (?_))
    obtain rfl := Option.some.inj hF
    refine ret_1 (fn := Try.f9) (r := .tmp 10) hf rfl (rv_tmp hf rfl) ?_
    exact ⟨_, rfl, H.bel, mk_bool⟩
  · rw [if_neg (nt hc)] at hF
    refine cd_f hf rfl hc ?_
    refine wp_skip ?_
    refine then_n ?_
    refine sq ?_
    refine reg ?_
    refine pRun_ok (tb := tab) (n := 150) tabOk 2 _ _ hf rfl rfl fun a hf => ?_
    obtain ⟨y, hy, hF⟩ := bind_some hF
    refine wl0 rfl (op_call hf TF.cl41 rfl (by decide) (laws_toIntS_ok (S := fun _ => True) (mk_list (rep_true (α := List Int) (H.get 0 rfl))) hy) fun v w a hp hf => ?_)
    obtain ⟨hb, F, hp2, hN⟩ := hp
    obtain ⟨A2, c2, rfl, hl2⟩ := VO_list hp2
    have H := H.addOwn hb (X := [(⟨F, MP.own F [(.slice A2 y.length c2)] (y : List Int)⟩ : DI)]) (by simpa using hN.1) (ps1 hl2 ps0) (by simpa using hN.2)
    have H := H.lend 0 rfl
    refine pRun_ok (tb := tab) (n := 150) tabOk 3 _ _ hf rfl rfl fun a hf => ?_
    obtain ⟨y2, hy2, hF⟩ := bind_some hF
    refine wl0 rfl (op_call hf TF.cl40 rfl (by decide) (spec_JustifyBuffer_ok (S := fun _ => True) mk_int (mk_list (rep_true (α := List Int) (H.get 0 rfl))) mk_int mk_int mk_int hy2) fun v2 w a hp3 hf => ?_)
    obtain ⟨hb2, F3, F4, v3, v4, v5, rfl, hp4, hp5, hp6, hN2⟩ := hp3
    obtain ⟨A3, c3, rfl, hl3⟩ := VO_list hp4
    obtain ⟨A4, c4, rfl, hl4⟩ := VO_list hp5
    obtain rfl := VR_bool hp6
    have H := H.addOwn hb2 (X := [(⟨F3, MP.own F3 [(.slice A3 y2.1.length c3)] (y2.1 : List Int)⟩ : DI), (⟨F4, MP.own F4 [(.slice A4 y2.2.1.length c4)] (y2.2.1 : List Int)⟩ : DI)]) (by simpa using hN2.1) (ps1 hl3 (ps1 hl4 ps0)) (by simpa using hN2.2)
    have H := H.lend 0 rfl
    have H := H.lend 1 rfl
    refine pRun_ok (tb := tab) (n := 150) tabOk 7 _ _ hf rfl rfl fun a hf => ?_
    have hf := hf.prune [0, 1, 2, 3, 4, 11, 12, 13] rfl
    refine wl_end ?_
    refine then_n ?_
    refine sq ?_
    refine reg ?_
    refine pRun_ok (tb := tab) (n := 150) tabOk 1 _ _ hf rfl rfl fun a hf => ?_
    obtain ⟨y3, hy3, hF⟩ := bind_some hF
    refine wl0 rfl (op_call hf TF.cl41 rfl (by decide) (laws_toIntS_ok (S := fun _ => True) (mk_list (rep_true (α := List Int) (H.get 3 rfl))) hy3) fun v6 w a hp7 hf => ?_)
    obtain ⟨hb3, F7, hp8, hN3⟩ := hp7
    obtain ⟨A5, c5, rfl, hl5⟩ := VO_list hp8
    have H := H.addOwn hb3 (X := [(⟨F7, MP.own F7 [(.slice A5 y3.length c5)] (y3 : List Int)⟩ : DI)]) (by simpa using hN3.1) (ps1 hl5 ps0) (by simpa using hN3.2)
    have H := H.lend 0 rfl
    refine pRun_ok (tb := tab) (n := 150) tabOk 1 _ _ hf rfl rfl fun a hf => ?_
    refine wl_end ?_
    refine then_n ?_
    refine sq ?_
    refine reg ?_
    refine pRun_ok (tb := tab) (n := 150) tabOk 5 _ _ hf rfl rfl fun a hf => ?_
    obtain ⟨y4, hy4, hF⟩ := bind_some hF
    refine wl0 rfl (op_call hf TF.cl42 rfl (by decide) (impl_JustifyBuffer_ok (S := fun _ => True) mk_int (mk_list (rep_true (α := List Int) (H.get 0 rfl))) mk_int mk_int mk_int hy4) fun v7 w a hp9 hf => ?_)
    obtain ⟨hb4, F9, F10, v8, v9, v10, rfl, hp10, hp11, hp12, hN4⟩ := hp9
    obtain ⟨A6, c6, rfl, hl6⟩ := VO_list hp10
    obtain ⟨A7, c7, rfl, hl7⟩ := VO_list hp11
    obtain rfl := VR_bool hp12
    have H := H.addOwn hb4 (X := [(⟨F9, MP.own F9 [(.slice A6 y4.1.length c6)] (y4.1 : List Int)⟩ : DI), (⟨F10, MP.own F10 [(.slice A7 y4.2.1.length c7)] (y4.2.1 : List Int)⟩ : DI)]) (by simpa using hN4.1) (ps1 hl6 (ps1 hl7 ps0)) (by simpa using hN4.2)
    have H := H.lend 0 rfl
    have H := H.lend 1 rfl
    refine pRun_ok (tb := tab) (n := 150) tabOk 7 _ _ hf rfl rfl fun a hf => ?_
    refine wl_end ?_
    refine then_n ?_
    refine sq ?_
    refine sq ?_
    obtain ⟨c8, hGc8, hF⟩ := bind_some hF
    refine mid (fun a w => Fr a 150 [(0, (.int .i64 aFill)), (1, (.slice A aWrites.length c)), (2, (.int .i64 aSize)), (3, (.int .i64 aLow)), (4, (.int .i64 aHigh)), (11, (.slice A3 y2.1.length c3)), (12, (.slice A4 y2.2.1.length c4)), (13, (.bool y2.2.2)), (14, (.slice A5 y3.length c5)), (15, (.slice A6 y4.1.length c6)), (16, (.slice A7 y4.2.1.length c7)), (17, (.bool y4.2.2)), (64, (.bool c8))] ∧ Mem ⟨w0, []⟩ S [] [] [⟨F9, MP.own F9 [(.slice A6 y4.1.length c6)] (y4.1 : List Int)⟩, ⟨F10, MP.own F10 [(.slice A7 y4.2.1.length c7)] (y4.2.1 : List Int)⟩, ⟨F7, MP.own F7 [(.slice A5 y3.length c5)] (y3 : List Int)⟩, ⟨F3, MP.own F3 [(.slice A3 y2.1.length c3)] (y2.1 : List Int)⟩, ⟨F4, MP.own F4 [(.slice A4 y2.2.1.length c4)] (y2.2.1 : List Int)⟩] [(true, MP.val [(.slice A7 y4.2.1.length c7)] (y4.2.1 : List Int)), (true, MP.val [(.slice A6 y4.1.length c6)] (y4.1 : List Int)), (true, MP.val [(.slice A5 y3.length c5)] (y3 : List Int)), (true, MP.val [(.slice A4 y2.2.1.length c4)] (y2.2.1 : List Int)), (true, MP.val [(.slice A3 y2.1.length c3)] (y2.1 : List Int)), (false, MP.val [(.slice A aWrites.length c)] (aWrites : List Int))] w) ?_ ?_
    · refine reg ?_
      refine pRun_ok (tb := tab) (n := 150) tabOk 2 _ _ hf rfl rfl fun a hf => ?_
      obtain ⟨y5, hy5, hGc8⟩ := bind_some hGc8
      refine wl0 rfl (op_call hf TF.cl43 rfl (by decide) (laws_eqIntS_ok (S := fun _ => True) (mk_list (rep_true (α := List Int) (H.get 1 rfl))) (mk_list (rep_true (α := List Int) (H.get 4 rfl))) hy5) fun v11 w a hp13 hf => ?_)
      obtain ⟨hb5, hp13⟩ := hp13
      obtain rfl := VR_bool hp13
      have H := H.keep hb5
      refine pRun_ok (tb := tab) (n := 150) tabOk 2 _ _ hf rfl rfl fun a hf => ?_
      refine (Bool.eq_false_or_eq_true (!y5)).elim (fun hc2 => ?_) (fun hc2 => ?_)
      · rw [if_pos hc2] at hGc8
        have hf := hf.lit 54 rfl hc2
        refine pRun_ok (tb := tab) (n := 150) tabOk 10 _ _ hf rfl rfl fun a hf => ?_
        obtain rfl := Option.some.inj hGc8
        have hf := hf.prune [0, 1, 2, 3, 4, 11, 12, 13, 14, 15, 16, 17, 64] rfl
        have H := H.let [] [] [true, true, true, true, true, false] [0, 1, 2, 3, 4, 6]
        exact wl_end ⟨hf, H⟩
      · rw [if_neg (nt hc2)] at hGc8
        have hf := hf.lit 54 rfl hc2
        refine pRun_ok (tb := tab) (n := 150) tabOk 2 _ _ hf rfl rfl fun a hf => ?_
        obtain ⟨y6, hy6, hGc8⟩ := bind_some hGc8
        refine wlg hf rfl rfl rfl (op_call hf TF.cl43 rfl (by decide) (laws_eqIntS_ok (S := fun _ => True) (mk_list (rep_true (α := List Int) (H.get 0 rfl))) (mk_list (rep_true (α := List Int) (H.get 3 rfl))) hy6) fun v12 w a hp14 hf => ?_)
        obtain ⟨hb6, hp14⟩ := hp14
        obtain rfl := VR_bool hp14
        have H := H.keep hb6
        refine pRun_ok (tb := tab) (n := 150) tabOk 3 _ _ hf rfl rfl fun a hf => ?_
        refine (Bool.eq_false_or_eq_true (!y6)).elim (fun hc3 => ?_) (fun hc3 => ?_)
        · rw [if_pos hc3] at hGc8
          have hf := hf.lit 60 rfl hc3
          refine pRun_ok (tb := tab) (n := 150) tabOk 4 _ _ hf rfl rfl fun a hf => ?_
          obtain rfl := Option.some.inj hGc8
          have hf := hf.prune [0, 1, 2, 3, 4, 11, 12, 13, 14, 15, 16, 17, 64] rfl
          have H := H.let [] [] [true, true, true, true, true, false] [0, 1, 2, 3, 4, 6]
          exact wl_end ⟨hf, H⟩
        · rw [if_neg (nt hc3)] at hGc8
          have hf := hf.lit 60 rfl hc3
          refine pRun_ok (tb := tab) (n := 150) tabOk 4 _ _ hf rfl rfl fun a hf => ?_
          obtain rfl := Option.some.inj hGc8
          have hf := hf.prune [0, 1, 2, 3, 4, 11, 12, 13, 14, 15, 16, 17, 64] rfl
          have H := H.let [] [] [true, true, true, true, true, false] [0, 1, 2, 3, 4, 6]
          exact wl_end ⟨hf, H⟩
    rintro a w ⟨hf, H⟩
    refine then_n ?_
    refine (Bool.eq_false_or_eq_true (c8)).elim (fun hc4 => ?_) (fun hc4 => ?_)
    · rw [if_pos hc4] at hF
      refine cd_t hf rfl hc4 ?_
      refine sq ?_
      refine reg ?_
      refine pRun_ok (tb := tab) (n := 150) tabOk 1 _ _ hf rfl rfl fun a hf => ?_
      have hf := hf.prune [10] rfl
      refine wl_end ?_
      refine then_n ?_
      refine wp_ret (then_r (?_))
      obtain rfl := Option.some.inj hF
      refine ret_1 (fn := Try.f9) (r := .tmp 10) hf rfl (rv_tmp hf rfl) ?_
      exact ⟨_, rfl, H.bel, mk_bool⟩
    · rw [if_neg (nt hc4)] at hF
      refine cd_f hf rfl hc4 ?_
      refine wp_skip ?_
      refine then_n ?_
      refine sq ?_
      refine sq ?_
      refine reg ?_
      refine pRun_ok (tb := tab) (n := 150) tabOk 2 _ _ hf rfl rfl fun a hf => ?_
      obtain ⟨y7, hy7, hF⟩ := bind_some hF
      refine wl0 rfl (op_call hf TF.cl41 rfl (by decide) (laws_toIntS_ok (S := fun _ => True) (mk_list (rep_true (α := List Int) (H.get 5 rfl))) hy7) fun v13 w a hp15 hf => ?_)
      obtain ⟨hb7, F13, hp16, hN5⟩ := hp15
      obtain ⟨A8, c9, rfl, hl8⟩ := VO_list hp16
      have H := H.addOwn hb7 (X := [(⟨F13, MP.own F13 [(.slice A8 y7.length c9)] (y7 : List Int)⟩ : DI)]) (by simpa using hN5.1) (ps1 hl8 ps0) (by simpa using hN5.2)
      have H := H.lend 0 rfl
      obtain ⟨y8, hy8, hF⟩ := bind_some hF
      refine wl0 rfl (op_call hf TF.cl43 rfl (by decide) (laws_eqIntS_ok (S := fun _ => True) (mk_list (rep_true (α := List Int) (H.get 3 rfl))) (mk_list (rep_true (α := List Int) (H.get 0 rfl))) hy8) fun v14 w a hp17 hf => ?_)
      obtain ⟨hb8, hp17⟩ := hp17
      obtain rfl := VR_bool hp17
      have H := H.keep hb8
      refine pRun_ok (tb := tab) (n := 150) tabOk 1 _ _ hf rfl rfl fun a hf => ?_
      refine wl_end ?_
      refine then_n ?_
      refine (Bool.eq_false_or_eq_true (!y8)).elim (fun hc5 => ?_) (fun hc5 => ?_)
      · rw [if_pos hc5] at hF
        refine cd_t hf rfl hc5 ?_
        refine sq ?_
        refine reg ?_
        refine pRun_ok (tb := tab) (n := 150) tabOk 1 _ _ hf rfl rfl fun a hf => ?_
        have hf := hf.prune [10] rfl
        refine wl_end ?_
        refine then_n ?_
        refine wp_ret (then_r (?_))
        obtain rfl := Option.some.inj hF
        refine ret_1 (fn := Try.f9) (r := .tmp 10) hf rfl (rv_tmp hf rfl) ?_
        exact ⟨_, rfl, H.bel, mk_bool⟩
      · rw [if_neg (nt hc5)] at hF
        refine cd_f hf rfl hc5 ?_
        refine wp_skip ?_
        refine then_n ?_
        refine sq ?_
        refine reg ?_
        refine pRun_ok (tb := tab) (n := 150) tabOk 1 _ _ hf rfl rfl fun a hf => ?_
        refine wl_end ?_
        refine then_n ?_
        refine sq ?_
        refine reg ?_
        refine pRun_ok (tb := tab) (n := 150) tabOk 2 _ _ hf rfl rfl fun a hf => ?_
        have H := H.frontD 3 rfl
        obtain ⟨y9, hy9, hF⟩ := bind_some hF
        refine wl0 rfl (op_call hf TF.cl44 rfl (by decide) (laws_markIntS_ok (S := fun _ => True) (F := F7) (cs := [(.slice A5 y3.length c5)]) (H.ownAt 0 rfl) H.diNd.1 mk_int hy9) fun v15 w a hp18 hf => ?_)
        obtain ⟨hch, hv, F15, ho, hbk⟩ := hp18
        obtain rfl := VR_int hv
        have H := H.wrote rfl hch ho hbk
        have H := H.arg (p := MP.val [(.slice A aWrites.length c)] aWrites) hl
        have H := H.lend 0 rfl
        have H := H.lend 1 rfl
        have H := H.lend 2 rfl
        have H := H.lend 3 rfl
        have H := H.lend 4 rfl
        have H := H.lend 5 rfl
        refine pRun_ok (tb := tab) (n := 150) tabOk 1 _ _ hf rfl rfl fun a hf => ?_
        refine wl_end ?_
        refine then_n ?_
        refine sq ?_
        refine sq ?_
        obtain ⟨c10, hGc10, hF⟩ := bind_some hF
        refine mid (fun a w => Fr a 150 [(0, (.int .i64 aFill)), (1, (.slice A aWrites.length c)), (2, (.int .i64 aSize)), (3, (.int .i64 aLow)), (4, (.int .i64 aHigh)), (11, (.slice A3 y2.1.length c3)), (12, (.slice A4 y2.2.1.length c4)), (13, (.bool y2.2.2)), (15, (.slice A6 y4.1.length c6)), (16, (.slice A7 y4.2.1.length c7)), (91, (.bool c10))] ∧ Mem ⟨w0, []⟩ S [] [] [⟨F9, MP.own F9 [(.slice A6 y4.1.length c6)] (y4.1 : List Int)⟩, ⟨F10, MP.own F10 [(.slice A7 y4.2.1.length c7)] (y4.2.1 : List Int)⟩, ⟨F3, MP.own F3 [(.slice A3 y2.1.length c3)] (y2.1 : List Int)⟩, ⟨F4, MP.own F4 [(.slice A4 y2.2.1.length c4)] (y2.2.1 : List Int)⟩] [(true, MP.val [(.slice A4 y2.2.1.length c4)] (y2.2.1 : List Int)), (true, MP.val [(.slice A3 y2.1.length c3)] (y2.1 : List Int)), (true, MP.val [(.slice A7 y4.2.1.length c7)] (y4.2.1 : List Int)), (true, MP.val [(.slice A6 y4.1.length c6)] (y4.1 : List Int)), (false, MP.val [(.slice A aWrites.length c)] (aWrites : List Int))] w) ?_ ?_
        · refine reg ?_
          refine pRun_ok (tb := tab) (n := 150) tabOk 3 _ _ hf rfl rfl fun a hf => ?_
          refine (Bool.eq_false_or_eq_true (decide (y9.1 < 0))).elim (fun hc6 => ?_) (fun hc6 => ?_)
          · rw [if_pos hc6] at hGc10
            have hf := hf.lit 75 rfl hc6
            refine pRun_ok (tb := tab) (n := 150) tabOk 16 _ _ hf rfl rfl fun a hf => ?_
            obtain rfl := Option.some.inj hGc10
            have hf := hf.prune [0, 1, 2, 3, 4, 11, 12, 13, 15, 16, 91] rfl
            have H := H.let [] [] [false, false, true, true, true, true] [0, 1, 2, 3, 6]
            exact wl_end ⟨hf, H⟩
          · rw [if_neg (nt hc6)] at hGc10
            have hf := hf.lit 75 rfl hc6
            refine pRun_ok (tb := tab) (n := 150) tabOk 2 _ _ hf rfl rfl fun a hf => ?_
            obtain ⟨y10, hy10, hGc10⟩ := bind_some hGc10
            refine wlg hf rfl rfl rfl (op_call hf TF.cl43 rfl (by decide) (laws_eqIntS_ok (S := fun _ => True) (mk_list (rep_true (α := List Int) (H.get 3 rfl))) (mk_list (rep_true (α := List Int) (H.get 1 rfl))) hy10) fun v16 w a hp19 hf => ?_)
            obtain ⟨hb9, hp19⟩ := hp19
            obtain rfl := VR_bool hp19
            have H := H.keep hb9
            refine pRun_ok (tb := tab) (n := 150) tabOk 3 _ _ hf rfl rfl fun a hf => ?_
            refine (Bool.eq_false_or_eq_true (!y10)).elim (fun hc7 => ?_) (fun hc7 => ?_)
            · rw [if_pos hc7] at hGc10
              have hf := hf.lit 81 rfl hc7
              refine pRun_ok (tb := tab) (n := 150) tabOk 10 _ _ hf rfl rfl fun a hf => ?_
              obtain rfl := Option.some.inj hGc10
              have hf := hf.prune [0, 1, 2, 3, 4, 11, 12, 13, 15, 16, 91] rfl
              have H := H.let [] [] [false, false, true, true, true, true] [0, 1, 2, 3, 6]
              exact wl_end ⟨hf, H⟩
            · rw [if_neg (nt hc7)] at hGc10
              have hf := hf.lit 81 rfl hc7
              refine pRun_ok (tb := tab) (n := 150) tabOk 2 _ _ hf rfl rfl fun a hf => ?_
              obtain ⟨y11, hy11, hGc10⟩ := bind_some hGc10
              refine wlg hf rfl rfl rfl (op_call hf TF.cl43 rfl (by decide) (laws_eqIntS_ok (S := fun _ => True) (mk_list (rep_true (α := List Int) (H.get 2 rfl))) (mk_list (rep_true (α := List Int) (H.get 0 rfl))) hy11) fun v17 w a hp20 hf => ?_)
              obtain ⟨hb10, hp20⟩ := hp20
              obtain rfl := VR_bool hp20
              have H := H.keep hb10
              refine pRun_ok (tb := tab) (n := 150) tabOk 3 _ _ hf rfl rfl fun a hf => ?_
              refine (Bool.eq_false_or_eq_true (!y11)).elim (fun hc8 => ?_) (fun hc8 => ?_)
              · rw [if_pos hc8] at hGc10
                have hf := hf.lit 87 rfl hc8
                refine pRun_ok (tb := tab) (n := 150) tabOk 4 _ _ hf rfl rfl fun a hf => ?_
                obtain rfl := Option.some.inj hGc10
                have hf := hf.prune [0, 1, 2, 3, 4, 11, 12, 13, 15, 16, 91] rfl
                have H := H.let [] [] [false, false, true, true, true, true] [0, 1, 2, 3, 6]
                exact wl_end ⟨hf, H⟩
              · rw [if_neg (nt hc8)] at hGc10
                have hf := hf.lit 87 rfl hc8
                refine pRun_ok (tb := tab) (n := 150) tabOk 4 _ _ hf rfl rfl fun a hf => ?_
                obtain rfl := Option.some.inj hGc10
                have hf := hf.prune [0, 1, 2, 3, 4, 11, 12, 13, 15, 16, 91] rfl
                have H := H.let [] [] [false, false, true, true, true, true] [0, 1, 2, 3, 6]
                exact wl_end ⟨hf, H⟩
        rintro a w ⟨hf, H⟩
        refine then_n ?_
        refine (Bool.eq_false_or_eq_true (c10)).elim (fun hc9 => ?_) (fun hc9 => ?_)
        · rw [if_pos hc9] at hF
          refine cd_t hf rfl hc9 ?_
          refine sq ?_
          refine reg ?_
          refine pRun_ok (tb := tab) (n := 150) tabOk 1 _ _ hf rfl rfl fun a hf => ?_
          refine wl_end ?_
          refine then_n ?_
          refine wp_ret (then_r (?_))
          obtain rfl := Option.some.inj hF
          refine ret_1 (fn := Try.f9) (r := .tmp 10) hf rfl (rv_tmp hf rfl) ?_
          exact ⟨_, rfl, H.bel, mk_bool⟩
        · rw [if_neg (nt hc9)] at hF
          refine cd_f hf rfl hc9 ?_
          refine wp_skip ?_
          refine then_n ?_
          refine sq ?_
          refine reg ?_
          refine pRun_ok (tb := tab) (n := 150) tabOk 1 _ _ hf rfl rfl fun a hf => ?_
          refine wl_end ?_
          refine then_n ?_
          refine sq ?_
          refine reg ?_
          refine pRun_ok (tb := tab) (n := 150) tabOk 2 _ _ hf rfl rfl fun a hf => ?_
          obtain ⟨y12, hy12, hF⟩ := bind_some hF
          refine wl0 rfl (op_call hf TF.cl44 rfl (by decide) (laws_markIntS_ok (S := fun _ => True) (F := F9) (cs := [(.slice A6 y4.1.length c6)]) (H.ownAt 0 rfl) H.diNd.1 mk_int hy12) fun v18 w a hp21 hf => ?_)
          obtain ⟨hch2, hv2, F16, ho2, hbk2⟩ := hp21
          obtain rfl := VR_int hv2
          have H := H.wrote rfl hch2 ho2 hbk2
          have H := H.arg (p := MP.val [(.slice A aWrites.length c)] aWrites) hl
          have H := H.lend 0 rfl
          have H := H.lend 1 rfl
          have H := H.lend 2 rfl
          have H := H.lend 3 rfl
          refine pRun_ok (tb := tab) (n := 150) tabOk 1 _ _ hf rfl rfl fun a hf => ?_
          refine wl_end ?_
          refine then_n ?_
          refine sq ?_
          refine reg ?_
          refine pRun_ok (tb := tab) (n := 150) tabOk 2 _ _ hf rfl rfl fun a hf => ?_
          have H := H.frontD 1 rfl
          obtain ⟨y13, hy13, hF⟩ := bind_some hF
          refine wl0 rfl (op_call hf TF.cl44 rfl (by decide) (laws_markIntS_ok (S := fun _ => True) (F := F10) (cs := [(.slice A7 y4.2.1.length c7)]) (H.ownAt 0 rfl) H.diNd.1 mk_int hy13) fun v19 w a hp22 hf => ?_)
          obtain ⟨hch3, hv3, F17, ho3, hbk3⟩ := hp22
          obtain rfl := VR_int hv3
          have H := H.wrote rfl hch3 ho3 hbk3
          have H := H.arg (p := MP.val [(.slice A aWrites.length c)] aWrites) hl
          have H := H.lend 0 rfl
          have H := H.lend 1 rfl
          have H := H.lend 2 rfl
          have H := H.lend 3 rfl
          refine pRun_ok (tb := tab) (n := 150) tabOk 1 _ _ hf rfl rfl fun a hf => ?_
          refine wl_end ?_
          refine then_n ?_
          refine sq ?_
          refine reg ?_
          refine pRun_ok (tb := tab) (n := 150) tabOk 1 _ _ hf rfl rfl fun a hf => ?_
          refine wl_end ?_
          refine then_n ?_
          refine sq ?_
          refine reg ?_
          refine pRun_ok (tb := tab) (n := 150) tabOk 2 _ _ hf rfl rfl fun a hf => ?_
          obtain ⟨y14, hy14, hF⟩ := bind_some hF
          refine wl0 rfl (op_call hf TF.cl45 rfl (by decide) (laws_heldIntS_ok (S := fun _ => True) (mk_list (rep_true (α := List Int) (H.get 2 rfl))) mk_int hy14) fun v20 w a hp23 hf => ?_)
          obtain ⟨hb11, hp23⟩ := hp23
          obtain rfl := VR_int hp23
          have H := H.keep hb11
          refine pRun_ok (tb := tab) (n := 150) tabOk 1 _ _ hf rfl rfl fun a hf => ?_
          refine wl_end ?_
          refine then_n ?_
          refine sq ?_
          refine sq ?_
          refine reg ?_
          refine pRun_ok (tb := tab) (n := 150) tabOk 2 _ _ hf rfl rfl fun a hf => ?_
          refine wl_end ?_
          refine then_n ?_
          refine (Bool.eq_false_or_eq_true (decide (y14 < 0))).elim (fun hc10 => ?_) (fun hc10 => ?_)
          · rw [if_pos hc10] at hF
            refine cd_t hf rfl hc10 ?_
            refine sq ?_
            refine reg ?_
            refine pRun_ok (tb := tab) (n := 150) tabOk 1 _ _ hf rfl rfl fun a hf => ?_
            have hf := hf.prune [10] rfl
            refine wl_end ?_
            refine then_n ?_
            refine wp_ret (then_r (?_))
            obtain rfl := Option.some.inj hF
            refine ret_1 (fn := Try.f9) (r := .tmp 10) hf rfl (rv_tmp hf rfl) ?_
            exact ⟨_, rfl, H.bel, mk_bool⟩
          · rw [if_neg (nt hc10)] at hF
            refine cd_f hf rfl hc10 ?_
            refine wp_skip ?_
            refine then_n ?_
            refine sq ?_
            refine reg ?_
            refine pRun_ok (tb := tab) (n := 150) tabOk 2 _ _ hf rfl rfl fun a hf => ?_
            obtain ⟨y15, hy15, hF⟩ := bind_some hF
            refine wl0 rfl (op_call hf TF.cl45 rfl (by decide) (laws_heldIntS_ok (S := fun _ => True) (mk_list (rep_true (α := List Int) (H.get 3 rfl))) mk_int hy15) fun v21 w a hp24 hf => ?_)
            obtain ⟨hb12, hp24⟩ := hp24
            obtain rfl := VR_int hp24
            have H := H.keep hb12
            refine pRun_ok (tb := tab) (n := 150) tabOk 1 _ _ hf rfl rfl fun a hf => ?_
            have hf := hf.prune [0, 1, 2, 3, 4, 11, 12, 13, 15, 16, 19, 20] rfl
            refine wl_end ?_
            refine then_n ?_
            refine sq ?_
            refine sq ?_
            refine reg ?_
            refine pRun_ok (tb := tab) (n := 150) tabOk 2 _ _ hf rfl rfl fun a hf => ?_
            refine wl_end ?_
            refine then_n ?_
            refine (Bool.eq_false_or_eq_true (decide (y15 < 0))).elim (fun hc11 => ?_) (fun hc11 => ?_)
            · rw [if_pos hc11] at hF
              refine cd_t hf rfl hc11 ?_
              refine sq ?_
              refine reg ?_
              refine pRun_ok (tb := tab) (n := 150) tabOk 1 _ _ hf rfl rfl fun a hf => ?_
              have hf := hf.prune [10] rfl
              refine wl_end ?_
              refine then_n ?_
              refine wp_ret (then_r (?_))
              obtain rfl := Option.some.inj hF
              refine ret_1 (fn := Try.f9) (r := .tmp 10) hf rfl (rv_tmp hf rfl) ?_
              exact ⟨_, rfl, H.bel, mk_bool⟩
            · rw [if_neg (nt hc11)] at hF
              refine cd_f hf rfl hc11 ?_
              refine wp_skip ?_
              refine then_n ?_
              refine sq ?_
              refine sq ?_
              refine reg ?_
              refine pRun_ok (tb := tab) (n := 150) tabOk 3 _ _ hf rfl rfl fun a hf => ?_
              refine wl_end ?_
              refine then_n ?_
              refine (Bool.eq_false_or_eq_true (y15 != y13.1)).elim (fun hc12 => ?_) (fun hc12 => ?_)
              · rw [if_pos hc12] at hF
                refine cd_t hf rfl hc12 ?_
                refine sq ?_
                refine reg ?_
                refine pRun_ok (tb := tab) (n := 150) tabOk 1 _ _ hf rfl rfl fun a hf => ?_
                have hf := hf.prune [10] rfl
                refine wl_end ?_
                refine then_n ?_
                refine wp_ret (then_r (?_))
                obtain rfl := Option.some.inj hF
                refine ret_1 (fn := Try.f9) (r := .tmp 10) hf rfl (rv_tmp hf rfl) ?_
                exact ⟨_, rfl, H.bel, mk_bool⟩
              · rw [if_neg (nt hc12)] at hF
                refine cd_f hf rfl hc12 ?_
                refine wp_skip ?_
                refine then_n ?_
                refine sq ?_
                refine reg ?_
                refine pRun_ok (tb := tab) (n := 150) tabOk 2 _ _ hf rfl rfl fun a hf => ?_
                obtain ⟨y16, hy16, hF⟩ := bind_some hF
                refine wl0 rfl (op_call hf TF.cl41 rfl (by decide) (laws_toIntS_ok (S := fun _ => True) (mk_list (rep_true (α := List Int) (H.get 4 rfl))) hy16) fun v22 w a hp25 hf => ?_)
                obtain ⟨hb13, F18, hp26, hN6⟩ := hp25
                obtain ⟨A9, c11, rfl, hl9⟩ := VO_list hp26
                have H := H.addOwn hb13 (X := [(⟨F18, MP.own F18 [(.slice A9 y16.length c11)] (y16 : List Int)⟩ : DI)]) (by simpa using hN6.1) (ps1 hl9 ps0) (by simpa using hN6.2)
                have H := H.lend 0 rfl
                refine pRun_ok (tb := tab) (n := 150) tabOk 3 _ _ hf rfl rfl fun a hf => ?_
                obtain ⟨y17, hy17, hF⟩ := bind_some hF
                refine wl0 rfl (op_call hf TF.cl42 rfl (by decide) (impl_JustifyBuffer_ok (S := fun _ => True) mk_int (mk_list (rep_true (α := List Int) (H.get 0 rfl))) mk_int mk_int mk_int hy17) fun v23 w a hp27 hf => ?_)
                obtain ⟨hb14, F20, F21, v24, v25, v26, rfl, hp28, hp29, hp30, hN7⟩ := hp27
                obtain ⟨A10, c12, rfl, hl10⟩ := VO_list hp28
                obtain ⟨A11, c13, rfl, hl11⟩ := VO_list hp29
                obtain rfl := VR_bool hp30
                have H := H.addOwn hb14 (X := [(⟨F20, MP.own F20 [(.slice A10 y17.1.length c12)] (y17.1 : List Int)⟩ : DI), (⟨F21, MP.own F21 [(.slice A11 y17.2.1.length c13)] (y17.2.1 : List Int)⟩ : DI)]) (by simpa using hN7.1) (ps1 hl10 (ps1 hl11 ps0)) (by simpa using hN7.2)
                have H := H.lend 0 rfl
                have H := H.lend 1 rfl
                refine pRun_ok (tb := tab) (n := 150) tabOk 7 _ _ hf rfl rfl fun a hf => ?_
                have hf := hf.prune [11, 12, 13, 15, 16, 19, 21, 22, 23] rfl
                refine wl_end ?_
                refine then_n ?_
                refine sq ?_
                refine sq ?_
                obtain ⟨c14, hGc14, hF⟩ := bind_some hF
                refine mid (fun a w => Fr a 150 [(15, (.slice A6 y4.1.length c6)), (16, (.slice A7 y4.2.1.length c7)), (19, (.int .i64 y13.1)), (136, (.bool c14))] ∧ Mem ⟨w0, []⟩ S [] [] [⟨F17, MP.own F17 [(.slice A7 y4.2.1.length c7)] (y13.2 : List Int)⟩, ⟨F16, MP.own F16 [(.slice A6 y4.1.length c6)] (y12.2 : List Int)⟩] [(true, MP.val [(.slice A6 y4.1.length c6)] (y12.2 : List Int)), (true, MP.val [(.slice A7 y4.2.1.length c7)] (y13.2 : List Int))] w) ?_ ?_
                · refine reg ?_
                  refine pRun_ok (tb := tab) (n := 150) tabOk 2 _ _ hf rfl rfl fun a hf => ?_
                  obtain ⟨y18, hy18, hGc14⟩ := bind_some hGc14
                  refine wl0 rfl (op_call hf TF.cl43 rfl (by decide) (laws_eqIntS_ok (S := fun _ => True) (mk_list (rep_true (α := List Int) (H.get 1 rfl))) (mk_list (rep_true (α := List Int) (H.get 4 rfl))) hy18) fun v27 w a hp31 hf => ?_)
                  obtain ⟨hb15, hp31⟩ := hp31
                  obtain rfl := VR_bool hp31
                  have H := H.keep hb15
                  refine pRun_ok (tb := tab) (n := 150) tabOk 2 _ _ hf rfl rfl fun a hf => ?_
                  refine (Bool.eq_false_or_eq_true (!y18)).elim (fun hc13 => ?_) (fun hc13 => ?_)
                  · rw [if_pos hc13] at hGc14
                    have hf := hf.lit 126 rfl hc13
                    refine pRun_ok (tb := tab) (n := 150) tabOk 10 _ _ hf rfl rfl fun a hf => ?_
                    obtain rfl := Option.some.inj hGc14
                    have hf := hf.prune [15, 16, 19, 136] rfl
                    have H := H.let [] [] [false, false, false, true, true, false, false] [5, 6]
                    exact wl_end ⟨hf, H⟩
                  · rw [if_neg (nt hc13)] at hGc14
                    have hf := hf.lit 126 rfl hc13
                    refine pRun_ok (tb := tab) (n := 150) tabOk 2 _ _ hf rfl rfl fun a hf => ?_
                    obtain ⟨y19, hy19, hGc14⟩ := bind_some hGc14
                    refine wlg hf rfl rfl rfl (op_call hf TF.cl43 rfl (by decide) (laws_eqIntS_ok (S := fun _ => True) (mk_list (rep_true (α := List Int) (H.get 0 rfl))) (mk_list (rep_true (α := List Int) (H.get 3 rfl))) hy19) fun v28 w a hp32 hf => ?_)
                    obtain ⟨hb16, hp32⟩ := hp32
                    obtain rfl := VR_bool hp32
                    have H := H.keep hb16
                    refine pRun_ok (tb := tab) (n := 150) tabOk 3 _ _ hf rfl rfl fun a hf => ?_
                    refine (Bool.eq_false_or_eq_true (!y19)).elim (fun hc14 => ?_) (fun hc14 => ?_)
                    · rw [if_pos hc14] at hGc14
                      have hf := hf.lit 132 rfl hc14
                      refine pRun_ok (tb := tab) (n := 150) tabOk 4 _ _ hf rfl rfl fun a hf => ?_
                      obtain rfl := Option.some.inj hGc14
                      have hf := hf.prune [15, 16, 19, 136] rfl
                      have H := H.let [] [] [false, false, false, true, true, false, false] [5, 6]
                      exact wl_end ⟨hf, H⟩
                    · rw [if_neg (nt hc14)] at hGc14
                      have hf := hf.lit 132 rfl hc14
                      refine pRun_ok (tb := tab) (n := 150) tabOk 4 _ _ hf rfl rfl fun a hf => ?_
                      obtain rfl := Option.some.inj hGc14
                      have hf := hf.prune [15, 16, 19, 136] rfl
                      have H := H.let [] [] [false, false, false, true, true, false, false] [5, 6]
                      exact wl_end ⟨hf, H⟩
                rintro a w ⟨hf, H⟩
                refine then_n ?_
                refine (Bool.eq_false_or_eq_true (c14)).elim (fun hc15 => ?_) (fun hc15 => ?_)
                · rw [if_pos hc15] at hF
                  refine cd_t hf rfl hc15 ?_
                  refine sq ?_
                  refine reg ?_
                  refine pRun_ok (tb := tab) (n := 150) tabOk 1 _ _ hf rfl rfl fun a hf => ?_
                  refine wl_end ?_
                  refine then_n ?_
                  refine wp_ret (then_r (?_))
                  obtain rfl := Option.some.inj hF
                  refine ret_1 (fn := Try.f9) (r := .tmp 10) hf rfl (rv_tmp hf rfl) ?_
                  exact ⟨_, rfl, H.bel, mk_bool⟩
                · rw [if_neg (nt hc15)] at hF
                  refine cd_f hf rfl hc15 ?_
                  refine wp_skip ?_
                  refine then_n ?_
                  refine sq ?_
                  refine reg ?_
                  refine pRun_ok (tb := tab) (n := 150) tabOk 1 _ _ hf rfl rfl fun a hf => ?_
                  refine wl_end ?_
                  refine then_n ?_
                  refine sq ?_
                  refine reg ?_
                  refine pRun_ok (tb := tab) (n := 150) tabOk 2 _ _ hf rfl rfl fun a hf => ?_
                  obtain ⟨y20, hy20, hF⟩ := bind_some hF
                  refine wl0 rfl (op_call hf TF.cl45 rfl (by decide) (laws_heldIntS_ok (S := fun _ => True) (mk_list (rep_true (α := List Int) (H.get 0 rfl))) mk_int hy20) fun v29 w a hp33 hf => ?_)
                  obtain ⟨hb17, hp33⟩ := hp33
                  obtain rfl := VR_int hp33
                  have H := H.keep hb17
                  refine pRun_ok (tb := tab) (n := 150) tabOk 1 _ _ hf rfl rfl fun a hf => ?_
                  refine wl_end ?_
                  refine then_n ?_
                  refine sq ?_
                  refine sq ?_
                  refine reg ?_
                  refine pRun_ok (tb := tab) (n := 150) tabOk 2 _ _ hf rfl rfl fun a hf => ?_
                  refine wl_end ?_
                  refine then_n ?_
                  refine (Bool.eq_false_or_eq_true (decide (y20 < 0))).elim (fun hc16 => ?_) (fun hc16 => ?_)
                  · rw [if_pos hc16] at hF
                    refine cd_t hf rfl hc16 ?_
                    refine sq ?_
                    refine reg ?_
                    refine pRun_ok (tb := tab) (n := 150) tabOk 1 _ _ hf rfl rfl fun a hf => ?_
                    refine wl_end ?_
                    refine then_n ?_
                    refine wp_ret (then_r (?_))
                    obtain rfl := Option.some.inj hF
                    refine ret_1 (fn := Try.f9) (r := .tmp 10) hf rfl (rv_tmp hf rfl) ?_
                    exact ⟨_, rfl, H.bel, mk_bool⟩
                  · rw [if_neg (nt hc16)] at hF
                    refine cd_f hf rfl hc16 ?_
                    refine wp_skip ?_
                    refine then_n ?_
                    refine sq ?_
                    refine reg ?_
                    refine pRun_ok (tb := tab) (n := 150) tabOk 2 _ _ hf rfl rfl fun a hf => ?_
                    obtain ⟨y21, hy21, hF⟩ := bind_some hF
                    refine wl0 rfl (op_call hf TF.cl45 rfl (by decide) (laws_heldIntS_ok (S := fun _ => True) (mk_list (rep_true (α := List Int) (H.get 1 rfl))) mk_int hy21) fun v30 w a hp34 hf => ?_)
                    obtain ⟨hb18, hp34⟩ := hp34
                    obtain rfl := VR_int hp34
                    have H := H.keep hb18
                    refine pRun_ok (tb := tab) (n := 150) tabOk 1 _ _ hf rfl rfl fun a hf => ?_
                    refine wl_end ?_
                    refine then_n ?_
                    refine sq ?_
                    refine sq ?_
                    refine reg ?_
                    refine pRun_ok (tb := tab) (n := 150) tabOk 2 _ _ hf rfl rfl fun a hf => ?_
                    refine wl_end ?_
                    refine then_n ?_
                    refine (Bool.eq_false_or_eq_true (decide (y21 < 0))).elim (fun hc17 => ?_) (fun hc17 => ?_)
                    · rw [if_pos hc17] at hF
                      refine cd_t hf rfl hc17 ?_
                      refine sq ?_
                      refine reg ?_
                      refine pRun_ok (tb := tab) (n := 150) tabOk 1 _ _ hf rfl rfl fun a hf => ?_
                      have hf := hf.prune [10] rfl
                      refine wl_end ?_
                      refine then_n ?_
                      refine wp_ret (then_r (?_))
                      obtain rfl := Option.some.inj hF
                      refine ret_1 (fn := Try.f9) (r := .tmp 10) hf rfl (rv_tmp hf rfl) ?_
                      exact ⟨_, rfl, H.bel, mk_bool⟩
                    · rw [if_neg (nt hc17)] at hF
                      refine cd_f hf rfl hc17 ?_
                      refine wp_skip ?_
                      refine then_n ?_
                      refine sq ?_
                      refine sq ?_
                      refine reg ?_
                      refine pRun_ok (tb := tab) (n := 150) tabOk 3 _ _ hf rfl rfl fun a hf => ?_
                      have hf := hf.prune [149] rfl
                      refine wl_end ?_
                      refine then_n ?_
                      refine (Bool.eq_false_or_eq_true (y21 != y13.1)).elim (fun hc18 => ?_) (fun hc18 => ?_)
                      · rw [if_pos hc18] at hF
                        refine cd_t hf rfl hc18 ?_
                        refine sq ?_
                        refine reg ?_
                        refine pRun_ok (tb := tab) (n := 150) tabOk 1 _ _ hf rfl rfl fun a hf => ?_
                        refine wl_end ?_
                        refine then_n ?_
                        refine wp_ret (then_r (?_))
                        obtain rfl := Option.some.inj hF
                        refine ret_1 (fn := Try.f9) (r := .tmp 10) hf rfl (rv_tmp hf rfl) ?_
                        exact ⟨_, rfl, H.bel, mk_bool⟩
                      · rw [if_neg (nt hc18)] at hF
                        refine cd_f hf rfl hc18 ?_
                        refine wp_skip ?_
                        refine then_n ?_
                        refine sq ?_
                        refine reg ?_
                        refine pRun_ok (tb := tab) (n := 150) tabOk 1 _ _ hf rfl rfl fun a hf => ?_
                        refine wl_end ?_
                        refine then_n ?_
                        refine wp_ret (?_)
                        obtain rfl := Option.some.inj hF
                        refine ret_1 (fn := Try.f9) (r := .tmp 10) hf rfl (rv_tmp hf rfl) ?_
                        exact ⟨_, rfl, H.bel, mk_bool⟩
end AT
