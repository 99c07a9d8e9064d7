/- The Go functions do what is told of them, by program (gen.py). -/
import Derived.Test.YtijgfgfolkbkoaaT
set_option linter.unusedVariables false
set_option linter.unusedSimpArgs false
set_option maxRecDepth 100000
namespace AT
open Go Go.RowKit Go.Proofs

/- loop.example/g00897/laws.szSpanS -/
set_option maxHeartbeats 1000000 in
theorem laws_szSpanS_ok {fu : Nat} {w0 : World} {S : Nat → Prop} {v0_ : Value} {v1_ : Value} {a' : List Span} {left : Int} {r : Int} (h0 : VR w0 S v0_ a') (h1 : VR w0 S v1_ left) (hF : laws_szSpanS fu a' left = some r) :
    Calls Try.prog 80 [v0_, v1_].toArray w0 fun e w' => ∃ v, e = .returned v ∧ (Below w0.heap.size w0 w' ∧ VR w' (St ⟨w0, []⟩ S [] [] [] true) v r) := by
  obtain ⟨A, c, rfl, hl⟩ := VR_list h0
  obtain rfl := VR_int h1
  have H := Mem.start ⟨w0, []⟩ S
  have H := H.pushArg (MP.val [(.slice A a'.length c)] a') hl
  refine enter Try.func80 rfl rfl (nle rfl) rfl fun a hf => ?_
  rw [laws_szSpanS] at hF
  refine sq ?_
  refine reg ?_
  refine pRun_ok (tb := tab) (n := 12) tabOk 1 _ _ hf rfl rfl fun a hf => ?_
  refine wl_end ?_
  refine then_n ?_
  refine sq ?_
  refine reg ?_
  refine pRun_ok (tb := tab) (n := 12) tabOk 5 _ _ hf rfl rfl fun a hf => ?_
  refine wl_end ?_
  refine then_n ?_
  refine sq ?_
  refine sq ?_
  refine reg ?_
  refine pRun_ok (tb := tab) (n := 12) tabOk 2 _ _ hf rfl rfl fun a hf => ?_
  refine wl_end ?_
  refine then_n ?_
  refine (Bool.eq_false_or_eq_true (decide ((w64 (left - (a'.length : Int))) < 0))).elim (fun hc => ?_) (fun hc => ?_)
  · rw [if_pos hc] at hF
    refine cd_t hf rfl hc ?_
    refine sq ?_
    refine reg ?_
    refine pRun_ok (tb := tab) (n := 12) tabOk 1 _ _ hf rfl rfl fun a hf => ?_
    refine wl_end ?_
    refine then_n ?_
    refine wp_ret (then_r (?_))
    obtain rfl := Option.some.inj hF
    refine ret_1 (fn := Try.f80) (r := .tmp 4) hf rfl (rv_tmp hf rfl) ?_
    exact ⟨_, rfl, H.bel, mk_int⟩
  · rw [if_neg (nt hc)] at hF
    refine cd_f hf rfl hc ?_
    refine wp_skip ?_
    refine then_n ?_
    refine sq ?_
    refine reg ?_
    refine pRun_ok (tb := tab) (n := 12) tabOk 2 _ _ hf rfl rfl fun a hf => ?_
    refine wl_end ?_
    refine then_n ?_
    refine wp_ret (?_)
    obtain rfl := Option.some.inj hF
    refine ret_1 (fn := Try.f80) (r := .tmp 4) hf rfl (rv_tmp hf rfl) ?_
    exact ⟨_, rfl, H.bel, mk_int⟩

/- loop.example/g00897/laws.szAmplifierS -/
set_option maxHeartbeats 1000000 in
theorem laws_szAmplifierS_ok {fu : Nat} {w0 : World} {S : Nat → Prop} {v0_ : Value} {v1_ : Value} {a' : List Amplifier} {left : Int} {r : Int} (h0 : VR w0 S v0_ a') (h1 : VR w0 S v1_ left) (hF : laws_szAmplifierS fu a' left = some r) :
    Calls Try.prog 54 [v0_, v1_].toArray w0 fun e w' => ∃ v, e = .returned v ∧ (Below w0.heap.size w0 w' ∧ VR w' (St ⟨w0, []⟩ S [] [] [] true) v r) := by
  obtain ⟨A, c, rfl, hl⟩ := VR_list h0
  obtain rfl := VR_int h1
  have H := Mem.start ⟨w0, []⟩ S
  have H := H.pushArg (MP.val [(.slice A a'.length c)] a') hl
  refine enter Try.func54 rfl rfl (nle rfl) rfl fun a hf => ?_
  rw [laws_szAmplifierS] at hF
  refine sq ?_
  refine reg ?_
  refine pRun_ok (tb := tab) (n := 12) tabOk 1 _ _ hf rfl rfl fun a hf => ?_
  refine wl_end ?_
  refine then_n ?_
  refine sq ?_
  refine reg ?_
  refine pRun_ok (tb := tab) (n := 12) tabOk 5 _ _ hf rfl rfl fun a hf => ?_
  refine wl_end ?_
  refine then_n ?_
  refine sq ?_
  refine sq ?_
  refine reg ?_
  refine pRun_ok (tb := tab) (n := 12) tabOk 2 _ _ hf rfl rfl fun a hf => ?_
  refine wl_end ?_
  refine then_n ?_
  refine (Bool.eq_false_or_eq_true (decide ((w64 (left - (a'.length : Int))) < 0))).elim (fun hc => ?_) (fun hc => ?_)
  · rw [if_pos hc] at hF
    refine cd_t hf rfl hc ?_
    refine sq ?_
    refine reg ?_
    refine pRun_ok (tb := tab) (n := 12) tabOk 1 _ _ hf rfl rfl fun a hf => ?_
    refine wl_end ?_
    refine then_n ?_
    refine wp_ret (then_r (?_))
    obtain rfl := Option.some.inj hF
    refine ret_1 (fn := Try.f54) (r := .tmp 4) hf rfl (rv_tmp hf rfl) ?_
    exact ⟨_, rfl, H.bel, mk_int⟩
  · rw [if_neg (nt hc)] at hF
    refine cd_f hf rfl hc ?_
    refine wp_skip ?_
    refine then_n ?_
    refine sq ?_
    refine reg ?_
    refine pRun_ok (tb := tab) (n := 12) tabOk 2 _ _ hf rfl rfl fun a hf => ?_
    refine wl_end ?_
    refine then_n ?_
    refine wp_ret (?_)
    obtain rfl := Option.some.inj hF
    refine ret_1 (fn := Try.f54) (r := .tmp 4) hf rfl (rv_tmp hf rfl) ?_
    exact ⟨_, rfl, H.bel, mk_int⟩

/- loop.example/g00897/laws.toSpan -/
set_option maxHeartbeats 1000000 in
theorem laws_toSpan_ok {fu : Nat} {w0 : World} {S : Nat → Prop} {v0_ : Value} {a' : Span} {r : Span} (h0 : VR w0 S v0_ a') (hF : laws_toSpan fu a' = some r) :
    Calls Try.prog 27 [v0_].toArray w0 fun e w' => ∃ v, e = .returned v ∧ (Below w0.heap.size w0 w' ∧ VR w' (St ⟨w0, []⟩ S [] [] [] true) v r) := by
  obtain rfl := Span_open h0
  have H := Mem.start ⟨w0, []⟩ S
  refine enter Try.func27 rfl rfl (nle rfl) rfl fun a hf => ?_
  rw [laws_toSpan] at hF
  refine sq ?_
  refine reg ?_
  refine wl0 rfl (op_box hf H rfl rfl (by decide) fun b' a w hf H => ?_)
  refine wl0 rfl (op_alloc hf H TF.zv28 rfl (by decide) fun b2 a w hf H => ?_)
  refine wl_end ?_
  refine then_n ?_
  refine sq ?_
  refine reg ?_
  refine wl0 rfl (op_alloc hf H TF.zv28 rfl (by decide) fun b3 a w hf H => ?_)
  refine wl_end ?_
  refine then_n ?_
  refine sq ?_
  refine reg ?_
  refine pRun_ok (tb := tab) (n := 14) tabOk 1 _ _ hf rfl rfl fun a hf => ?_
  refine wl0 rfl (op_q hf (rq_loadB hf H TF.ls3 2 rfl rfl rfl) rfl (by decide) fun a hf => ?_)
  refine pRun_ok (tb := tab) (n := 14) tabOk 1 _ _ hf rfl rfl fun a hf => ?_
  refine wl0 rfl (op_storeB hf H 0 TF.sz3 rfl rfl rfl rfl rfl rfl (nle rfl) fun w H => ?_)
  refine wl_end ?_
  refine then_n ?_
  refine sq ?_
  refine reg ?_
  refine pRun_ok (tb := tab) (n := 14) tabOk 1 _ _ hf rfl rfl fun a hf => ?_
  refine wl0 rfl (op_q hf (rq_loadB hf H TF.ls3 2 rfl rfl rfl) rfl (by decide) fun a hf => ?_)
  refine pRun_ok (tb := tab) (n := 14) tabOk 1 _ _ hf rfl rfl fun a hf => ?_
  refine wl0 rfl (op_storeB hf H 0 TF.sz3 rfl rfl rfl rfl rfl rfl (nle rfl) fun w H => ?_)
  refine wl_end ?_
  refine then_n ?_
  refine sq ?_
  refine reg ?_
  refine pRun_ok (tb := tab) (n := 14) tabOk 1 _ _ hf rfl rfl fun a hf => ?_
  refine wl0 rfl (op_q hf (rq_loadB hf H TF.ls3 2 rfl rfl rfl) rfl (by decide) fun a hf => ?_)
  refine pRun_ok (tb := tab) (n := 14) tabOk 1 _ _ hf rfl rfl fun a hf => ?_
  refine wl0 rfl (op_storeB hf H 0 TF.sz3 rfl rfl rfl rfl rfl rfl (nle rfl) fun w H => ?_)
  refine wl_end ?_
  refine then_n ?_
  refine sq ?_
  refine reg ?_
  refine wl0 rfl (op_q hf (rq_loadBN hf H TF.la28 0 rfl rfl rfl rfl) rfl (by decide) fun a hf => ?_)
  refine wl0 rfl (op_storeB hf H 1 TF.sz28 rfl rfl rfl rfl rfl rfl (nle rfl) fun w H => ?_)
  have hf := hf.prune [2] rfl
  refine wl_end ?_
  refine then_n ?_
  refine wp_ret (?_)
  obtain rfl := Option.some.inj hF
  refine ret_1 (fn := Try.f27) (r := .cell 2 28) hf rfl (rv_cellN hf H 1 TF.la28 rfl rfl rfl) ?_
  exact ⟨_, rfl, H.bel, Span_mkv⟩

/- loop.example/g00897/laws.toSpanS -/
set_option maxHeartbeats 1000000 in
theorem laws_toSpanS_ok {fu : Nat} {w0 : World} {S : Nat → Prop} {v0_ : Value} {a' : List Span} {r : List Span} (h0 : VR w0 S v0_ a') (hF : laws_toSpanS fu a' = some r) :
    Calls Try.prog 82 [v0_].toArray w0 fun e w' => ∃ v, e = .returned v ∧ (Below w0.heap.size w0 w' ∧ ∃ F0, VO w' F0 v r ∧ New w0 w' F0) := by
  obtain ⟨A, c, rfl, hl⟩ := VR_list h0
  have H := Mem.start ⟨w0, []⟩ S
  have H := H.pushArg (MP.val [(.slice A a'.length c)] a') hl
  refine enter Try.func82 rfl rfl (nle rfl) rfl fun a hf => ?_
  rw [laws_toSpanS] at hF
  refine sq ?_
  refine reg ?_
  refine pRun_ok (tb := tab) (n := 23) tabOk 1 _ _ hf rfl rfl fun a hf => ?_
  refine wl_end ?_
  refine then_n ?_
  refine sq ?_
  refine reg ?_
  refine pRun_ok (tb := tab) (n := 23) tabOk 2 _ _ hf rfl rfl fun a hf => ?_
  obtain ⟨l, hl, hF⟩ := bind_some hF
  refine wl0 rfl (op_make (z0 := (({ Length := 0, Loss := 0, Splices := 0 } : Span) : Span)) hf H Try.underlying96 TF.ai28 rfl (by decide) rfl rfl (Span_mk (x := ({ Length := 0, Loss := 0, Splices := 0 } : Span))) hl (by decide) fun A2 c2 a w hf H => ?_)
  refine pRun_ok (tb := tab) (n := 23) tabOk 1 _ _ hf rfl rfl fun a hf => ?_
  refine wl_end ?_
  refine then_n ?_
  refine sq ?_
  refine sq ?_
  refine reg ?_
  refine pRun_ok (tb := tab) (n := 23) tabOk 1 _ _ hf rfl rfl fun a hf => ?_
  refine wl_end ?_
  refine then_n ?_
  obtain ⟨out2, hB1, hF⟩ := bind_some hF
  have hf := hf.prune [0, 3, 4] rfl
  have H := H.let [] [true] [] [0]
  have hI : (fun (s : List Span × Int) (a : Act) (w : World) => match s with | (out', i) => ∃ (A3 : Option Addr) (c3 : Nat), Fr a 23 [(0, (.slice A a'.length c)), (3, (.slice A3 out'.length c3)), (4, (.int .i64 i))] ∧ Mem ⟨w0, []⟩ S [] [⟨.sh true, 28, A3, c3, (out' : List Span)⟩] [] [(false, MP.val [(.slice A a'.length c)] (a' : List Span))] w) (l, 0) a w := ⟨A2, c2, hf, H⟩
  refine mid (fun a w => ∃ s : List Span × Int, out2 = s ∧ (fun (s : List Span × Int) (a : Act) (w : World) => match s with | (out', i) => ∃ (A3 : Option Addr) (c3 : Nat), Fr a 23 [(0, (.slice A a'.length c)), (3, (.slice A3 out'.length c3)), (4, (.int .i64 i))] ∧ Mem ⟨w0, []⟩ S [] [⟨.sh true, 28, A3, c3, (out' : List Span)⟩] [] [(false, MP.val [(.slice A a'.length c)] (a' : List Span))] w) s a w) ?_ ?_
  · refine wp_block ?_
    refine loop_rule (fun k (s : List Span × Int) => laws_toSpanS_L1 fu a' k s.1 s.2 = some out2) (fun (s : List Span × Int) (a : Act) (w : World) => match s with | (out', i) => ∃ (A3 : Option Addr) (c3 : Nat), Fr a 23 [(0, (.slice A a'.length c)), (3, (.slice A3 out'.length c3)), (4, (.int .i64 i))] ∧ Mem ⟨w0, []⟩ S [] [⟨.sh true, 28, A3, c3, (out' : List Span)⟩] [] [(false, MP.val [(.slice A a'.length c)] (a' : List Span))] w) (fun s h => by cases h) ?_ fu (l, 0) a w hB1 hI
    rintro fk ⟨out', i⟩ a w hR1 hI
    replace hR1 : laws_toSpanS_L1 fu a' (fk + 1) out' i = some out2 := hR1
    rw [laws_toSpanS_L1] at hR1
    obtain ⟨A3, c3, hf, H⟩ := hI
    refine sq ?_
    refine sq ?_
    refine reg ?_
    refine pRun_ok (tb := tab) (n := 23) tabOk 4 _ _ hf rfl rfl fun a hf => ?_
    refine wl_end ?_
    refine then_n ?_
    refine (Bool.eq_false_or_eq_true (decide (i < (a'.length : Int)))).elim (fun hc => ?_) (fun hc => ?_)
    · rw [if_pos hc] at hR1
      refine cd_t hf rfl hc ?_
      refine wp_skip ?_
      refine then_n ?_
      refine sq ?_
      refine wp_block ?_
      refine reg ?_
      refine pRun_ok (tb := tab) (n := 23) tabOk 4 _ _ hf rfl rfl fun a hf => ?_
      obtain ⟨e, he, hR1⟩ := bind_some hR1
      refine wl0 rfl (op_iaddr hf H Try.underlying91 TF.sz26 0 rfl rfl rfl he (by decide) fun p o cs a hf hr H => ?_)
      obtain rfl := Span_cells hr
      refine wl0 rfl (op_q hf (rq_loadIN hf H TF.la26 0 0 rfl rfl rfl rfl) rfl (by decide) fun a hf => ?_)
      obtain ⟨y, hy, hR1⟩ := bind_some hR1
      refine wl0 rfl (op_call hf TF.cl27 rfl (by decide) (laws_toSpan_ok (S := fun _ => True) Span_mkv hy) fun v w a hp hf => ?_)
      obtain ⟨hb, hp⟩ := hp
      obtain rfl := Span_open hp
      have H := H.keep hb
      obtain ⟨e2, he2, hR1⟩ := bind_some hR1
      refine wl0 rfl (op_iaddrR hf H Try.underlying96 TF.sz28 0 rfl rfl rfl he2 (by decide) fun p2 o2 cs2 a hf hA hr2 hk => ?_)
      obtain rfl := Span_cells hr2
      refine wl0 rfl (op_storeR (e' := y) hf H TF.sz28 0 rfl rfl rfl rfl rfl (nle rfl) rfl hA he2 (st_full (Span_mk (x := y))) fun w H => ?_)
      replace hf : Fr a 23 [(0, (.slice A a'.length c)), (3, (.slice A3 out'.length c3)), (4, (.int .i64 i)), (8, (.int .i64 i)), (9, (.slice A a'.length c)), (10, (.int .i64 (a'.length : Int))), (11, (.bool (decide (i < (a'.length : Int))))), (14, (.slice A3 out'.length c3)), (15, (.int .i64 i)), (16, (.slice A a'.length c)), (17, (.int .i64 i)), (18, (.pointer (some ⟨p, o + 0, none⟩))), (19, (.agg #[(.int .i64 e.Length), (.int .i64 e.Loss), (.int .i64 e.Splices)])), (20, (.agg #[(.int .i64 y.Length), (.int .i64 y.Loss), (.int .i64 y.Splices)])), (21, (.pointer (some ⟨p2, o2 + 0, none⟩)))] := hf.prune [0, 3, 4, 8, 9, 10, 11, 14, 15, 16, 17, 18, 19, 20, 21] rfl
      replace hf : Fr a 23 [(0, (.slice A a'.length c)), (3, (.slice A3 (out'.set (i).toNat y).length c3)), (4, (.int .i64 i)), (8, (.int .i64 i)), (9, (.slice A a'.length c)), (10, (.int .i64 (a'.length : Int))), (11, (.bool (decide (i < (a'.length : Int))))), (14, (.slice A3 (out'.set (i).toNat y).length c3)), (15, (.int .i64 i)), (16, (.slice A a'.length c)), (17, (.int .i64 i)), (18, (.pointer (some ⟨p, o + 0, none⟩))), (19, (.agg #[(.int .i64 e.Length), (.int .i64 e.Loss), (.int .i64 e.Splices)])), (20, (.agg #[(.int .i64 y.Length), (.int .i64 y.Loss), (.int .i64 y.Splices)])), (21, (.pointer (some ⟨p2, o2 + 0, none⟩)))] := by simpa only [List.length_set, Nat.add_zero] using hf
      refine wl_end ?_
      refine blk_n ?_
      refine then_n ?_
      refine reg ?_
      refine pRun_ok (tb := tab) (n := 23) tabOk 3 _ _ hf rfl rfl fun a hf => ?_
      have hf := hf.prune [0, 3, 4] rfl
      refine wl_end ?_
      have hf := hf.prune [0, 3, 4] rfl
      have H := H.let [] [true] [] [1]
      exact then_n ⟨(out'.set (i).toNat y, w64 (i + 1)), hR1, A3, c3, hf, H⟩
    · rw [if_neg (nt hc)] at hR1
      refine cd_f hf rfl hc ?_
      refine wp_exit (then_x (then_x (blk_e (?_))))
      have hf := hf.prune [0, 3, 4] rfl
      have H := H.let [] [true] [] [0]
      exact ⟨(out', i), (Option.some.inj hR1).symm, A3, c3, hf, H⟩
  rintro a w ⟨⟨out3, i2⟩, rfl, A4, c4, hf, H⟩
  dsimp only at hF
  refine then_n ?_
  refine sq ?_
  refine reg ?_
  refine pRun_ok (tb := tab) (n := 23) tabOk 2 _ _ hf rfl rfl fun a hf => ?_
  refine wl_end ?_
  refine then_n ?_
  refine wp_ret (?_)
  have H := H.rowOwn 0 rfl rfl
  obtain ⟨F, H⟩ := H.freezeOwn 0 rfl
  have H := H.lend 0 rfl
  obtain rfl := Option.some.inj hF
  refine ret_1 (fn := Try.f82) (r := .tmp 2) hf rfl (rv_tmp hf rfl) ?_
  have hN : New w0 w F := by simpa using H.ends (X := [(⟨F, MP.own F [(.slice A4 out3.length c4)] (out3 : List Span)⟩ : DI)])
  exact ⟨_, rfl, H.bel, F, (mko_list (H.ownAt 0 rfl)), hN⟩

/- loop.example/g00897/laws.toAmplifier -/
set_option maxHeartbeats 1000000 in
theorem laws_toAmplifier_ok {fu : Nat} {w0 : World} {S : Nat → Prop} {v0_ : Value} {a' : Amplifier} {r : Amplifier} (h0 : VR w0 S v0_ a') (hF : laws_toAmplifier fu a' = some r) :
    Calls Try.prog 83 [v0_].toArray w0 fun e w' => ∃ v, e = .returned v ∧ (Below w0.heap.size w0 w' ∧ VR w' (St ⟨w0, []⟩ S [] [] [] true) v r) := by
  obtain rfl := Amplifier_open h0
  have H := Mem.start ⟨w0, []⟩ S
  refine enter Try.func83 rfl rfl (nle rfl) rfl fun a hf => ?_
  rw [laws_toAmplifier] at hF
  refine sq ?_
  refine reg ?_
  refine wl0 rfl (op_box hf H rfl rfl (by decide) fun b' a w hf H => ?_)
  refine wl0 rfl (op_alloc hf H TF.zv88 rfl (by decide) fun b2 a w hf H => ?_)
  refine wl_end ?_
  refine then_n ?_
  refine sq ?_
  refine reg ?_
  refine wl0 rfl (op_alloc hf H TF.zv88 rfl (by decide) fun b3 a w hf H => ?_)
  refine wl_end ?_
  refine then_n ?_
  refine sq ?_
  refine reg ?_
  refine pRun_ok (tb := tab) (n := 17) tabOk 1 _ _ hf rfl rfl fun a hf => ?_
  refine wl0 rfl (op_q hf (rq_loadB hf H TF.ls3 2 rfl rfl rfl) rfl (by decide) fun a hf => ?_)
  refine pRun_ok (tb := tab) (n := 17) tabOk 1 _ _ hf rfl rfl fun a hf => ?_
  refine wl0 rfl (op_storeB hf H 0 TF.sz3 rfl rfl rfl rfl rfl rfl (nle rfl) fun w H => ?_)
  refine wl_end ?_
  refine then_n ?_
  refine sq ?_
  refine reg ?_
  refine pRun_ok (tb := tab) (n := 17) tabOk 1 _ _ hf rfl rfl fun a hf => ?_
  refine wl0 rfl (op_q hf (rq_loadB hf H TF.ls3 2 rfl rfl rfl) rfl (by decide) fun a hf => ?_)
  refine pRun_ok (tb := tab) (n := 17) tabOk 1 _ _ hf rfl rfl fun a hf => ?_
  refine wl0 rfl (op_storeB hf H 0 TF.sz3 rfl rfl rfl rfl rfl rfl (nle rfl) fun w H => ?_)
  refine wl_end ?_
  refine then_n ?_
  refine sq ?_
  refine reg ?_
  refine pRun_ok (tb := tab) (n := 17) tabOk 1 _ _ hf rfl rfl fun a hf => ?_
  refine wl0 rfl (op_q hf (rq_loadB hf H TF.ls3 2 rfl rfl rfl) rfl (by decide) fun a hf => ?_)
  refine pRun_ok (tb := tab) (n := 17) tabOk 1 _ _ hf rfl rfl fun a hf => ?_
  refine wl0 rfl (op_storeB hf H 0 TF.sz3 rfl rfl rfl rfl rfl rfl (nle rfl) fun w H => ?_)
  refine wl_end ?_
  refine then_n ?_
  refine sq ?_
  refine reg ?_
  refine pRun_ok (tb := tab) (n := 17) tabOk 1 _ _ hf rfl rfl fun a hf => ?_
  refine wl0 rfl (op_q hf (rq_loadB hf H TF.ls3 2 rfl rfl rfl) rfl (by decide) fun a hf => ?_)
  refine pRun_ok (tb := tab) (n := 17) tabOk 1 _ _ hf rfl rfl fun a hf => ?_
  refine wl0 rfl (op_storeB hf H 0 TF.sz3 rfl rfl rfl rfl rfl rfl (nle rfl) fun w H => ?_)
  have hf := hf.prune [2, 3] rfl
  refine wl_end ?_
  refine then_n ?_
  refine sq ?_
  refine reg ?_
  refine wl0 rfl (op_q hf (rq_loadBN hf H TF.la88 0 rfl rfl rfl rfl) rfl (by decide) fun a hf => ?_)
  refine wl0 rfl (op_storeB hf H 1 TF.sz88 rfl rfl rfl rfl rfl rfl (nle rfl) fun w H => ?_)
  refine wl_end ?_
  refine then_n ?_
  refine wp_ret (?_)
  obtain rfl := Option.some.inj hF
  refine ret_1 (fn := Try.f83) (r := .cell 2 88) hf rfl (rv_cellN hf H 1 TF.la88 rfl rfl rfl) ?_
  exact ⟨_, rfl, H.bel, Amplifier_mkv⟩

/- loop.example/g00897/laws.toAmplifierS -/
set_option maxHeartbeats 1000000 in
theorem laws_toAmplifierS_ok {fu : Nat} {w0 : World} {S : Nat → Prop} {v0_ : Value} {a' : List Amplifier} {r : List Amplifier} (h0 : VR w0 S v0_ a') (hF : laws_toAmplifierS fu a' = some r) :
    Calls Try.prog 56 [v0_].toArray w0 fun e w' => ∃ v, e = .returned v ∧ (Below w0.heap.size w0 w' ∧ ∃ F0, VO w' F0 v r ∧ New w0 w' F0) := by
  obtain ⟨A, c, rfl, hl⟩ := VR_list h0
  have H := Mem.start ⟨w0, []⟩ S
  have H := H.pushArg (MP.val [(.slice A a'.length c)] a') hl
  refine enter Try.func56 rfl rfl (nle rfl) rfl fun a hf => ?_
  rw [laws_toAmplifierS] at hF
  refine sq ?_
  refine reg ?_
  refine pRun_ok (tb := tab) (n := 23) tabOk 1 _ _ hf rfl rfl fun a hf => ?_
  refine wl_end ?_
  refine then_n ?_
  refine sq ?_
  refine reg ?_
  refine pRun_ok (tb := tab) (n := 23) tabOk 2 _ _ hf rfl rfl fun a hf => ?_
  obtain ⟨l, hl, hF⟩ := bind_some hF
  refine wl0 rfl (op_make (z0 := (({ After := 0, Gain := 0, Output := 0, Noise := 0 } : Amplifier) : Amplifier)) hf H Try.underlying63 TF.ai88 rfl (by decide) rfl rfl (Amplifier_mk (x := ({ After := 0, Gain := 0, Output := 0, Noise := 0 } : Amplifier))) hl (by decide) fun A2 c2 a w hf H => ?_)
  refine pRun_ok (tb := tab) (n := 23) tabOk 1 _ _ hf rfl rfl fun a hf => ?_
  refine wl_end ?_
  refine then_n ?_
  refine sq ?_
  refine sq ?_
  refine reg ?_
  refine pRun_ok (tb := tab) (n := 23) tabOk 1 _ _ hf rfl rfl fun a hf => ?_
  refine wl_end ?_
  refine then_n ?_
  obtain ⟨out2, hB1, hF⟩ := bind_some hF
  have hf := hf.prune [0, 3, 4] rfl
  have H := H.let [] [true] [] [0]
  have hI : (fun (s : List Amplifier × Int) (a : Act) (w : World) => match s with | (out', i) => ∃ (A3 : Option Addr) (c3 : Nat), Fr a 23 [(0, (.slice A a'.length c)), (3, (.slice A3 out'.length c3)), (4, (.int .i64 i))] ∧ Mem ⟨w0, []⟩ S [] [⟨.sh true, 88, A3, c3, (out' : List Amplifier)⟩] [] [(false, MP.val [(.slice A a'.length c)] (a' : List Amplifier))] w) (l, 0) a w := ⟨A2, c2, hf, H⟩
  refine mid (fun a w => ∃ s : List Amplifier × Int, out2 = s ∧ (fun (s : List Amplifier × Int) (a : Act) (w : World) => match s with | (out', i) => ∃ (A3 : Option Addr) (c3 : Nat), Fr a 23 [(0, (.slice A a'.length c)), (3, (.slice A3 out'.length c3)), (4, (.int .i64 i))] ∧ Mem ⟨w0, []⟩ S [] [⟨.sh true, 88, A3, c3, (out' : List Amplifier)⟩] [] [(false, MP.val [(.slice A a'.length c)] (a' : List Amplifier))] w) s a w) ?_ ?_
  · refine wp_block ?_
    refine loop_rule (fun k (s : List Amplifier × Int) => laws_toAmplifierS_L1 fu a' k s.1 s.2 = some out2) (fun (s : List Amplifier × Int) (a : Act) (w : World) => match s with | (out', i) => ∃ (A3 : Option Addr) (c3 : Nat), Fr a 23 [(0, (.slice A a'.length c)), (3, (.slice A3 out'.length c3)), (4, (.int .i64 i))] ∧ Mem ⟨w0, []⟩ S [] [⟨.sh true, 88, A3, c3, (out' : List Amplifier)⟩] [] [(false, MP.val [(.slice A a'.length c)] (a' : List Amplifier))] w) (fun s h => by cases h) ?_ fu (l, 0) a w hB1 hI
    rintro fk ⟨out', i⟩ a w hR1 hI
    replace hR1 : laws_toAmplifierS_L1 fu a' (fk + 1) out' i = some out2 := hR1
    rw [laws_toAmplifierS_L1] at hR1
    obtain ⟨A3, c3, hf, H⟩ := hI
    refine sq ?_
    refine sq ?_
    refine reg ?_
    refine pRun_ok (tb := tab) (n := 23) tabOk 4 _ _ hf rfl rfl fun a hf => ?_
    refine wl_end ?_
    refine then_n ?_
    refine (Bool.eq_false_or_eq_true (decide (i < (a'.length : Int)))).elim (fun hc => ?_) (fun hc => ?_)
    · rw [if_pos hc] at hR1
      refine cd_t hf rfl hc ?_
      refine wp_skip ?_
      refine then_n ?_
      refine sq ?_
      refine wp_block ?_
      refine reg ?_
      refine pRun_ok (tb := tab) (n := 23) tabOk 4 _ _ hf rfl rfl fun a hf => ?_
      obtain ⟨e, he, hR1⟩ := bind_some hR1
      refine wl0 rfl (op_iaddr hf H Try.underlying60 TF.sz92 0 rfl rfl rfl he (by decide) fun p o cs a hf hr H => ?_)
      obtain rfl := Amplifier_cells hr
      refine wl0 rfl (op_q hf (rq_loadIN hf H TF.la92 0 0 rfl rfl rfl rfl) rfl (by decide) fun a hf => ?_)
      obtain ⟨y, hy, hR1⟩ := bind_some hR1
      refine wl0 rfl (op_call hf TF.cl83 rfl (by decide) (laws_toAmplifier_ok (S := fun _ => True) Amplifier_mkv hy) fun v w a hp hf => ?_)
      obtain ⟨hb, hp⟩ := hp
      obtain rfl := Amplifier_open hp
      have H := H.keep hb
      obtain ⟨e2, he2, hR1⟩ := bind_some hR1
      refine wl0 rfl (op_iaddrR hf H Try.underlying63 TF.sz88 0 rfl rfl rfl he2 (by decide) fun p2 o2 cs2 a hf hA hr2 hk => ?_)
      obtain rfl := Amplifier_cells hr2
      refine wl0 rfl (op_storeR (e' := y) hf H TF.sz88 0 rfl rfl rfl rfl rfl (nle rfl) rfl hA he2 (st_full (Amplifier_mk (x := y))) fun w H => ?_)
      replace hf : Fr a 23 [(0, (.slice A a'.length c)), (3, (.slice A3 out'.length c3)), (4, (.int .i64 i)), (8, (.int .i64 i)), (9, (.slice A a'.length c)), (10, (.int .i64 (a'.length : Int))), (11, (.bool (decide (i < (a'.length : Int))))), (14, (.slice A3 out'.length c3)), (15, (.int .i64 i)), (16, (.slice A a'.length c)), (17, (.int .i64 i)), (18, (.pointer (some ⟨p, o + 0, none⟩))), (19, (.agg #[(.int .i64 e.After), (.int .i64 e.Gain), (.int .i64 e.Output), (.int .i64 e.Noise)])), (20, (.agg #[(.int .i64 y.After), (.int .i64 y.Gain), (.int .i64 y.Output), (.int .i64 y.Noise)])), (21, (.pointer (some ⟨p2, o2 + 0, none⟩)))] := hf.prune [0, 3, 4, 8, 9, 10, 11, 14, 15, 16, 17, 18, 19, 20, 21] rfl
      replace hf : Fr a 23 [(0, (.slice A a'.length c)), (3, (.slice A3 (out'.set (i).toNat y).length c3)), (4, (.int .i64 i)), (8, (.int .i64 i)), (9, (.slice A a'.length c)), (10, (.int .i64 (a'.length : Int))), (11, (.bool (decide (i < (a'.length : Int))))), (14, (.slice A3 (out'.set (i).toNat y).length c3)), (15, (.int .i64 i)), (16, (.slice A a'.length c)), (17, (.int .i64 i)), (18, (.pointer (some ⟨p, o + 0, none⟩))), (19, (.agg #[(.int .i64 e.After), (.int .i64 e.Gain), (.int .i64 e.Output), (.int .i64 e.Noise)])), (20, (.agg #[(.int .i64 y.After), (.int .i64 y.Gain), (.int .i64 y.Output), (.int .i64 y.Noise)])), (21, (.pointer (some ⟨p2, o2 + 0, none⟩)))] := by simpa only [List.length_set, Nat.add_zero] using hf
      refine wl_end ?_
      refine blk_n ?_
      refine then_n ?_
      refine reg ?_
      refine pRun_ok (tb := tab) (n := 23) tabOk 3 _ _ hf rfl rfl fun a hf => ?_
      have hf := hf.prune [0, 3, 4] rfl
      refine wl_end ?_
      have hf := hf.prune [0, 3, 4] rfl
      have H := H.let [] [true] [] [1]
      exact then_n ⟨(out'.set (i).toNat y, w64 (i + 1)), hR1, A3, c3, hf, H⟩
    · rw [if_neg (nt hc)] at hR1
      refine cd_f hf rfl hc ?_
      refine wp_exit (then_x (then_x (blk_e (?_))))
      have hf := hf.prune [0, 3, 4] rfl
      have H := H.let [] [true] [] [0]
      exact ⟨(out', i), (Option.some.inj hR1).symm, A3, c3, hf, H⟩
  rintro a w ⟨⟨out3, i2⟩, rfl, A4, c4, hf, H⟩
  dsimp only at hF
  refine then_n ?_
  refine sq ?_
  refine reg ?_
  refine pRun_ok (tb := tab) (n := 23) tabOk 2 _ _ hf rfl rfl fun a hf => ?_
  refine wl_end ?_
  refine then_n ?_
  refine wp_ret (?_)
  have H := H.rowOwn 0 rfl rfl
  obtain ⟨F, H⟩ := H.freezeOwn 0 rfl
  have H := H.lend 0 rfl
  obtain rfl := Option.some.inj hF
  refine ret_1 (fn := Try.f56) (r := .tmp 2) hf rfl (rv_tmp hf rfl) ?_
  have hN : New w0 w F := by simpa using H.ends (X := [(⟨F, MP.own F [(.slice A4 out3.length c4)] (out3 : List Amplifier)⟩ : DI)])
  exact ⟨_, rfl, H.bel, F, (mko_list (H.ownAt 0 rfl)), hN⟩

/- loop.example/g00897/spec.l1In -/
set_option maxHeartbeats 1000000 in
theorem spec_l1In_ok {fu : Nat} {w0 : World} {S : Nat → Prop} {v0_ : Value} {v1_ : Value} {v2_ : Value} {x1 : Int} {a' : Int} {b' : Int} {r : Bool} (h0 : VR w0 S v0_ x1) (h1 : VR w0 S v1_ a') (h2 : VR w0 S v2_ b') (hF : spec_l1In fu x1 a' b' = some r) :
    Calls Try.prog 97 [v0_, v1_, v2_].toArray w0 fun e w' => ∃ v, e = .returned v ∧ (Below w0.heap.size w0 w' ∧ VR w' (St ⟨w0, []⟩ S [] [] [] true) v r) := by
  obtain rfl := VR_int h0
  obtain rfl := VR_int h1
  obtain rfl := VR_int h2
  have H := Mem.start ⟨w0, []⟩ S
  refine enter Try.func97 rfl rfl (nle rfl) rfl fun a hf => ?_
  rw [spec_l1In] at hF
  refine sq ?_
  refine reg ?_
  refine pRun_ok (tb := tab) (n := 15) tabOk 1 _ _ hf rfl rfl fun a hf => ?_
  refine wl_end ?_
  refine then_n ?_
  refine sq ?_
  obtain ⟨c, hGc, hF⟩ := bind_some hF
  refine mid (fun a w => Fr a 15 [(6, (.bool c))] ∧ Mem ⟨w0, []⟩ S [] [] [] [] w) ?_ ?_
  · refine reg ?_
    refine pRun_ok (tb := tab) (n := 15) tabOk 4 _ _ hf rfl rfl fun a hf => ?_
    refine (Bool.eq_false_or_eq_true (decide (x1 ≥ a'))).elim (fun hc => ?_) (fun hc => ?_)
    · rw [if_pos hc] at hGc
      have hf := hf.lit 10 rfl hc
      refine pRun_ok (tb := tab) (n := 15) tabOk 5 _ _ hf rfl rfl fun a hf => ?_
      obtain rfl := Option.some.inj hGc
      have hf := hf.prune [6] rfl
      have H := H.let [] [] [] []
      exact wl_end ⟨hf, H⟩
    · rw [if_neg (nt hc)] at hGc
      have hf := hf.lit 10 rfl hc
      refine pRun_ok (tb := tab) (n := 15) tabOk 5 _ _ hf rfl rfl fun a hf => ?_
      obtain rfl := Option.some.inj hGc
      have hf := hf.prune [6] rfl
      have H := H.let [] [] [] []
      exact wl_end ⟨hf, H⟩
  rintro a w ⟨hf, H⟩
  refine then_n ?_
  refine wp_ret (?_)
  obtain rfl := Option.some.inj hF
  refine ret_1 (fn := Try.f97) (r := .tmp 6) hf rfl (rv_tmp hf rfl) ?_
  exact ⟨_, rfl, H.bel, mk_bool⟩

/- loop.example/g00897/spec.l22Span -/
set_option maxHeartbeats 1000000 in
theorem spec_l22Span_ok {fu : Nat} {w0 : World} {S : Nat → Prop} {v0_ : Value} {s' : Span} {r : Bool} (h0 : VR w0 S v0_ s') (hF : spec_l22Span fu s' = some r) :
    Calls Try.prog 99 [v0_].toArray w0 fun e w' => ∃ v, e = .returned v ∧ (Below w0.heap.size w0 w' ∧ VR w' (St ⟨w0, []⟩ S [] [] [] true) v r) := by
  obtain rfl := Span_open h0
  have H := Mem.start ⟨w0, []⟩ S
  refine enter Try.func99 rfl rfl (nle rfl) rfl fun a hf => ?_
  rw [spec_l22Span] at hF
  refine sq ?_
  refine reg ?_
  refine wl0 rfl (op_box hf H rfl rfl (by decide) fun b' a w hf H => ?_)
  refine pRun_ok (tb := tab) (n := 16) tabOk 1 _ _ hf rfl rfl fun a hf => ?_
  refine wl_end ?_
  refine then_n ?_
  refine sq ?_
  obtain ⟨c, hGc, hF⟩ := bind_some hF
  refine mid (fun a w => Fr a 16 [(2, (.bool c))] ∧ Mem ⟨w0, []⟩ S [] [] [] [] w) ?_ ?_
  · refine reg ?_
    refine pRun_ok (tb := tab) (n := 16) tabOk 1 _ _ hf rfl rfl fun a hf => ?_
    refine wl0 rfl (op_q hf (rq_loadB hf H TF.ls3 0 rfl rfl rfl) rfl (by decide) fun a hf => ?_)
    obtain ⟨y, hy, hGc⟩ := bind_some hGc
    refine wl0 rfl (op_call hf TF.cl97 rfl (by decide) (spec_l1In_ok (S := fun _ => True) mk_int mk_int mk_int hy) fun v w a hp hf => ?_)
    obtain ⟨hb, hp⟩ := hp
    obtain rfl := VR_bool hp
    have H := H.keep hb
    refine pRun_ok (tb := tab) (n := 16) tabOk 1 _ _ hf rfl rfl fun a hf => ?_
    refine (Bool.eq_false_or_eq_true (y)).elim (fun hc => ?_) (fun hc => ?_)
    · rw [if_pos hc] at hGc
      have hf := hf.lit 6 rfl hc
      refine pRun_ok (tb := tab) (n := 16) tabOk 1 _ _ hf rfl rfl fun a hf => ?_
      refine wlg hf rfl rfl rfl (op_q hf (rq_loadB hf H TF.ls3 0 rfl rfl rfl) rfl (by decide) fun a hf => ?_)
      obtain ⟨y2, hy2, hGc⟩ := bind_some hGc
      refine wlg hf rfl rfl rfl (op_call hf TF.cl97 rfl (by decide) (spec_l1In_ok (S := fun _ => True) mk_int mk_int mk_int hy2) fun v2 w a hp2 hf => ?_)
      obtain ⟨hb2, hp2⟩ := hp2
      obtain rfl := VR_bool hp2
      have H := H.keep hb2
      refine pRun_ok (tb := tab) (n := 16) tabOk 2 _ _ hf rfl rfl fun a hf => ?_
      refine (Bool.eq_false_or_eq_true (y2)).elim (fun hc2 => ?_) (fun hc2 => ?_)
      · rw [if_pos hc2] at hGc
        have hf := hf.lit 11 rfl hc2
        refine pRun_ok (tb := tab) (n := 16) tabOk 1 _ _ hf rfl rfl fun a hf => ?_
        refine wlg hf rfl rfl rfl (op_q hf (rq_loadB hf H TF.ls3 0 rfl rfl rfl) rfl (by decide) fun a hf => ?_)
        obtain ⟨y3, hy3, hGc⟩ := bind_some hGc
        refine wlg hf rfl rfl rfl (op_call hf TF.cl97 rfl (by decide) (spec_l1In_ok (S := fun _ => True) mk_int mk_int mk_int hy3) fun v3 w a hp3 hf => ?_)
        obtain ⟨hb3, hp3⟩ := hp3
        obtain rfl := VR_bool hp3
        have H := H.keep hb3
        refine pRun_ok (tb := tab) (n := 16) tabOk 2 _ _ hf rfl rfl fun a hf => ?_
        obtain rfl := Option.some.inj hGc
        have hf := hf.prune [2] rfl
        have H := H.let [false] [] [] []
        exact wl_end ⟨hf, H⟩
      · rw [if_neg (nt hc2)] at hGc
        have hf := hf.lit 11 rfl hc2
        refine pRun_ok (tb := tab) (n := 16) tabOk 5 _ _ hf rfl rfl fun a hf => ?_
        obtain rfl := Option.some.inj hGc
        have hf := hf.prune [2] rfl
        have H := H.let [false] [] [] []
        exact wl_end ⟨hf, H⟩
    · rw [if_neg (nt hc)] at hGc
      have hf := hf.lit 6 rfl hc
      refine pRun_ok (tb := tab) (n := 16) tabOk 10 _ _ hf rfl rfl fun a hf => ?_
      obtain rfl := Option.some.inj hGc
      have hf := hf.prune [2] rfl
      have H := H.let [false] [] [] []
      exact wl_end ⟨hf, H⟩
  rintro a w ⟨hf, H⟩
  refine then_n ?_
  refine wp_ret (?_)
  obtain rfl := Option.some.inj hF
  refine ret_1 (fn := Try.f99) (r := .tmp 2) hf rfl (rv_tmp hf rfl) ?_
  exact ⟨_, rfl, H.bel, mk_bool⟩

/- loop.example/g00897/spec.l22Line -/
set_option maxHeartbeats 1000000 in
theorem spec_l22Line_ok {fu : Nat} {w0 : World} {S : Nat → Prop} {v0_ : Value} {line : List Span} {r : Bool} (h0 : VR w0 S v0_ line) (hF : spec_l22Line fu line = some r) :
    Calls Try.prog 138 [v0_].toArray w0 fun e w' => ∃ v, e = .returned v ∧ (Below w0.heap.size w0 w' ∧ VR w' (St ⟨w0, []⟩ S [] [] [] true) v r) := by
  obtain ⟨A, c, rfl, hl⟩ := VR_list h0
  have H := Mem.start ⟨w0, []⟩ S
  have H := H.pushArg (MP.val [(.slice A line.length c)] line) hl
  refine enter Try.func138 rfl rfl (nle rfl) rfl fun a hf => ?_
  rw [spec_l22Line] at hF
  refine sq ?_
  refine reg ?_
  refine pRun_ok (tb := tab) (n := 23) tabOk 1 _ _ hf rfl rfl fun a hf => ?_
  refine wl_end ?_
  refine then_n ?_
  refine sq ?_
  refine sq ?_
  refine reg ?_
  refine pRun_ok (tb := tab) (n := 23) tabOk 1 _ _ hf rfl rfl fun a hf => ?_
  refine wl_end ?_
  refine then_n ?_
  obtain ⟨out', hB1, hF⟩ := bind_some hF
  have hf := hf.prune [0, 3] rfl
  have H := H.let [] [] [] [0]
  have hI : (fun (s : Int) (a : Act) (w : World) => match s with | i => Fr a 23 [(0, (.slice A line.length c)), (3, (.int .i64 i))] ∧ Mem ⟨w0, []⟩ S [] [] [] [(false, MP.val [(.slice A line.length c)] (line : List Span))] w) 0 a w0 := ⟨hf, H⟩
  refine mid (fun a w => ∃ s : Int, out' = Out.next s ∧ (fun (s : Int) (a : Act) (w : World) => match s with | i => Fr a 23 [(0, (.slice A line.length c)), (3, (.int .i64 i))] ∧ Mem ⟨w0, []⟩ S [] [] [] [(false, MP.val [(.slice A line.length c)] (line : List Span))] w) s a w) ?_ ?_
  · refine wp_block ?_
    refine loop_rule (fun k (s : Int) => spec_l22Line_L1 fu line k s = some out') (fun (s : Int) (a : Act) (w : World) => match s with | i => Fr a 23 [(0, (.slice A line.length c)), (3, (.int .i64 i))] ∧ Mem ⟨w0, []⟩ S [] [] [] [(false, MP.val [(.slice A line.length c)] (line : List Span))] w) (fun s h => by cases h) ?_ fu 0 a w0 hB1 hI
    rintro fk i a w hR1 hI
    replace hR1 : spec_l22Line_L1 fu line (fk + 1) i = some out' := hR1
    rw [spec_l22Line_L1] at hR1
    obtain ⟨hf, H⟩ := hI
    refine sq ?_
    refine sq ?_
    obtain ⟨c2, hGc2, hR1⟩ := bind_some hR1
    refine mid (fun a w => Fr a 23 [(0, (.slice A line.length c)), (3, (.int .i64 i)), (11, (.bool c2))] ∧ Mem ⟨w0, []⟩ S [] [] [] [(false, MP.val [(.slice A line.length c)] (line : List Span))] w) ?_ ?_
    · refine reg ?_
      refine pRun_ok (tb := tab) (n := 23) tabOk 5 _ _ hf rfl rfl fun a hf => ?_
      refine (Bool.eq_false_or_eq_true (decide (i < (line.length : Int)))).elim (fun hc => ?_) (fun hc => ?_)
      · rw [if_pos hc] at hGc2
        have hf := hf.lit 8 rfl hc
        refine pRun_ok (tb := tab) (n := 23) tabOk 3 _ _ hf rfl rfl fun a hf => ?_
        obtain rfl := Option.some.inj hGc2
        have hf := hf.prune [0, 3, 11] rfl
        have H := H.let [] [] [] [0]
        exact wl_end ⟨hf, H⟩
      · rw [if_neg (nt hc)] at hGc2
        have hf := hf.lit 8 rfl hc
        refine pRun_ok (tb := tab) (n := 23) tabOk 3 _ _ hf rfl rfl fun a hf => ?_
        obtain rfl := Option.some.inj hGc2
        have hf := hf.prune [0, 3, 11] rfl
        have H := H.let [] [] [] [0]
        exact wl_end ⟨hf, H⟩
    rintro a w ⟨hf, H⟩
    refine then_n ?_
    refine (Bool.eq_false_or_eq_true (c2)).elim (fun hc2 => ?_) (fun hc2 => ?_)
    · rw [if_pos hc2] at hR1
      refine cd_t hf rfl hc2 ?_
      refine wp_skip ?_
      refine then_n ?_
      refine sq ?_
      refine wp_block ?_
      refine sq ?_
      refine reg ?_
      refine pRun_ok (tb := tab) (n := 23) tabOk 2 _ _ hf rfl rfl fun a hf => ?_
      obtain ⟨e, he, hR1⟩ := bind_some hR1
      refine wl0 rfl (op_iaddr hf H Try.underlying96 TF.sz28 0 rfl rfl rfl he (by decide) fun p o cs a hf hr H => ?_)
      obtain rfl := Span_cells hr
      refine wl0 rfl (op_q hf (rq_loadIN hf H TF.la28 0 0 rfl rfl rfl rfl) rfl (by decide) fun a hf => ?_)
      obtain ⟨y, hy, hR1⟩ := bind_some hR1
      refine wl0 rfl (op_call hf TF.cl99 rfl (by decide) (spec_l22Span_ok (S := fun _ => True) Span_mkv hy) fun v w a hp hf => ?_)
      obtain ⟨hb, hp⟩ := hp
      obtain rfl := VR_bool hp
      have H := H.keep hb
      refine pRun_ok (tb := tab) (n := 23) tabOk 1 _ _ hf rfl rfl fun a hf => ?_
      refine wl_end ?_
      refine then_n ?_
      refine (Bool.eq_false_or_eq_true (!y)).elim (fun hc3 => ?_) (fun hc3 => ?_)
      · rw [if_pos hc3] at hR1
        refine cd_t hf rfl hc3 ?_
        refine sq ?_
        refine reg ?_
        refine pRun_ok (tb := tab) (n := 23) tabOk 1 _ _ hf rfl rfl fun a hf => ?_
        refine wl_end ?_
        refine then_n ?_
        refine wp_ret (blk_r (then_r (then_r (blk_r (then_r (then_r (?_)))))))
        obtain rfl := Option.some.inj hR1
        replace hF := on_ret hF
        obtain rfl := Option.some.inj hF
        refine ret_1 (fn := Try.f138) (r := .tmp 2) hf rfl (rv_tmp hf rfl) ?_
        exact ⟨_, rfl, H.bel, mk_bool⟩
      · rw [if_neg (nt hc3)] at hR1
        refine cd_f hf rfl hc3 ?_
        refine wp_skip ?_
        refine blk_n ?_
        refine then_n ?_
        refine reg ?_
        refine pRun_ok (tb := tab) (n := 23) tabOk 3 _ _ hf rfl rfl fun a hf => ?_
        refine wl_end ?_
        have hf := hf.prune [0, 3] rfl
        have H := H.let [] [] [] [1]
        exact then_n ⟨w64 (i + 1), hR1, hf, H⟩
    · rw [if_neg (nt hc2)] at hR1
      refine cd_f hf rfl hc2 ?_
      refine wp_exit (then_x (then_x (blk_e (?_))))
      have hf := hf.prune [0, 3] rfl
      have H := H.let [] [] [] [0]
      exact ⟨i, (Option.some.inj hR1).symm, hf, H⟩
  rintro a w ⟨i2, rfl, hf, H⟩
  replace hF := on_next hF
  refine then_n ?_
  refine sq ?_
  refine reg ?_
  refine pRun_ok (tb := tab) (n := 23) tabOk 2 _ _ hf rfl rfl fun a hf => ?_
  obtain ⟨y2, hy2, hF⟩ := bind_some hF
  refine wl0 rfl (op_call hf TF.cl97 rfl (by decide) (spec_l1In_ok (S := fun _ => True) mk_int mk_int mk_int hy2) fun v2 w a hp2 hf => ?_)
  obtain ⟨hb2, hp2⟩ := hp2
  obtain rfl := VR_bool hp2
  have H := H.keep hb2
  refine pRun_ok (tb := tab) (n := 23) tabOk 1 _ _ hf rfl rfl fun a hf => ?_
  refine wl_end ?_
  refine then_n ?_
  refine wp_ret (?_)
  obtain rfl := Option.some.inj hF
  refine ret_1 (fn := Try.f138) (r := .tmp 2) hf rfl (rv_tmp hf rfl) ?_
  exact ⟨_, rfl, H.bel, mk_bool⟩

/- loop.example/g00897/spec.l22Level -/
set_option maxHeartbeats 1000000 in
theorem spec_l22Level_ok {fu : Nat} {w0 : World} {S : Nat → Prop} {v0_ : Value} {x1 : Int} {r : Bool} (h0 : VR w0 S v0_ x1) (hF : spec_l22Level fu x1 = some r) :
    Calls Try.prog 106 [v0_].toArray w0 fun e w' => ∃ v, e = .returned v ∧ (Below w0.heap.size w0 w' ∧ VR w' (St ⟨w0, []⟩ S [] [] [] true) v r) := by
  obtain rfl := VR_int h0
  have H := Mem.start ⟨w0, []⟩ S
  refine enter Try.func106 rfl rfl (nle rfl) rfl fun a hf => ?_
  rw [spec_l22Level] at hF
  refine sq ?_
  refine reg ?_
  refine pRun_ok (tb := tab) (n := 5) tabOk 1 _ _ hf rfl rfl fun a hf => ?_
  refine wl_end ?_
  refine then_n ?_
  refine sq ?_
  refine reg ?_
  refine pRun_ok (tb := tab) (n := 5) tabOk 1 _ _ hf rfl rfl fun a hf => ?_
  obtain ⟨y, hy, hF⟩ := bind_some hF
  refine wl0 rfl (op_call hf TF.cl97 rfl (by decide) (spec_l1In_ok (S := fun _ => True) mk_int mk_int mk_int hy) fun v w a hp hf => ?_)
  obtain ⟨hb, hp⟩ := hp
  obtain rfl := VR_bool hp
  have H := H.keep hb
  refine pRun_ok (tb := tab) (n := 5) tabOk 1 _ _ hf rfl rfl fun a hf => ?_
  refine wl_end ?_
  refine then_n ?_
  refine wp_ret (?_)
  obtain rfl := Option.some.inj hF
  refine ret_1 (fn := Try.f106) (r := .tmp 2) hf rfl (rv_tmp hf rfl) ?_
  exact ⟨_, rfl, H.bel, mk_bool⟩

/- loop.example/g00897/spec.l22Kind -/
set_option maxHeartbeats 1000000 in
theorem spec_l22Kind_ok {fu : Nat} {w0 : World} {S : Nat → Prop} {v0_ : Value} {a' : Amplifier} {r : Bool} (h0 : VR w0 S v0_ a') (hF : spec_l22Kind fu a' = some r) :
    Calls Try.prog 139 [v0_].toArray w0 fun e w' => ∃ v, e = .returned v ∧ (Below w0.heap.size w0 w' ∧ VR w' (St ⟨w0, []⟩ S [] [] [] true) v r) := by
  obtain rfl := Amplifier_open h0
  have H := Mem.start ⟨w0, []⟩ S
  refine enter Try.func139 rfl rfl (nle rfl) rfl fun a hf => ?_
  rw [spec_l22Kind] at hF
  refine sq ?_
  refine reg ?_
  refine wl0 rfl (op_box hf H rfl rfl (by decide) fun b' a w hf H => ?_)
  refine pRun_ok (tb := tab) (n := 16) tabOk 1 _ _ hf rfl rfl fun a hf => ?_
  refine wl_end ?_
  refine then_n ?_
  refine sq ?_
  obtain ⟨c, hGc, hF⟩ := bind_some hF
  refine mid (fun a w => Fr a 16 [(2, (.bool c))] ∧ Mem ⟨w0, []⟩ S [] [] [] [] w) ?_ ?_
  · refine reg ?_
    refine pRun_ok (tb := tab) (n := 16) tabOk 1 _ _ hf rfl rfl fun a hf => ?_
    refine wl0 rfl (op_q hf (rq_loadB hf H TF.ls3 0 rfl rfl rfl) rfl (by decide) fun a hf => ?_)
    obtain ⟨y, hy, hGc⟩ := bind_some hGc
    refine wl0 rfl (op_call hf TF.cl97 rfl (by decide) (spec_l1In_ok (S := fun _ => True) mk_int mk_int mk_int hy) fun v w a hp hf => ?_)
    obtain ⟨hb, hp⟩ := hp
    obtain rfl := VR_bool hp
    have H := H.keep hb
    refine pRun_ok (tb := tab) (n := 16) tabOk 1 _ _ hf rfl rfl fun a hf => ?_
    refine (Bool.eq_false_or_eq_true (y)).elim (fun hc => ?_) (fun hc => ?_)
    · rw [if_pos hc] at hGc
      have hf := hf.lit 6 rfl hc
      refine pRun_ok (tb := tab) (n := 16) tabOk 1 _ _ hf rfl rfl fun a hf => ?_
      refine wlg hf rfl rfl rfl (op_q hf (rq_loadB hf H TF.ls3 0 rfl rfl rfl) rfl (by decide) fun a hf => ?_)
      obtain ⟨y2, hy2, hGc⟩ := bind_some hGc
      refine wlg hf rfl rfl rfl (op_call hf TF.cl106 rfl (by decide) (spec_l22Level_ok (S := fun _ => True) mk_int hy2) fun v2 w a hp2 hf => ?_)
      obtain ⟨hb2, hp2⟩ := hp2
      obtain rfl := VR_bool hp2
      have H := H.keep hb2
      refine pRun_ok (tb := tab) (n := 16) tabOk 2 _ _ hf rfl rfl fun a hf => ?_
      refine (Bool.eq_false_or_eq_true (y2)).elim (fun hc2 => ?_) (fun hc2 => ?_)
      · rw [if_pos hc2] at hGc
        have hf := hf.lit 11 rfl hc2
        refine pRun_ok (tb := tab) (n := 16) tabOk 1 _ _ hf rfl rfl fun a hf => ?_
        refine wlg hf rfl rfl rfl (op_q hf (rq_loadB hf H TF.ls3 0 rfl rfl rfl) rfl (by decide) fun a hf => ?_)
        obtain ⟨y3, hy3, hGc⟩ := bind_some hGc
        refine wlg hf rfl rfl rfl (op_call hf TF.cl97 rfl (by decide) (spec_l1In_ok (S := fun _ => True) mk_int mk_int mk_int hy3) fun v3 w a hp3 hf => ?_)
        obtain ⟨hb3, hp3⟩ := hp3
        obtain rfl := VR_bool hp3
        have H := H.keep hb3
        refine pRun_ok (tb := tab) (n := 16) tabOk 2 _ _ hf rfl rfl fun a hf => ?_
        obtain rfl := Option.some.inj hGc
        have hf := hf.prune [2] rfl
        have H := H.let [false] [] [] []
        exact wl_end ⟨hf, H⟩
      · rw [if_neg (nt hc2)] at hGc
        have hf := hf.lit 11 rfl hc2
        refine pRun_ok (tb := tab) (n := 16) tabOk 5 _ _ hf rfl rfl fun a hf => ?_
        obtain rfl := Option.some.inj hGc
        have hf := hf.prune [2] rfl
        have H := H.let [false] [] [] []
        exact wl_end ⟨hf, H⟩
    · rw [if_neg (nt hc)] at hGc
      have hf := hf.lit 6 rfl hc
      refine pRun_ok (tb := tab) (n := 16) tabOk 10 _ _ hf rfl rfl fun a hf => ?_
      obtain rfl := Option.some.inj hGc
      have hf := hf.prune [2] rfl
      have H := H.let [false] [] [] []
      exact wl_end ⟨hf, H⟩
  rintro a w ⟨hf, H⟩
  refine then_n ?_
  refine wp_ret (?_)
  obtain rfl := Option.some.inj hF
  refine ret_1 (fn := Try.f139) (r := .tmp 2) hf rfl (rv_tmp hf rfl) ?_
  exact ⟨_, rfl, H.bel, mk_bool⟩

/- loop.example/g00897/spec.l22List -/
set_option maxHeartbeats 1000000 in
theorem spec_l22List_ok {fu : Nat} {w0 : World} {S : Nat → Prop} {v0_ : Value} {v1_ : Value} {list : List Amplifier} {spans : Int} {r : Bool} (h0 : VR w0 S v0_ list) (h1 : VR w0 S v1_ spans) (hF : spec_l22List fu list spans = some r) :
    Calls Try.prog 120 [v0_, v1_].toArray w0 fun e w' => ∃ v, e = .returned v ∧ (Below w0.heap.size w0 w' ∧ VR w' (St ⟨w0, []⟩ S [] [] [] true) v r) := by
  obtain ⟨A, c, rfl, hl⟩ := VR_list h0
  obtain rfl := VR_int h1
  have H := Mem.start ⟨w0, []⟩ S
  have H := H.pushArg (MP.val [(.slice A list.length c)] list) hl
  refine enter Try.func120 rfl rfl (nle rfl) rfl fun a hf => ?_
  rw [spec_l22List] at hF
  refine sq ?_
  refine reg ?_
  refine pRun_ok (tb := tab) (n := 47) tabOk 1 _ _ hf rfl rfl fun a hf => ?_
  refine wl_end ?_
  refine then_n ?_
  refine sq ?_
  refine sq ?_
  refine reg ?_
  refine pRun_ok (tb := tab) (n := 47) tabOk 1 _ _ hf rfl rfl fun a hf => ?_
  refine wl_end ?_
  refine then_n ?_
  obtain ⟨out', hB1, hF⟩ := bind_some hF
  have hf := hf.prune [0, 1, 5] rfl
  have H := H.let [] [] [] [0]
  have hI : (fun (s : Int) (a : Act) (w : World) => match s with | i => Fr a 47 [(0, (.slice A list.length c)), (1, (.int .i64 spans)), (5, (.int .i64 i))] ∧ Mem ⟨w0, []⟩ S [] [] [] [(false, MP.val [(.slice A list.length c)] (list : List Amplifier))] w) 0 a w0 := ⟨hf, H⟩
  refine mid (fun a w => ∃ s : Int, out' = Out.next s ∧ (fun (s : Int) (a : Act) (w : World) => match s with | i => Fr a 47 [(0, (.slice A list.length c)), (1, (.int .i64 spans)), (5, (.int .i64 i))] ∧ Mem ⟨w0, []⟩ S [] [] [] [(false, MP.val [(.slice A list.length c)] (list : List Amplifier))] w) s a w) ?_ ?_
  · refine wp_block ?_
    refine loop_rule (fun k (s : Int) => spec_l22List_L1 fu list spans k s = some out') (fun (s : Int) (a : Act) (w : World) => match s with | i => Fr a 47 [(0, (.slice A list.length c)), (1, (.int .i64 spans)), (5, (.int .i64 i))] ∧ Mem ⟨w0, []⟩ S [] [] [] [(false, MP.val [(.slice A list.length c)] (list : List Amplifier))] w) (fun s h => by cases h) ?_ fu 0 a w0 hB1 hI
    rintro fk i a w hR1 hI
    replace hR1 : spec_l22List_L1 fu list spans (fk + 1) i = some out' := hR1
    rw [spec_l22List_L1] at hR1
    obtain ⟨hf, H⟩ := hI
    refine sq ?_
    refine sq ?_
    refine reg ?_
    refine pRun_ok (tb := tab) (n := 47) tabOk 4 _ _ hf rfl rfl fun a hf => ?_
    refine wl_end ?_
    refine then_n ?_
    refine (Bool.eq_false_or_eq_true (decide (i < (list.length : Int)))).elim (fun hc => ?_) (fun hc => ?_)
    · rw [if_pos hc] at hR1
      refine cd_t hf rfl hc ?_
      refine wp_skip ?_
      refine then_n ?_
      refine sq ?_
      refine wp_block ?_
      refine sq ?_
      refine drawn [] (bs := [false, false, false, false, false, false, false, false, false, false, false, false, false, false, false, false, false, false, false, false, false, false, false, false, false, false, false, false, false, false, false, false, false, false, false]) (fuel := 35) (Checked.mixed Try.checked) rfl rfl fun w hb => ?_
      have H := H.keep hb
      refine tkP (i := 0) (bs' := [true, false, false, false, false, false, false, false, false, false, false, false, false, false, false, false, false, false, false, false, false, false, false, false, false, false, false, false, false, false, false, false, false, false, false]) rfl rfl rfl (by decide) hf (by kernel_rfl) (fun _ => trivial) (fun w => pOp_ok (tb := tab) tabOk hf rfl) rfl fun a hf => ?_
      refine tkP (i := 1) (bs' := [true, true, false, false, false, false, false, false, false, false, false, false, false, false, false, false, false, false, false, false, false, false, false, false, false, false, false, false, false, false, false, false, false, false, false]) rfl rfl rfl (by decide) hf (by kernel_rfl) (fun _ => trivial) (fun w => pOp_ok (tb := tab) tabOk hf rfl) rfl fun a hf => ?_
      obtain ⟨e, he, hR1⟩ := bind_some hR1
      obtain ⟨p, o, cs, hx, hr, H⟩ := pre_iaddr H Try.underlying63 TF.sz88 0 rfl he
      refine tkP (i := 2) (bs' := [true, true, true, false, false, false, false, false, false, false, false, false, false, false, false, false, false, false, false, false, false, false, false, false, false, false, false, false, false, false, false, false, false, false, false]) rfl rfl rfl (by decide) hf (by kernel_rfl) (fun _ => trivial) (fun w => rq_iaddrE hf rfl rfl rfl hx w) rfl fun a hf => ?_
      obtain rfl := Amplifier_cells hr
      refine str (fun w => Mem ⟨w0, []⟩ S [] [] [] [(false, MP.cells ⟨p, o, none⟩ [(.int .i64 e.After), (.int .i64 e.Gain), (.int .i64 e.Output), (.int .i64 e.Noise)]), (false, MP.val [(.slice A list.length c)] (list : List Amplifier))] w) (fun w H => trivial) ?_
      have hS : Mem ⟨w0, []⟩ S [] [] [] [(false, MP.cells ⟨p, o, none⟩ [(.int .i64 e.After), (.int .i64 e.Gain), (.int .i64 e.Output), (.int .i64 e.Noise)]), (false, MP.val [(.slice A list.length c)] (list : List Amplifier))] w := H.let [] [] [] [0, 1]
      refine tkS (i := 3) (bs' := [true, true, true, true, false, false, false, false, false, false, false, false, false, false, false, false, false, false, false, false, false, false, false, false, false, false, false, false, false, false, false, false, false, false, false]) [] rfl rfl rfl (by decide) hf (by kernel_rfl) (by kernel_rfl) hS (fun w H => rq_loadIN hf H TF.la88 0 0 rfl rfl rfl rfl) rfl fun a hf => ?_
      obtain ⟨y, hy, hR1⟩ := bind_some hR1
      refine on1 (i := 4) (bs' := [true, true, true, true, true, false, false, false, false, false, false, false, false, false, false, false, false, false, false, false, false, false, false, false, false, false, false, false, false, false, false, false, false, false, false]) (by kernel_rfl) rfl rfl rfl (op_call hf TF.cl139 rfl (by decide) (spec_l22Kind_ok (S := fun _ => True) Amplifier_mkv hy) fun v w a hp hf => ?_)
      obtain ⟨hb, hp⟩ := hp
      obtain rfl := VR_bool hp
      have H := H.keep hb
      have hS : Mem ⟨w0, []⟩ S [] [] [] [(false, MP.cells ⟨p, o, none⟩ [(.int .i64 e.After), (.int .i64 e.Gain), (.int .i64 e.Output), (.int .i64 e.Noise)]), (false, MP.val [(.slice A list.length c)] (list : List Amplifier))] w := H.let [] [] [] [0, 1]
      refine ⟨fun _ => hS, ?_⟩
      refine tkP (i := 5) (bs' := [true, true, true, true, true, true, false, false, false, false, false, false, false, false, false, false, false, false, false, false, false, false, false, false, false, false, false, false, false, false, false, false, false, false, false]) rfl rfl rfl (by decide) hf (by kernel_rfl) (fun _ => hS) (fun w => pOp_ok (tb := tab) tabOk hf rfl) rfl fun a hf => ?_
      refine tkP (i := 6) (bs' := [true, true, true, true, true, true, true, false, false, false, false, false, false, false, false, false, false, false, false, false, false, false, false, false, false, false, false, false, false, false, false, false, false, false, false]) rfl rfl rfl (by decide) hf (by kernel_rfl) (fun _ => hS) (fun w => pOp_ok (tb := tab) tabOk hf rfl) rfl fun a hf => ?_
      refine (Bool.eq_false_or_eq_true (!y)).elim (fun hc2 => ?_) (fun hc2 => ?_)
      · rw [if_pos hc2] at hR1
        have hf := hf.lit 18 rfl hc2
        refine tkU (i := 7) (bs' := [true, true, true, true, true, true, true, true, false, false, false, false, false, false, false, false, false, false, false, false, false, false, false, false, false, false, false, false, false, false, false, false, false, false, false]) rfl rfl rfl rfl rfl rfl (by decide) hf (by kernel_rfl) (fun _ => hS) rfl fun a hf => ?_
        refine tkU (i := 8) (bs' := [true, true, true, true, true, true, true, true, true, false, false, false, false, false, false, false, false, false, false, false, false, false, false, false, false, false, false, false, false, false, false, false, false, false, false]) rfl rfl rfl rfl rfl rfl (by decide) hf (by kernel_rfl) (fun _ => hS) rfl fun a hf => ?_
        refine tkU (i := 9) (bs' := [true, true, true, true, true, true, true, true, true, true, false, false, false, false, false, false, false, false, false, false, false, false, false, false, false, false, false, false, false, false, false, false, false, false, false]) rfl rfl rfl rfl rfl rfl (by decide) hf (by kernel_rfl) (fun _ => hS) rfl fun a hf => ?_
        refine tkU (i := 10) (bs' := [true, true, true, true, true, true, true, true, true, true, true, false, false, false, false, false, false, false, false, false, false, false, false, false, false, false, false, false, false, false, false, false, false, false, false]) rfl rfl rfl rfl rfl rfl (by decide) hf (by kernel_rfl) (fun _ => hS) rfl fun a hf => ?_
        refine tkU (i := 11) (bs' := [true, true, true, true, true, true, true, true, true, true, true, true, false, false, false, false, false, false, false, false, false, false, false, false, false, false, false, false, false, false, false, false, false, false, false]) rfl rfl rfl rfl rfl rfl (by decide) hf (by kernel_rfl) (fun _ => hS) rfl fun a hf => ?_
        refine tkU (i := 12) (bs' := [true, true, true, true, true, true, true, true, true, true, true, true, true, false, false, false, false, false, false, false, false, false, false, false, false, false, false, false, false, false, false, false, false, false, false]) rfl rfl rfl rfl rfl rfl (by decide) hf (by kernel_rfl) (fun _ => hS) rfl fun a hf => ?_
        refine tkU (i := 13) (bs' := [true, true, true, true, true, true, true, true, true, true, true, true, true, true, false, false, false, false, false, false, false, false, false, false, false, false, false, false, false, false, false, false, false, false, false]) rfl rfl rfl rfl rfl rfl (by decide) hf (by kernel_rfl) (fun _ => hS) rfl fun a hf => ?_
        refine tkU (i := 14) (bs' := [true, true, true, true, true, true, true, true, true, true, true, true, true, true, true, false, false, false, false, false, false, false, false, false, false, false, false, false, false, false, false, false, false, false, false]) rfl rfl rfl rfl rfl rfl (by decide) hf (by kernel_rfl) (fun _ => hS) rfl fun a hf => ?_
        refine tkU (i := 15) (bs' := [true, true, true, true, true, true, true, true, true, true, true, true, true, true, true, true, false, false, false, false, false, false, false, false, false, false, false, false, false, false, false, false, false, false, false]) rfl rfl rfl rfl rfl rfl (by decide) hf (by kernel_rfl) (fun _ => hS) rfl fun a hf => ?_
        refine tkP (i := 16) (bs' := [true, true, true, true, true, true, true, true, true, true, true, true, true, true, true, true, true, false, false, false, false, false, false, false, false, false, false, false, false, false, false, false, false, false, false]) rfl rfl rfl (by decide) hf (by kernel_rfl) (fun _ => hS) (fun w => pOp_ok (tb := tab) tabOk hf rfl) rfl fun a hf => ?_
        refine tkP (i := 17) (bs' := [true, true, true, true, true, true, true, true, true, true, true, true, true, true, true, true, true, true, false, false, false, false, false, false, false, false, false, false, false, false, false, false, false, false, false]) rfl rfl rfl (by decide) hf (by kernel_rfl) (fun _ => hS) (fun w => pOp_ok (tb := tab) tabOk hf rfl) rfl fun a hf => ?_
        refine tkU (i := 18) (bs' := [true, true, true, true, true, true, true, true, true, true, true, true, true, true, true, true, true, true, true, false, false, false, false, false, false, false, false, false, false, false, false, false, false, false, false]) rfl rfl rfl rfl rfl rfl (by decide) hf (by kernel_rfl) (fun _ => hS) rfl fun a hf => ?_
        refine tkU (i := 19) (bs' := [true, true, true, true, true, true, true, true, true, true, true, true, true, true, true, true, true, true, true, true, false, false, false, false, false, false, false, false, false, false, false, false, false, false, false]) rfl rfl rfl rfl rfl rfl (by decide) hf (by kernel_rfl) (fun _ => hS) rfl fun a hf => ?_
        refine tkU (i := 20) (bs' := [true, true, true, true, true, true, true, true, true, true, true, true, true, true, true, true, true, true, true, true, true, false, false, false, false, false, false, false, false, false, false, false, false, false, false]) rfl rfl rfl rfl rfl rfl (by decide) hf (by kernel_rfl) (fun _ => hS) rfl fun a hf => ?_
        refine tkUU (i := 21) (bs' := [true, true, true, true, true, true, true, true, true, true, true, true, true, true, true, true, true, true, true, true, true, true, false, false, false, false, false, false, false, false, false, false, false, false, false]) rfl rfl rfl rfl rfl (by decide) hf (by kernel_rfl) (fun _ => hS) rfl fun a hf => ?_
        refine tkUU (i := 22) (bs' := [true, true, true, true, true, true, true, true, true, true, true, true, true, true, true, true, true, true, true, true, true, true, true, false, false, false, false, false, false, false, false, false, false, false, false]) rfl rfl rfl rfl rfl (by decide) hf (by kernel_rfl) (fun _ => hS) rfl fun a hf => ?_
        refine tkUU (i := 23) (bs' := [true, true, true, true, true, true, true, true, true, true, true, true, true, true, true, true, true, true, true, true, true, true, true, true, false, false, false, false, false, false, false, false, false, false, false]) rfl rfl rfl rfl rfl (by decide) hf (by kernel_rfl) (fun _ => hS) rfl fun a hf => ?_
        refine tkUU (i := 24) (bs' := [true, true, true, true, true, true, true, true, true, true, true, true, true, true, true, true, true, true, true, true, true, true, true, true, true, false, false, false, false, false, false, false, false, false, false]) rfl rfl rfl rfl rfl (by decide) hf (by kernel_rfl) (fun _ => hS) rfl fun a hf => ?_
        refine tkUU (i := 25) (bs' := [true, true, true, true, true, true, true, true, true, true, true, true, true, true, true, true, true, true, true, true, true, true, true, true, true, true, false, false, false, false, false, false, false, false, false]) rfl rfl rfl rfl rfl (by decide) hf (by kernel_rfl) (fun _ => hS) rfl fun a hf => ?_
        refine tkUU (i := 26) (bs' := [true, true, true, true, true, true, true, true, true, true, true, true, true, true, true, true, true, true, true, true, true, true, true, true, true, true, true, false, false, false, false, false, false, false, false]) rfl rfl rfl rfl rfl (by decide) hf (by kernel_rfl) (fun _ => hS) rfl fun a hf => ?_
        refine tkUU (i := 27) (bs' := [true, true, true, true, true, true, true, true, true, true, true, true, true, true, true, true, true, true, true, true, true, true, true, true, true, true, true, true, false, false, false, false, false, false, false]) rfl rfl rfl rfl rfl (by decide) hf (by kernel_rfl) (fun _ => hS) rfl fun a hf => ?_
        refine tkUU (i := 28) (bs' := [true, true, true, true, true, true, true, true, true, true, true, true, true, true, true, true, true, true, true, true, true, true, true, true, true, true, true, true, true, false, false, false, false, false, false]) rfl rfl rfl rfl rfl (by decide) hf (by kernel_rfl) (fun _ => hS) rfl fun a hf => ?_
        refine tkUU (i := 29) (bs' := [true, true, true, true, true, true, true, true, true, true, true, true, true, true, true, true, true, true, true, true, true, true, true, true, true, true, true, true, true, true, false, false, false, false, false]) rfl rfl rfl rfl rfl (by decide) hf (by kernel_rfl) (fun _ => hS) rfl fun a hf => ?_
        refine tkUU (i := 30) (bs' := [true, true, true, true, true, true, true, true, true, true, true, true, true, true, true, true, true, true, true, true, true, true, true, true, true, true, true, true, true, true, true, false, false, false, false]) rfl rfl rfl rfl rfl (by decide) hf (by kernel_rfl) (fun _ => hS) rfl fun a hf => ?_
        refine tkUU (i := 31) (bs' := [true, true, true, true, true, true, true, true, true, true, true, true, true, true, true, true, true, true, true, true, true, true, true, true, true, true, true, true, true, true, true, true, false, false, false]) rfl rfl rfl rfl rfl (by decide) hf (by kernel_rfl) (fun _ => hS) rfl fun a hf => ?_
        refine tkUU (i := 32) (bs' := [true, true, true, true, true, true, true, true, true, true, true, true, true, true, true, true, true, true, true, true, true, true, true, true, true, true, true, true, true, true, true, true, true, false, false]) rfl rfl rfl rfl rfl (by decide) hf (by kernel_rfl) (fun _ => hS) rfl fun a hf => ?_
        refine tkU (i := 33) (bs' := [true, true, true, true, true, true, true, true, true, true, true, true, true, true, true, true, true, true, true, true, true, true, true, true, true, true, true, true, true, true, true, true, true, true, false]) rfl rfl rfl rfl rfl rfl (by decide) hf (by kernel_rfl) (fun _ => hS) rfl fun a hf => ?_
        refine tkP (i := 34) (bs' := [true, true, true, true, true, true, true, true, true, true, true, true, true, true, true, true, true, true, true, true, true, true, true, true, true, true, true, true, true, true, true, true, true, true, true]) rfl rfl rfl (by decide) hf (by kernel_rfl) (fun _ => hS) (fun w => pOp_ok (tb := tab) tabOk hf rfl) rfl fun a hf => ?_
        refine dn (by kernel_rfl) ?_
        have hf := hf.prune [0, 1, 5, 46] rfl
        refine then_n ?_
        refine cd_t hf rfl rfl ?_
        refine sq ?_
        refine reg ?_
        refine pRun_ok (tb := tab) (n := 47) tabOk 1 _ _ hf rfl rfl fun a hf => ?_
        refine wl_end ?_
        refine then_n ?_
        refine wp_ret (blk_r (then_r (then_r (blk_r (then_r (then_r (?_)))))))
        obtain rfl := Option.some.inj hR1
        replace hF := on_ret hF
        obtain rfl := Option.some.inj hF
        refine ret_1 (fn := Try.f120) (r := .tmp 4) hf rfl (rv_tmp hf rfl) ?_
        exact ⟨_, rfl, H.bel, mk_bool⟩
      · rw [if_neg (nt hc2)] at hR1
        have hf := hf.lit 18 rfl hc2
        refine tkPg (i := 7) (bs' := [true, true, true, true, true, true, true, true, false, false, false, false, false, false, false, false, false, false, false, false, false, false, false, false, false, false, false, false, false, false, false, false, false, false, false]) rfl rfl rfl rfl rfl (by decide) hf (by kernel_rfl) (fun _ => hS) (fun w => pOp_ok (tb := tab) tabOk hf rfl) rfl fun a hf => ?_
        refine tkPg (i := 8) (bs' := [true, true, true, true, true, true, true, true, true, false, false, false, false, false, false, false, false, false, false, false, false, false, false, false, false, false, false, false, false, false, false, false, false, false, false]) rfl rfl rfl rfl rfl (by decide) hf (by kernel_rfl) (fun _ => hS) (fun w => pOp_ok (tb := tab) tabOk hf rfl) rfl fun a hf => ?_
        obtain ⟨e2, he2, hR1⟩ := bind_some hR1
        obtain ⟨p2, o2, cs2, hx2, hr2, H⟩ := pre_iaddr H Try.underlying63 TF.sz88 1 rfl he2
        refine tkPg (i := 9) (bs' := [true, true, true, true, true, true, true, true, true, true, false, false, false, false, false, false, false, false, false, false, false, false, false, false, false, false, false, false, false, false, false, false, false, false, false]) rfl rfl rfl rfl rfl (by decide) hf (by kernel_rfl) (fun _ => hS) (fun w => rq_iaddrE hf rfl rfl rfl hx2 w) rfl fun a hf => ?_
        obtain rfl := Amplifier_cells hr2
        refine tkPg (i := 10) (bs' := [true, true, true, true, true, true, true, true, true, true, true, false, false, false, false, false, false, false, false, false, false, false, false, false, false, false, false, false, false, false, false, false, false, false, false]) rfl rfl rfl rfl rfl (by decide) hf (by kernel_rfl) (fun _ => hS) (fun w => pOp_ok (tb := tab) tabOk hf rfl) rfl fun a hf => ?_
        refine str (fun w => Mem ⟨w0, []⟩ S [] [] [] [(false, MP.cells ⟨p2, o2, none⟩ [(.int .i64 e2.After), (.int .i64 e2.Gain), (.int .i64 e2.Output), (.int .i64 e2.Noise)]), (false, MP.cells ⟨p, o, none⟩ [(.int .i64 e.After), (.int .i64 e.Gain), (.int .i64 e.Output), (.int .i64 e.Noise)]), (false, MP.val [(.slice A list.length c)] (list : List Amplifier))] w) (fun w H => H.let [] [] [] [1, 2]) ?_
        have hS : Mem ⟨w0, []⟩ S [] [] [] [(false, MP.cells ⟨p2, o2, none⟩ [(.int .i64 e2.After), (.int .i64 e2.Gain), (.int .i64 e2.Output), (.int .i64 e2.Noise)]), (false, MP.cells ⟨p, o, none⟩ [(.int .i64 e.After), (.int .i64 e.Gain), (.int .i64 e.Output), (.int .i64 e.Noise)]), (false, MP.val [(.slice A list.length c)] (list : List Amplifier))] w := H.let [] [] [] [0, 1, 2]
        refine tkSg (i := 11) (bs' := [true, true, true, true, true, true, true, true, true, true, true, true, false, false, false, false, false, false, false, false, false, false, false, false, false, false, false, false, false, false, false, false, false, false, false]) [] rfl rfl rfl rfl rfl (by decide) hf (by kernel_rfl) (by kernel_rfl) hS (fun w H => rq_loadI hf H TF.ls3 0 0 rfl rfl rfl) rfl fun a hf => ?_
        refine tkPg (i := 12) (bs' := [true, true, true, true, true, true, true, true, true, true, true, true, true, false, false, false, false, false, false, false, false, false, false, false, false, false, false, false, false, false, false, false, false, false, false]) rfl rfl rfl rfl rfl (by decide) hf (by kernel_rfl) (fun _ => hS) (fun w => pOp_ok (tb := tab) tabOk hf rfl) rfl fun a hf => ?_
        refine tkPg (i := 13) (bs' := [true, true, true, true, true, true, true, true, true, true, true, true, true, true, false, false, false, false, false, false, false, false, false, false, false, false, false, false, false, false, false, false, false, false, false]) rfl rfl rfl rfl rfl (by decide) hf (by kernel_rfl) (fun _ => hS) (fun w => pOp_ok (tb := tab) tabOk hf rfl) rfl fun a hf => ?_
        obtain ⟨y2, hy2, hR1⟩ := bind_some hR1
        refine on1g (i := 14) (bs' := [true, true, true, true, true, true, true, true, true, true, true, true, true, true, true, false, false, false, false, false, false, false, false, false, false, false, false, false, false, false, false, false, false, false, false]) (by kernel_rfl) rfl rfl rfl rfl hf rfl (op_call hf TF.cl97 rfl (by decide) (spec_l1In_ok (S := fun _ => True) mk_int mk_int mk_int hy2) fun v2 w a hp2 hf => ?_)
        obtain ⟨hb2, hp2⟩ := hp2
        obtain rfl := VR_bool hp2
        have H := H.keep hb2
        have hS : Mem ⟨w0, []⟩ S [] [] [] [(false, MP.cells ⟨p2, o2, none⟩ [(.int .i64 e2.After), (.int .i64 e2.Gain), (.int .i64 e2.Output), (.int .i64 e2.Noise)]), (false, MP.cells ⟨p, o, none⟩ [(.int .i64 e.After), (.int .i64 e.Gain), (.int .i64 e.Output), (.int .i64 e.Noise)]), (false, MP.val [(.slice A list.length c)] (list : List Amplifier))] w := H.let [] [] [] [0, 1, 2]
        refine ⟨fun _ => hS, ?_⟩
        refine tkPg (i := 15) (bs' := [true, true, true, true, true, true, true, true, true, true, true, true, true, true, true, true, false, false, false, false, false, false, false, false, false, false, false, false, false, false, false, false, false, false, false]) rfl rfl rfl rfl rfl (by decide) hf (by kernel_rfl) (fun _ => hS) (fun w => pOp_ok (tb := tab) tabOk hf rfl) rfl fun a hf => ?_
        refine tkP (i := 16) (bs' := [true, true, true, true, true, true, true, true, true, true, true, true, true, true, true, true, true, false, false, false, false, false, false, false, false, false, false, false, false, false, false, false, false, false, false]) rfl rfl rfl (by decide) hf (by kernel_rfl) (fun _ => hS) (fun w => pOp_ok (tb := tab) tabOk hf rfl) rfl fun a hf => ?_
        refine tkP (i := 17) (bs' := [true, true, true, true, true, true, true, true, true, true, true, true, true, true, true, true, true, true, false, false, false, false, false, false, false, false, false, false, false, false, false, false, false, false, false]) rfl rfl rfl (by decide) hf (by kernel_rfl) (fun _ => hS) (fun w => pOp_ok (tb := tab) tabOk hf rfl) rfl fun a hf => ?_
        refine (Bool.eq_false_or_eq_true (!y2)).elim (fun hc3 => ?_) (fun hc3 => ?_)
        · rw [if_pos hc3] at hR1
          have hf := hf.lit 29 rfl hc3
          refine tkU (i := 18) (bs' := [true, true, true, true, true, true, true, true, true, true, true, true, true, true, true, true, true, true, true, false, false, false, false, false, false, false, false, false, false, false, false, false, false, false, false]) rfl rfl rfl rfl rfl rfl (by decide) hf (by kernel_rfl) (fun _ => hS) rfl fun a hf => ?_
          refine tkU (i := 19) (bs' := [true, true, true, true, true, true, true, true, true, true, true, true, true, true, true, true, true, true, true, true, false, false, false, false, false, false, false, false, false, false, false, false, false, false, false]) rfl rfl rfl rfl rfl rfl (by decide) hf (by kernel_rfl) (fun _ => hS) rfl fun a hf => ?_
          refine tkU (i := 20) (bs' := [true, true, true, true, true, true, true, true, true, true, true, true, true, true, true, true, true, true, true, true, true, false, false, false, false, false, false, false, false, false, false, false, false, false, false]) rfl rfl rfl rfl rfl rfl (by decide) hf (by kernel_rfl) (fun _ => hS) rfl fun a hf => ?_
          refine tkUU (i := 21) (bs' := [true, true, true, true, true, true, true, true, true, true, true, true, true, true, true, true, true, true, true, true, true, true, false, false, false, false, false, false, false, false, false, false, false, false, false]) rfl rfl rfl rfl rfl (by decide) hf (by kernel_rfl) (fun _ => hS) rfl fun a hf => ?_
          refine tkUU (i := 22) (bs' := [true, true, true, true, true, true, true, true, true, true, true, true, true, true, true, true, true, true, true, true, true, true, true, false, false, false, false, false, false, false, false, false, false, false, false]) rfl rfl rfl rfl rfl (by decide) hf (by kernel_rfl) (fun _ => hS) rfl fun a hf => ?_
          refine tkUU (i := 23) (bs' := [true, true, true, true, true, true, true, true, true, true, true, true, true, true, true, true, true, true, true, true, true, true, true, true, false, false, false, false, false, false, false, false, false, false, false]) rfl rfl rfl rfl rfl (by decide) hf (by kernel_rfl) (fun _ => hS) rfl fun a hf => ?_
          refine tkUU (i := 24) (bs' := [true, true, true, true, true, true, true, true, true, true, true, true, true, true, true, true, true, true, true, true, true, true, true, true, true, false, false, false, false, false, false, false, false, false, false]) rfl rfl rfl rfl rfl (by decide) hf (by kernel_rfl) (fun _ => hS) rfl fun a hf => ?_
          refine tkUU (i := 25) (bs' := [true, true, true, true, true, true, true, true, true, true, true, true, true, true, true, true, true, true, true, true, true, true, true, true, true, true, false, false, false, false, false, false, false, false, false]) rfl rfl rfl rfl rfl (by decide) hf (by kernel_rfl) (fun _ => hS) rfl fun a hf => ?_
          refine tkUU (i := 26) (bs' := [true, true, true, true, true, true, true, true, true, true, true, true, true, true, true, true, true, true, true, true, true, true, true, true, true, true, true, false, false, false, false, false, false, false, false]) rfl rfl rfl rfl rfl (by decide) hf (by kernel_rfl) (fun _ => hS) rfl fun a hf => ?_
          refine tkUU (i := 27) (bs' := [true, true, true, true, true, true, true, true, true, true, true, true, true, true, true, true, true, true, true, true, true, true, true, true, true, true, true, true, false, false, false, false, false, false, false]) rfl rfl rfl rfl rfl (by decide) hf (by kernel_rfl) (fun _ => hS) rfl fun a hf => ?_
          refine tkUU (i := 28) (bs' := [true, true, true, true, true, true, true, true, true, true, true, true, true, true, true, true, true, true, true, true, true, true, true, true, true, true, true, true, true, false, false, false, false, false, false]) rfl rfl rfl rfl rfl (by decide) hf (by kernel_rfl) (fun _ => hS) rfl fun a hf => ?_
          refine tkUU (i := 29) (bs' := [true, true, true, true, true, true, true, true, true, true, true, true, true, true, true, true, true, true, true, true, true, true, true, true, true, true, true, true, true, true, false, false, false, false, false]) rfl rfl rfl rfl rfl (by decide) hf (by kernel_rfl) (fun _ => hS) rfl fun a hf => ?_
          refine tkUU (i := 30) (bs' := [true, true, true, true, true, true, true, true, true, true, true, true, true, true, true, true, true, true, true, true, true, true, true, true, true, true, true, true, true, true, true, false, false, false, false]) rfl rfl rfl rfl rfl (by decide) hf (by kernel_rfl) (fun _ => hS) rfl fun a hf => ?_
          refine tkUU (i := 31) (bs' := [true, true, true, true, true, true, true, true, true, true, true, true, true, true, true, true, true, true, true, true, true, true, true, true, true, true, true, true, true, true, true, true, false, false, false]) rfl rfl rfl rfl rfl (by decide) hf (by kernel_rfl) (fun _ => hS) rfl fun a hf => ?_
          refine tkUU (i := 32) (bs' := [true, true, true, true, true, true, true, true, true, true, true, true, true, true, true, true, true, true, true, true, true, true, true, true, true, true, true, true, true, true, true, true, true, false, false]) rfl rfl rfl rfl rfl (by decide) hf (by kernel_rfl) (fun _ => hS) rfl fun a hf => ?_
          refine tkU (i := 33) (bs' := [true, true, true, true, true, true, true, true, true, true, true, true, true, true, true, true, true, true, true, true, true, true, true, true, true, true, true, true, true, true, true, true, true, true, false]) rfl rfl rfl rfl rfl rfl (by decide) hf (by kernel_rfl) (fun _ => hS) rfl fun a hf => ?_
          refine tkP (i := 34) (bs' := [true, true, true, true, true, true, true, true, true, true, true, true, true, true, true, true, true, true, true, true, true, true, true, true, true, true, true, true, true, true, true, true, true, true, true]) rfl rfl rfl (by decide) hf (by kernel_rfl) (fun _ => hS) (fun w => pOp_ok (tb := tab) tabOk hf rfl) rfl fun a hf => ?_
          refine dn (by kernel_rfl) ?_
          have hf := hf.prune [0, 1, 5, 19, 20, 21, 22, 23, 24, 25, 26, 27, 46] rfl
          refine then_n ?_
          refine cd_t hf rfl rfl ?_
          refine sq ?_
          refine reg ?_
          refine pRun_ok (tb := tab) (n := 47) tabOk 1 _ _ hf rfl rfl fun a hf => ?_
          have hf := hf.prune [4] rfl
          refine wl_end ?_
          refine then_n ?_
          refine wp_ret (blk_r (then_r (then_r (blk_r (then_r (then_r (?_)))))))
          obtain rfl := Option.some.inj hR1
          replace hF := on_ret hF
          obtain rfl := Option.some.inj hF
          refine ret_1 (fn := Try.f120) (r := .tmp 4) hf rfl (rv_tmp hf rfl) ?_
          exact ⟨_, rfl, H.bel, mk_bool⟩
        · rw [if_neg (nt hc3)] at hR1
          have hf := hf.lit 29 rfl hc3
          refine tkPg (i := 18) (bs' := [true, true, true, true, true, true, true, true, true, true, true, true, true, true, true, true, true, true, true, false, false, false, false, false, false, false, false, false, false, false, false, false, false, false, false]) rfl rfl rfl rfl rfl (by decide) hf (by kernel_rfl) (fun _ => hS) (fun w => pOp_ok (tb := tab) tabOk hf rfl) rfl fun a hf => ?_
          refine tkPg (i := 19) (bs' := [true, true, true, true, true, true, true, true, true, true, true, true, true, true, true, true, true, true, true, true, false, false, false, false, false, false, false, false, false, false, false, false, false, false, false]) rfl rfl rfl rfl rfl (by decide) hf (by kernel_rfl) (fun _ => hS) (fun w => pOp_ok (tb := tab) tabOk hf rfl) rfl fun a hf => ?_
          refine tkPg (i := 20) (bs' := [true, true, true, true, true, true, true, true, true, true, true, true, true, true, true, true, true, true, true, true, true, false, false, false, false, false, false, false, false, false, false, false, false, false, false]) rfl rfl rfl rfl rfl (by decide) hf (by kernel_rfl) (fun _ => hS) (fun w => pOp_ok (tb := tab) tabOk hf rfl) rfl fun a hf => ?_
          refine (Bool.eq_false_or_eq_true (decide (i > 0))).elim (fun hc4 => ?_) (fun hc4 => ?_)
          · rw [if_pos hc4] at hR1
            have hf := hf.lit 32 rfl hc4
            refine tkPg (i := 21) (bs' := [true, true, true, true, true, true, true, true, true, true, true, true, true, true, true, true, true, true, true, true, true, true, false, false, false, false, false, false, false, false, false, false, false, false, false]) rfl rfl rfl rfl rfl (by decide) hf (by kernel_rfl) (fun _ => hS) (fun w => pOp_ok (tb := tab) tabOk hf rfl) rfl fun a hf => ?_
            refine tkPg (i := 22) (bs' := [true, true, true, true, true, true, true, true, true, true, true, true, true, true, true, true, true, true, true, true, true, true, true, false, false, false, false, false, false, false, false, false, false, false, false]) rfl rfl rfl rfl rfl (by decide) hf (by kernel_rfl) (fun _ => hS) (fun w => pOp_ok (tb := tab) tabOk hf rfl) rfl fun a hf => ?_
            refine tkPg (i := 23) (bs' := [true, true, true, true, true, true, true, true, true, true, true, true, true, true, true, true, true, true, true, true, true, true, true, true, false, false, false, false, false, false, false, false, false, false, false]) rfl rfl rfl rfl rfl (by decide) hf (by kernel_rfl) (fun _ => hS) (fun w => pOp_ok (tb := tab) tabOk hf rfl) rfl fun a hf => ?_
            obtain ⟨e3, he3, hR1⟩ := bind_some hR1
            obtain ⟨p3, o3, cs3, hx3, hr3, H⟩ := pre_iaddr H Try.underlying63 TF.sz88 2 rfl he3
            refine tkPg (i := 24) (bs' := [true, true, true, true, true, true, true, true, true, true, true, true, true, true, true, true, true, true, true, true, true, true, true, true, true, false, false, false, false, false, false, false, false, false, false]) rfl rfl rfl rfl rfl (by decide) hf (by kernel_rfl) (fun _ => hS) (fun w => rq_iaddrE hf rfl rfl rfl hx3 w) rfl fun a hf => ?_
            obtain rfl := Amplifier_cells hr3
            refine tkPg (i := 25) (bs' := [true, true, true, true, true, true, true, true, true, true, true, true, true, true, true, true, true, true, true, true, true, true, true, true, true, true, false, false, false, false, false, false, false, false, false]) rfl rfl rfl rfl rfl (by decide) hf (by kernel_rfl) (fun _ => hS) (fun w => pOp_ok (tb := tab) tabOk hf rfl) rfl fun a hf => ?_
            refine str (fun w => Mem ⟨w0, []⟩ S [] [] [] [(false, MP.cells ⟨p3, o3, none⟩ [(.int .i64 e3.After), (.int .i64 e3.Gain), (.int .i64 e3.Output), (.int .i64 e3.Noise)]), (false, MP.cells ⟨p2, o2, none⟩ [(.int .i64 e2.After), (.int .i64 e2.Gain), (.int .i64 e2.Output), (.int .i64 e2.Noise)]), (false, MP.cells ⟨p, o, none⟩ [(.int .i64 e.After), (.int .i64 e.Gain), (.int .i64 e.Output), (.int .i64 e.Noise)]), (false, MP.val [(.slice A list.length c)] (list : List Amplifier))] w) (fun w H => H.let [] [] [] [1, 2, 3]) ?_
            have hS : Mem ⟨w0, []⟩ S [] [] [] [(false, MP.cells ⟨p3, o3, none⟩ [(.int .i64 e3.After), (.int .i64 e3.Gain), (.int .i64 e3.Output), (.int .i64 e3.Noise)]), (false, MP.cells ⟨p2, o2, none⟩ [(.int .i64 e2.After), (.int .i64 e2.Gain), (.int .i64 e2.Output), (.int .i64 e2.Noise)]), (false, MP.cells ⟨p, o, none⟩ [(.int .i64 e.After), (.int .i64 e.Gain), (.int .i64 e.Output), (.int .i64 e.Noise)]), (false, MP.val [(.slice A list.length c)] (list : List Amplifier))] w := H.let [] [] [] [0, 1, 2, 3]
            refine tkSg (i := 26) (bs' := [true, true, true, true, true, true, true, true, true, true, true, true, true, true, true, true, true, true, true, true, true, true, true, true, true, true, true, false, false, false, false, false, false, false, false]) [] rfl rfl rfl rfl rfl (by decide) hf (by kernel_rfl) (by kernel_rfl) hS (fun w H => rq_loadI hf H TF.ls3 0 0 rfl rfl rfl) rfl fun a hf => ?_
            refine tkPg (i := 27) (bs' := [true, true, true, true, true, true, true, true, true, true, true, true, true, true, true, true, true, true, true, true, true, true, true, true, true, true, true, true, false, false, false, false, false, false, false]) rfl rfl rfl rfl rfl (by decide) hf (by kernel_rfl) (fun _ => hS) (fun w => pOp_ok (tb := tab) tabOk hf rfl) rfl fun a hf => ?_
            refine tkPg (i := 28) (bs' := [true, true, true, true, true, true, true, true, true, true, true, true, true, true, true, true, true, true, true, true, true, true, true, true, true, true, true, true, true, false, false, false, false, false, false]) rfl rfl rfl rfl rfl (by decide) hf (by kernel_rfl) (fun _ => hS) (fun w => pOp_ok (tb := tab) tabOk hf rfl) rfl fun a hf => ?_
            obtain ⟨e4, he4, hR1⟩ := bind_some hR1
            obtain ⟨p4, o4, cs4, hx4, hr4, H⟩ := pre_iaddr H Try.underlying63 TF.sz88 3 rfl he4
            refine tkPg (i := 29) (bs' := [true, true, true, true, true, true, true, true, true, true, true, true, true, true, true, true, true, true, true, true, true, true, true, true, true, true, true, true, true, true, false, false, false, false, false]) rfl rfl rfl rfl rfl (by decide) hf (by kernel_rfl) (fun _ => hS) (fun w => rq_iaddrE hf rfl rfl rfl hx4 w) rfl fun a hf => ?_
            obtain rfl := Amplifier_cells hr4
            refine tkPg (i := 30) (bs' := [true, true, true, true, true, true, true, true, true, true, true, true, true, true, true, true, true, true, true, true, true, true, true, true, true, true, true, true, true, true, true, false, false, false, false]) rfl rfl rfl rfl rfl (by decide) hf (by kernel_rfl) (fun _ => hS) (fun w => pOp_ok (tb := tab) tabOk hf rfl) rfl fun a hf => ?_
            refine str (fun w => Mem ⟨w0, []⟩ S [] [] [] [(false, MP.cells ⟨p4, o4, none⟩ [(.int .i64 e4.After), (.int .i64 e4.Gain), (.int .i64 e4.Output), (.int .i64 e4.Noise)]), (false, MP.cells ⟨p3, o3, none⟩ [(.int .i64 e3.After), (.int .i64 e3.Gain), (.int .i64 e3.Output), (.int .i64 e3.Noise)]), (false, MP.cells ⟨p2, o2, none⟩ [(.int .i64 e2.After), (.int .i64 e2.Gain), (.int .i64 e2.Output), (.int .i64 e2.Noise)]), (false, MP.cells ⟨p, o, none⟩ [(.int .i64 e.After), (.int .i64 e.Gain), (.int .i64 e.Output), (.int .i64 e.Noise)]), (false, MP.val [(.slice A list.length c)] (list : List Amplifier))] w) (fun w H => H.let [] [] [] [1, 2, 3, 4]) ?_
            have hS : Mem ⟨w0, []⟩ S [] [] [] [(false, MP.cells ⟨p4, o4, none⟩ [(.int .i64 e4.After), (.int .i64 e4.Gain), (.int .i64 e4.Output), (.int .i64 e4.Noise)]), (false, MP.cells ⟨p3, o3, none⟩ [(.int .i64 e3.After), (.int .i64 e3.Gain), (.int .i64 e3.Output), (.int .i64 e3.Noise)]), (false, MP.cells ⟨p2, o2, none⟩ [(.int .i64 e2.After), (.int .i64 e2.Gain), (.int .i64 e2.Output), (.int .i64 e2.Noise)]), (false, MP.cells ⟨p, o, none⟩ [(.int .i64 e.After), (.int .i64 e.Gain), (.int .i64 e.Output), (.int .i64 e.Noise)]), (false, MP.val [(.slice A list.length c)] (list : List Amplifier))] w := H.let [] [] [] [0, 1, 2, 3, 4]
            refine tkSg (i := 31) (bs' := [true, true, true, true, true, true, true, true, true, true, true, true, true, true, true, true, true, true, true, true, true, true, true, true, true, true, true, true, true, true, true, true, false, false, false]) [] rfl rfl rfl rfl rfl (by decide) hf (by kernel_rfl) (by kernel_rfl) hS (fun w H => rq_loadI hf H TF.ls3 0 0 rfl rfl rfl) rfl fun a hf => ?_
            refine tkPg (i := 32) (bs' := [true, true, true, true, true, true, true, true, true, true, true, true, true, true, true, true, true, true, true, true, true, true, true, true, true, true, true, true, true, true, true, true, true, false, false]) rfl rfl rfl rfl rfl (by decide) hf (by kernel_rfl) (fun _ => hS) (fun w => pOp_ok (tb := tab) tabOk hf rfl) rfl fun a hf => ?_
            refine tkPg (i := 33) (bs' := [true, true, true, true, true, true, true, true, true, true, true, true, true, true, true, true, true, true, true, true, true, true, true, true, true, true, true, true, true, true, true, true, true, true, false]) rfl rfl rfl rfl rfl (by decide) hf (by kernel_rfl) (fun _ => hS) (fun w => pOp_ok (tb := tab) tabOk hf rfl) rfl fun a hf => ?_
            refine tkP (i := 34) (bs' := [true, true, true, true, true, true, true, true, true, true, true, true, true, true, true, true, true, true, true, true, true, true, true, true, true, true, true, true, true, true, true, true, true, true, true]) rfl rfl rfl (by decide) hf (by kernel_rfl) (fun _ => hS) (fun w => pOp_ok (tb := tab) tabOk hf rfl) rfl fun a hf => ?_
            refine dn (by kernel_rfl) ?_
            have hf := hf.prune [0, 1, 5, 19, 20, 21, 22, 23, 24, 25, 26, 27, 30, 31, 32, 33, 34, 35, 36, 37, 38, 39, 40, 41, 42, 43, 44, 45, 46] rfl
            refine then_n ?_
            refine (Bool.eq_false_or_eq_true (decide (e3.After ≥ e4.After))).elim (fun hc5 => ?_) (fun hc5 => ?_)
            · rw [if_pos hc5] at hR1
              refine cd_t hf rfl hc5 ?_
              refine sq ?_
              refine reg ?_
              refine pRun_ok (tb := tab) (n := 47) tabOk 1 _ _ hf rfl rfl fun a hf => ?_
              have hf := hf.prune [4] rfl
              refine wl_end ?_
              refine then_n ?_
              refine wp_ret (blk_r (then_r (then_r (blk_r (then_r (then_r (?_)))))))
              obtain rfl := Option.some.inj hR1
              replace hF := on_ret hF
              obtain rfl := Option.some.inj hF
              refine ret_1 (fn := Try.f120) (r := .tmp 4) hf rfl (rv_tmp hf rfl) ?_
              exact ⟨_, rfl, H.bel, mk_bool⟩
            · rw [if_neg (nt hc5)] at hR1
              refine cd_f hf rfl hc5 ?_
              refine wp_skip ?_
              refine blk_n ?_
              refine then_n ?_
              refine reg ?_
              refine pRun_ok (tb := tab) (n := 47) tabOk 3 _ _ hf rfl rfl fun a hf => ?_
              refine wl_end ?_
              have hf := hf.prune [0, 1, 5] rfl
              have H := H.let [] [] [] [4]
              exact then_n ⟨w64 (i + 1), hR1, hf, H⟩
          · rw [if_neg (nt hc4)] at hR1
            have hf := hf.lit 32 rfl hc4
            refine tkU (i := 21) (bs' := [true, true, true, true, true, true, true, true, true, true, true, true, true, true, true, true, true, true, true, true, true, true, false, false, false, false, false, false, false, false, false, false, false, false, false]) rfl rfl rfl rfl rfl rfl (by decide) hf (by kernel_rfl) (fun _ => hS) rfl fun a hf => ?_
            refine tkU (i := 22) (bs' := [true, true, true, true, true, true, true, true, true, true, true, true, true, true, true, true, true, true, true, true, true, true, true, false, false, false, false, false, false, false, false, false, false, false, false]) rfl rfl rfl rfl rfl rfl (by decide) hf (by kernel_rfl) (fun _ => hS) rfl fun a hf => ?_
            refine tkU (i := 23) (bs' := [true, true, true, true, true, true, true, true, true, true, true, true, true, true, true, true, true, true, true, true, true, true, true, true, false, false, false, false, false, false, false, false, false, false, false]) rfl rfl rfl rfl rfl rfl (by decide) hf (by kernel_rfl) (fun _ => hS) rfl fun a hf => ?_
            refine tkU (i := 24) (bs' := [true, true, true, true, true, true, true, true, true, true, true, true, true, true, true, true, true, true, true, true, true, true, true, true, true, false, false, false, false, false, false, false, false, false, false]) rfl rfl rfl rfl rfl rfl (by decide) hf (by kernel_rfl) (fun _ => hS) rfl fun a hf => ?_
            refine tkU (i := 25) (bs' := [true, true, true, true, true, true, true, true, true, true, true, true, true, true, true, true, true, true, true, true, true, true, true, true, true, true, false, false, false, false, false, false, false, false, false]) rfl rfl rfl rfl rfl rfl (by decide) hf (by kernel_rfl) (fun _ => hS) rfl fun a hf => ?_
            refine tkU (i := 26) (bs' := [true, true, true, true, true, true, true, true, true, true, true, true, true, true, true, true, true, true, true, true, true, true, true, true, true, true, true, false, false, false, false, false, false, false, false]) rfl rfl rfl rfl rfl rfl (by decide) hf (by kernel_rfl) (fun _ => hS) rfl fun a hf => ?_
            refine tkU (i := 27) (bs' := [true, true, true, true, true, true, true, true, true, true, true, true, true, true, true, true, true, true, true, true, true, true, true, true, true, true, true, true, false, false, false, false, false, false, false]) rfl rfl rfl rfl rfl rfl (by decide) hf (by kernel_rfl) (fun _ => hS) rfl fun a hf => ?_
            refine tkU (i := 28) (bs' := [true, true, true, true, true, true, true, true, true, true, true, true, true, true, true, true, true, true, true, true, true, true, true, true, true, true, true, true, true, false, false, false, false, false, false]) rfl rfl rfl rfl rfl rfl (by decide) hf (by kernel_rfl) (fun _ => hS) rfl fun a hf => ?_
            refine tkU (i := 29) (bs' := [true, true, true, true, true, true, true, true, true, true, true, true, true, true, true, true, true, true, true, true, true, true, true, true, true, true, true, true, true, true, false, false, false, false, false]) rfl rfl rfl rfl rfl rfl (by decide) hf (by kernel_rfl) (fun _ => hS) rfl fun a hf => ?_
            refine tkU (i := 30) (bs' := [true, true, true, true, true, true, true, true, true, true, true, true, true, true, true, true, true, true, true, true, true, true, true, true, true, true, true, true, true, true, true, false, false, false, false]) rfl rfl rfl rfl rfl rfl (by decide) hf (by kernel_rfl) (fun _ => hS) rfl fun a hf => ?_
            refine tkU (i := 31) (bs' := [true, true, true, true, true, true, true, true, true, true, true, true, true, true, true, true, true, true, true, true, true, true, true, true, true, true, true, true, true, true, true, true, false, false, false]) rfl rfl rfl rfl rfl rfl (by decide) hf (by kernel_rfl) (fun _ => hS) rfl fun a hf => ?_
            refine tkU (i := 32) (bs' := [true, true, true, true, true, true, true, true, true, true, true, true, true, true, true, true, true, true, true, true, true, true, true, true, true, true, true, true, true, true, true, true, true, false, false]) rfl rfl rfl rfl rfl rfl (by decide) hf (by kernel_rfl) (fun _ => hS) rfl fun a hf => ?_
            refine tkPg (i := 33) (bs' := [true, true, true, true, true, true, true, true, true, true, true, true, true, true, true, true, true, true, true, true, true, true, true, true, true, true, true, true, true, true, true, true, true, true, false]) rfl rfl rfl rfl rfl (by decide) hf (by kernel_rfl) (fun _ => hS) (fun w => pOp_ok (tb := tab) tabOk hf rfl) rfl fun a hf => ?_
            refine tkP (i := 34) (bs' := [true, true, true, true, true, true, true, true, true, true, true, true, true, true, true, true, true, true, true, true, true, true, true, true, true, true, true, true, true, true, true, true, true, true, true]) rfl rfl rfl (by decide) hf (by kernel_rfl) (fun _ => hS) (fun w => pOp_ok (tb := tab) tabOk hf rfl) rfl fun a hf => ?_
            refine dn (by kernel_rfl) ?_
            have hf := hf.prune [0, 1, 5, 19, 20, 21, 22, 23, 24, 25, 26, 27, 30, 31, 32, 45, 46] rfl
            refine then_n ?_
            refine cd_f hf rfl rfl ?_
            refine wp_skip ?_
            refine blk_n ?_
            refine then_n ?_
            refine reg ?_
            refine pRun_ok (tb := tab) (n := 47) tabOk 3 _ _ hf rfl rfl fun a hf => ?_
            refine wl_end ?_
            have hf := hf.prune [0, 1, 5] rfl
            have H := H.let [] [] [] [2]
            exact then_n ⟨w64 (i + 1), hR1, hf, H⟩
    · rw [if_neg (nt hc)] at hR1
      refine cd_f hf rfl hc ?_
      refine wp_exit (then_x (then_x (blk_e (?_))))
      have hf := hf.prune [0, 1, 5] rfl
      have H := H.let [] [] [] [0]
      exact ⟨i, (Option.some.inj hR1).symm, hf, H⟩
  rintro a w ⟨i2, rfl, hf, H⟩
  replace hF := on_next hF
  refine then_n ?_
  refine sq ?_
  refine reg ?_
  refine pRun_ok (tb := tab) (n := 47) tabOk 1 _ _ hf rfl rfl fun a hf => ?_
  refine wl_end ?_
  refine then_n ?_
  refine wp_ret (?_)
  obtain rfl := Option.some.inj hF
  refine ret_1 (fn := Try.f120) (r := .tmp 4) hf rfl (rv_tmp hf rfl) ?_
  exact ⟨_, rfl, H.bel, mk_bool⟩

/- loop.example/g00897/spec.l22Loss -/
set_option maxHeartbeats 1000000 in
theorem spec_l22Loss_ok {fu : Nat} {w0 : World} {S : Nat → Prop} {v0_ : Value} {s' : Span} {r : Int} (h0 : VR w0 S v0_ s') (hF : spec_l22Loss fu s' = some r) :
    Calls Try.prog 100 [v0_].toArray w0 fun e w' => ∃ v, e = .returned v ∧ (Below w0.heap.size w0 w' ∧ VR w' (St ⟨w0, []⟩ S [] [] [] true) v r) := by
  obtain rfl := Span_open h0
  have H := Mem.start ⟨w0, []⟩ S
  refine enter Try.func100 rfl rfl (nle rfl) rfl fun a hf => ?_
  rw [spec_l22Loss] at hF
  refine sq ?_
  refine reg ?_
  refine wl0 rfl (op_box hf H rfl rfl (by decide) fun b' a w hf H => ?_)
  refine pRun_ok (tb := tab) (n := 14) tabOk 1 _ _ hf rfl rfl fun a hf => ?_
  refine wl_end ?_
  refine then_n ?_
  refine sq ?_
  refine reg ?_
  refine pRun_ok (tb := tab) (n := 14) tabOk 1 _ _ hf rfl rfl fun a hf => ?_
  refine wl0 rfl (op_q hf (rq_loadB hf H TF.ls3 0 rfl rfl rfl) rfl (by decide) fun a hf => ?_)
  refine pRun_ok (tb := tab) (n := 14) tabOk 1 _ _ hf rfl rfl fun a hf => ?_
  refine wl0 rfl (op_q hf (rq_loadB hf H TF.ls3 0 rfl rfl rfl) rfl (by decide) fun a hf => ?_)
  refine pRun_ok (tb := tab) (n := 14) tabOk 2 _ _ hf rfl rfl fun a hf => ?_
  obtain ⟨q, hq, hF⟩ := bind_some hF
  refine wl0 rfl (op_q hf (rq_quo hf rfl rfl hq) rfl (by decide) fun a hf => ?_)
  refine pRun_ok (tb := tab) (n := 14) tabOk 1 _ _ hf rfl rfl fun a hf => ?_
  refine wl0 rfl (op_q hf (rq_loadB hf H TF.ls3 0 rfl rfl rfl) rfl (by decide) fun a hf => ?_)
  refine pRun_ok (tb := tab) (n := 14) tabOk 3 _ _ hf rfl rfl fun a hf => ?_
  have hf := hf.prune [2] rfl
  refine wl_end ?_
  refine then_n ?_
  refine wp_ret (?_)
  obtain rfl := Option.some.inj hF
  refine ret_1 (fn := Try.f100) (r := .tmp 2) hf rfl (rv_tmp hf rfl) ?_
  exact ⟨_, rfl, H.bel, mk_int⟩

/- loop.example/g00897/spec.l1Least -/
set_option maxHeartbeats 1000000 in
theorem spec_l1Least_ok {fu : Nat} {w0 : World} {S : Nat → Prop} {v0_ : Value} {v1_ : Value} {a' : Int} {b' : Int} {r : Int} (h0 : VR w0 S v0_ a') (h1 : VR w0 S v1_ b') (hF : spec_l1Least fu a' b' = some r) :
    Calls Try.prog 162 [v0_, v1_].toArray w0 fun e w' => ∃ v, e = .returned v ∧ (Below w0.heap.size w0 w' ∧ VR w' (St ⟨w0, []⟩ S [] [] [] true) v r) := by
  obtain rfl := VR_int h0
  obtain rfl := VR_int h1
  have H := Mem.start ⟨w0, []⟩ S
  refine enter Try.func162 rfl rfl (nle rfl) rfl fun a hf => ?_
  rw [spec_l1Least] at hF
  refine sq ?_
  refine reg ?_
  refine pRun_ok (tb := tab) (n := 10) tabOk 1 _ _ hf rfl rfl fun a hf => ?_
  refine wl_end ?_
  refine then_n ?_
  refine sq ?_
  refine sq ?_
  refine reg ?_
  refine pRun_ok (tb := tab) (n := 10) tabOk 3 _ _ hf rfl rfl fun a hf => ?_
  refine wl_end ?_
  refine then_n ?_
  refine (Bool.eq_false_or_eq_true (decide (a' < b'))).elim (fun hc => ?_) (fun hc => ?_)
  · rw [if_pos hc] at hF
    refine cd_t hf rfl hc ?_
    refine sq ?_
    refine reg ?_
    refine pRun_ok (tb := tab) (n := 10) tabOk 2 _ _ hf rfl rfl fun a hf => ?_
    refine wl_end ?_
    refine then_n ?_
    refine wp_ret (then_r (?_))
    obtain rfl := Option.some.inj hF
    refine ret_1 (fn := Try.f162) (r := .tmp 4) hf rfl (rv_tmp hf rfl) ?_
    exact ⟨_, rfl, H.bel, mk_int⟩
  · rw [if_neg (nt hc)] at hF
    refine cd_f hf rfl hc ?_
    refine wp_skip ?_
    refine then_n ?_
    refine sq ?_
    refine reg ?_
    refine pRun_ok (tb := tab) (n := 10) tabOk 2 _ _ hf rfl rfl fun a hf => ?_
    refine wl_end ?_
    refine then_n ?_
    refine wp_ret (?_)
    obtain rfl := Option.some.inj hF
    refine ret_1 (fn := Try.f162) (r := .tmp 4) hf rfl (rv_tmp hf rfl) ?_
    exact ⟨_, rfl, H.bel, mk_int⟩

/- loop.example/g00897/spec.l1Most -/
set_option maxHeartbeats 1000000 in
theorem spec_l1Most_ok {fu : Nat} {w0 : World} {S : Nat → Prop} {v0_ : Value} {v1_ : Value} {a' : Int} {b' : Int} {r : Int} (h0 : VR w0 S v0_ a') (h1 : VR w0 S v1_ b') (hF : spec_l1Most fu a' b' = some r) :
    Calls Try.prog 161 [v0_, v1_].toArray w0 fun e w' => ∃ v, e = .returned v ∧ (Below w0.heap.size w0 w' ∧ VR w' (St ⟨w0, []⟩ S [] [] [] true) v r) := by
  obtain rfl := VR_int h0
  obtain rfl := VR_int h1
  have H := Mem.start ⟨w0, []⟩ S
  refine enter Try.func161 rfl rfl (nle rfl) rfl fun a hf => ?_
  rw [spec_l1Most] at hF
  refine sq ?_
  refine reg ?_
  refine pRun_ok (tb := tab) (n := 10) tabOk 1 _ _ hf rfl rfl fun a hf => ?_
  refine wl_end ?_
  refine then_n ?_
  refine sq ?_
  refine sq ?_
  refine reg ?_
  refine pRun_ok (tb := tab) (n := 10) tabOk 3 _ _ hf rfl rfl fun a hf => ?_
  refine wl_end ?_
  refine then_n ?_
  refine (Bool.eq_false_or_eq_true (decide (a' > b'))).elim (fun hc => ?_) (fun hc => ?_)
  · rw [if_pos hc] at hF
    refine cd_t hf rfl hc ?_
    refine sq ?_
    refine reg ?_
    refine pRun_ok (tb := tab) (n := 10) tabOk 2 _ _ hf rfl rfl fun a hf => ?_
    refine wl_end ?_
    refine then_n ?_
    refine wp_ret (then_r (?_))
    obtain rfl := Option.some.inj hF
    refine ret_1 (fn := Try.f161) (r := .tmp 4) hf rfl (rv_tmp hf rfl) ?_
    exact ⟨_, rfl, H.bel, mk_int⟩
  · rw [if_neg (nt hc)] at hF
    refine cd_f hf rfl hc ?_
    refine wp_skip ?_
    refine then_n ?_
    refine sq ?_
    refine reg ?_
    refine pRun_ok (tb := tab) (n := 10) tabOk 2 _ _ hf rfl rfl fun a hf => ?_
    refine wl_end ?_
    refine then_n ?_
    refine wp_ret (?_)
    obtain rfl := Option.some.inj hF
    refine ret_1 (fn := Try.f161) (r := .tmp 4) hf rfl (rv_tmp hf rfl) ?_
    exact ⟨_, rfl, H.bel, mk_int⟩

/- loop.example/g00897/spec.l22Raise -/
set_option maxHeartbeats 1000000 in
theorem spec_l22Raise_ok {fu : Nat} {w0 : World} {S : Nat → Prop} {v0_ : Value} {v1_ : Value} {a' : Amplifier} {level : Int} {r : Int} (h0 : VR w0 S v0_ a') (h1 : VR w0 S v1_ level) (hF : spec_l22Raise fu a' level = some r) :
    Calls Try.prog 140 [v0_, v1_].toArray w0 fun e w' => ∃ v, e = .returned v ∧ (Below w0.heap.size w0 w' ∧ VR w' (St ⟨w0, []⟩ S [] [] [] true) v r) := by
  obtain rfl := Amplifier_open h0
  obtain rfl := VR_int h1
  have H := Mem.start ⟨w0, []⟩ S
  refine enter Try.func140 rfl rfl (nle rfl) rfl fun a hf => ?_
  rw [spec_l22Raise] at hF
  refine sq ?_
  refine reg ?_
  refine wl0 rfl (op_box hf H rfl rfl (by decide) fun b' a w hf H => ?_)
  refine pRun_ok (tb := tab) (n := 14) tabOk 1 _ _ hf rfl rfl fun a hf => ?_
  refine wl_end ?_
  refine then_n ?_
  refine sq ?_
  refine reg ?_
  refine pRun_ok (tb := tab) (n := 14) tabOk 3 _ _ hf rfl rfl fun a hf => ?_
  refine wl0 rfl (op_q hf (rq_loadB hf H TF.ls3 0 rfl rfl rfl) rfl (by decide) fun a hf => ?_)
  refine pRun_ok (tb := tab) (n := 14) tabOk 2 _ _ hf rfl rfl fun a hf => ?_
  refine wl0 rfl (op_q hf (rq_loadB hf H TF.ls3 0 rfl rfl rfl) rfl (by decide) fun a hf => ?_)
  obtain ⟨y, hy, hF⟩ := bind_some hF
  refine wl0 rfl (op_call hf TF.cl162 rfl (by decide) (spec_l1Least_ok (S := fun _ => True) mk_int mk_int hy) fun v w a hp hf => ?_)
  obtain ⟨hb, hp⟩ := hp
  obtain rfl := VR_int hp
  have H := H.keep hb
  obtain ⟨y2, hy2, hF⟩ := bind_some hF
  refine wl0 rfl (op_call hf TF.cl161 rfl (by decide) (spec_l1Most_ok (S := fun _ => True) mk_int mk_int hy2) fun v2 w a hp2 hf => ?_)
  obtain ⟨hb2, hp2⟩ := hp2
  obtain rfl := VR_int hp2
  have H := H.keep hb2
  refine pRun_ok (tb := tab) (n := 14) tabOk 1 _ _ hf rfl rfl fun a hf => ?_
  refine wl_end ?_
  refine then_n ?_
  refine wp_ret (?_)
  obtain rfl := Option.some.inj hF
  refine ret_1 (fn := Try.f140) (r := .tmp 4) hf rfl (rv_tmp hf rfl) ?_
  exact ⟨_, rfl, H.bel, mk_int⟩

/- loop.example/g00897/spec.l22Levels -/
set_option maxHeartbeats 1000000 in
theorem spec_l22Levels_ok {fu : Nat} {w0 : World} {S : Nat → Prop} {v0_ : Value} {v1_ : Value} {v2_ : Value} {line : List Span} {list : List Amplifier} {launch : Int} {r : List Int × List Int × Bool} (h0 : VR w0 S v0_ line) (h1 : VR w0 S v1_ list) (h2 : VR w0 S v2_ launch) (hF : spec_l22Levels fu line list launch = some r) :
    Calls Try.prog 145 [v0_, v1_, v2_].toArray w0 fun e w' => ∃ v, e = .returned v ∧ (Below w0.heap.size w0 w' ∧ ∃ F0 F1, ∃ u0 u1 u2, v = .tuple #[u0, u1, u2] ∧ VO w' F0 u0 r.1 ∧ VO w' F1 u1 r.2.1 ∧ VR w' (St ⟨w0, []⟩ S [] [] [] true) u2 r.2.2 ∧ New w0 w' (F0 ++ F1)) := by
  obtain ⟨A, c, rfl, hl⟩ := VR_list h0
  obtain ⟨A2, c2, rfl, hl2⟩ := VR_list h1
  obtain rfl := VR_int h2
  have H := Mem.start ⟨w0, []⟩ S
  have H := H.pushArg (MP.val [(.slice A line.length c)] line) hl
  have H := H.pushArg (MP.val [(.slice A2 list.length c2)] list) hl2
  refine enter Try.func145 rfl rfl (nle rfl) rfl fun a hf => ?_
  rw [spec_l22Levels] at hF
  refine sq ?_
  refine reg ?_
  refine pRun_ok (tb := tab) (n := 83) tabOk 3 _ _ hf rfl rfl fun a hf => ?_
  refine wl_end ?_
  refine then_n ?_
  refine sq ?_
  refine reg ?_
  refine wl0 rfl (op_bslice hf H (.sh true) rfl 3 ([] : List Int) [] rfl (fun w => by kernel_rfl) rfl (by decide) rfl trivial el0 (by decide) fun A3 a w hf H => ?_)
  refine wl0 rfl (op_bslice hf H (.sh true) rfl 3 ([] : List Int) [] rfl (fun w => by kernel_rfl) rfl (by decide) rfl trivial el0 (by decide) fun A4 a w hf H => ?_)
  refine pRun_ok (tb := tab) (n := 83) tabOk 2 _ _ hf rfl rfl fun a hf => ?_
  refine wl_end ?_
  refine then_n ?_
  refine sq ?_
  refine sq ?_
  obtain ⟨c3, hGc3, hF⟩ := bind_some hF
  refine mid (fun a w => Fr a 83 [(0, (.slice A line.length c)), (1, (.slice A2 list.length c2)), (2, (.int .i64 launch)), (9, (.slice A3 0 0)), (10, (.slice A4 0 0)), (30, (.bool c3))] ∧ Mem ⟨w0, []⟩ S [] [⟨.sh true, 3, A4, 0, (([] : List Int) : List Int)⟩, ⟨.sh true, 3, A3, 0, (([] : List Int) : List Int)⟩] [] [(false, MP.val [(.slice A2 list.length c2)] (list : List Amplifier)), (false, MP.val [(.slice A line.length c)] (line : List Span))] w) ?_ ?_
  · refine reg ?_
    refine pRun_ok (tb := tab) (n := 83) tabOk 1 _ _ hf rfl rfl fun a hf => ?_
    obtain ⟨y, hy, hGc3⟩ := bind_some hGc3
    refine wl0 rfl (op_call hf TF.cl138 rfl (by decide) (spec_l22Line_ok (S := fun _ => True) (mk_list (rep_true (α := List Span) (H.get 1 rfl))) hy) fun v w a hp hf => ?_)
    obtain ⟨hb, hp⟩ := hp
    obtain rfl := VR_bool hp
    have H := H.keep hb
    refine pRun_ok (tb := tab) (n := 83) tabOk 2 _ _ hf rfl rfl fun a hf => ?_
    refine (Bool.eq_false_or_eq_true (!y)).elim (fun hc => ?_) (fun hc => ?_)
    · rw [if_pos hc] at hGc3
      have hf := hf.lit 19 rfl hc
      refine pRun_ok (tb := tab) (n := 83) tabOk 11 _ _ hf rfl rfl fun a hf => ?_
      obtain rfl := Option.some.inj hGc3
      have hf := hf.prune [0, 1, 2, 9, 10, 30] rfl
      have H := H.let [] [true, true] [] [0, 1]
      exact wl_end ⟨hf, H⟩
    · rw [if_neg (nt hc)] at hGc3
      have hf := hf.lit 19 rfl hc
      refine pRun_ok (tb := tab) (n := 83) tabOk 3 _ _ hf rfl rfl fun a hf => ?_
      obtain ⟨y2, hy2, hGc3⟩ := bind_some hGc3
      refine wlg hf rfl rfl rfl (op_call hf TF.cl120 rfl (by decide) (spec_l22List_ok (S := fun _ => True) (mk_list (rep_true (α := List Amplifier) (H.get 0 rfl))) mk_int hy2) fun v2 w a hp2 hf => ?_)
      obtain ⟨hb2, hp2⟩ := hp2
      obtain rfl := VR_bool hp2
      have H := H.keep hb2
      refine pRun_ok (tb := tab) (n := 83) tabOk 3 _ _ hf rfl rfl fun a hf => ?_
      refine (Bool.eq_false_or_eq_true (!y2)).elim (fun hc2 => ?_) (fun hc2 => ?_)
      · rw [if_pos hc2] at hGc3
        have hf := hf.lit 26 rfl hc2
        refine pRun_ok (tb := tab) (n := 83) tabOk 4 _ _ hf rfl rfl fun a hf => ?_
        obtain rfl := Option.some.inj hGc3
        have hf := hf.prune [0, 1, 2, 9, 10, 30] rfl
        have H := H.let [] [true, true] [] [0, 1]
        exact wl_end ⟨hf, H⟩
      · rw [if_neg (nt hc2)] at hGc3
        have hf := hf.lit 26 rfl hc2
        refine pRun_ok (tb := tab) (n := 83) tabOk 1 _ _ hf rfl rfl fun a hf => ?_
        obtain ⟨y3, hy3, hGc3⟩ := bind_some hGc3
        refine wlg hf rfl rfl rfl (op_call hf TF.cl106 rfl (by decide) (spec_l22Level_ok (S := fun _ => True) mk_int hy3) fun v3 w a hp3 hf => ?_)
        obtain ⟨hb3, hp3⟩ := hp3
        obtain rfl := VR_bool hp3
        have H := H.keep hb3
        refine pRun_ok (tb := tab) (n := 83) tabOk 2 _ _ hf rfl rfl fun a hf => ?_
        obtain rfl := Option.some.inj hGc3
        have hf := hf.prune [0, 1, 2, 9, 10, 30] rfl
        have H := H.let [] [true, true] [] [0, 1]
        exact wl_end ⟨hf, H⟩
  rintro a w ⟨hf, H⟩
  refine then_n ?_
  refine (Bool.eq_false_or_eq_true (c3)).elim (fun hc3 => ?_) (fun hc3 => ?_)
  · rw [if_pos hc3] at hF
    refine cd_t hf rfl hc3 ?_
    refine sq ?_
    refine reg ?_
    refine pRun_ok (tb := tab) (n := 83) tabOk 5 _ _ hf rfl rfl fun a hf => ?_
    refine wl_end ?_
    refine then_n ?_
    refine wp_ret (then_r (?_))
    have H := H.rowOwn 1 rfl rfl
    obtain ⟨F, H⟩ := H.freezeOwn 1 rfl
    have H := H.lend 0 rfl
    have H := H.rowOwn 0 rfl rfl
    obtain ⟨F2, H⟩ := H.freezeOwn 0 rfl
    have H := H.lend 0 rfl
    have H := H.frontD 1 rfl
    obtain rfl := Option.some.inj hF
    refine ret_3 (fn := Try.f145) (r := .tmp 6) (s := .tmp 7) (t := .tmp 8) hf rfl (rv_tmp hf rfl) (rv_tmp hf rfl) (rv_tmp hf rfl) ?_
    have hN : New w0 w (F ++ F2) := by simpa using H.ends (X := [(⟨F, MP.own F [(.slice A3 0 0)] (([] : List Int) : List Int)⟩ : DI), (⟨F2, MP.own F2 [(.slice A4 0 0)] (([] : List Int) : List Int)⟩ : DI)])
    exact ⟨_, rfl, H.bel, F, F2, _, _, _, rfl, (mko_list (H.ownAt 0 rfl)), (mko_list (H.ownAt 1 rfl)), mk_bool, hN⟩
  · rw [if_neg (nt hc3)] at hF
    refine cd_f hf rfl hc3 ?_
    refine wp_skip ?_
    refine then_n ?_
    refine sq ?_
    refine reg ?_
    refine pRun_ok (tb := tab) (n := 83) tabOk 2 _ _ hf rfl rfl fun a hf => ?_
    refine wl_end ?_
    refine then_n ?_
    refine sq ?_
    refine reg ?_
    refine pRun_ok (tb := tab) (n := 83) tabOk 1 _ _ hf rfl rfl fun a hf => ?_
    refine wl_end ?_
    refine then_n ?_
    refine sq ?_
    refine sq ?_
    refine reg ?_
    refine pRun_ok (tb := tab) (n := 83) tabOk 1 _ _ hf rfl rfl fun a hf => ?_
    refine wl_end ?_
    refine then_n ?_
    obtain ⟨out', hB1, hF⟩ := bind_some hF
    have hf := hf.prune [0, 1, 9, 10, 11, 12, 13] rfl
    have H := H.let [] [true, true] [] [0, 1]
    have hI : (fun (s : List Int × List Int × Int × Int × Int) (a : Act) (w : World) => match s with | (before, after, now, at', i) => ∃ (A5 : Option Addr) (c4 : Nat) (A6 : Option Addr) (c5 : Nat), Fr a 83 [(0, (.slice A line.length c)), (1, (.slice A2 list.length c2)), (9, (.slice A5 before.length c4)), (10, (.slice A6 after.length c5)), (11, (.int .i64 now)), (12, (.int .i64 at')), (13, (.int .i64 i))] ∧ Mem ⟨w0, []⟩ S [] [⟨.sh true, 3, A6, c5, (after : List Int)⟩, ⟨.sh true, 3, A5, c4, (before : List Int)⟩] [] [(false, MP.val [(.slice A2 list.length c2)] (list : List Amplifier)), (false, MP.val [(.slice A line.length c)] (line : List Span))] w) (([] : List Int), ([] : List Int), launch, 0, 0) a w := ⟨A3, 0, A4, 0, hf, H⟩
    refine mid (fun a w => ∃ s : List Int × List Int × Int × Int × Int, out' = Out.next s ∧ (fun (s : List Int × List Int × Int × Int × Int) (a : Act) (w : World) => match s with | (before, after, now, at', i) => ∃ (A5 : Option Addr) (c4 : Nat) (A6 : Option Addr) (c5 : Nat), Fr a 83 [(0, (.slice A line.length c)), (1, (.slice A2 list.length c2)), (9, (.slice A5 before.length c4)), (10, (.slice A6 after.length c5)), (11, (.int .i64 now)), (12, (.int .i64 at')), (13, (.int .i64 i))] ∧ Mem ⟨w0, []⟩ S [] [⟨.sh true, 3, A6, c5, (after : List Int)⟩, ⟨.sh true, 3, A5, c4, (before : List Int)⟩] [] [(false, MP.val [(.slice A2 list.length c2)] (list : List Amplifier)), (false, MP.val [(.slice A line.length c)] (line : List Span))] w) s a w) ?_ ?_
    · refine wp_block ?_
      refine loop_rule (fun k (s : List Int × List Int × Int × Int × Int) => spec_l22Levels_L1 fu line list k s.1 s.2.1 s.2.2.1 s.2.2.2.1 s.2.2.2.2 = some out') (fun (s : List Int × List Int × Int × Int × Int) (a : Act) (w : World) => match s with | (before, after, now, at', i) => ∃ (A5 : Option Addr) (c4 : Nat) (A6 : Option Addr) (c5 : Nat), Fr a 83 [(0, (.slice A line.length c)), (1, (.slice A2 list.length c2)), (9, (.slice A5 before.length c4)), (10, (.slice A6 after.length c5)), (11, (.int .i64 now)), (12, (.int .i64 at')), (13, (.int .i64 i))] ∧ Mem ⟨w0, []⟩ S [] [⟨.sh true, 3, A6, c5, (after : List Int)⟩, ⟨.sh true, 3, A5, c4, (before : List Int)⟩] [] [(false, MP.val [(.slice A2 list.length c2)] (list : List Amplifier)), (false, MP.val [(.slice A line.length c)] (line : List Span))] w) (fun s h => by cases h) ?_ fu (([] : List Int), ([] : List Int), launch, 0, 0) a w hB1 hI
      rintro fk ⟨before, after, now, at', i⟩ a w hR1 hI
      replace hR1 : spec_l22Levels_L1 fu line list (fk + 1) before after now at' i = some out' := hR1
      rw [spec_l22Levels_L1] at hR1
      obtain ⟨A5, c4, A6, c5, hf, H⟩ := hI
      refine sq ?_
      refine sq ?_
      refine reg ?_
      refine pRun_ok (tb := tab) (n := 83) tabOk 4 _ _ hf rfl rfl fun a hf => ?_
      refine wl_end ?_
      refine then_n ?_
      refine (Bool.eq_false_or_eq_true (decide (i < (line.length : Int)))).elim (fun hc4 => ?_) (fun hc4 => ?_)
      · rw [if_pos hc4] at hR1
        refine cd_t hf rfl hc4 ?_
        refine wp_skip ?_
        refine then_n ?_
        refine sq ?_
        refine wp_block ?_
        refine sq ?_
        refine reg ?_
        refine pRun_ok (tb := tab) (n := 83) tabOk 3 _ _ hf rfl rfl fun a hf => ?_
        obtain ⟨e, he, hR1⟩ := bind_some hR1
        refine wl0 rfl (op_iaddr hf H Try.underlying96 TF.sz28 1 rfl rfl rfl he (by decide) fun p o cs a hf hr H => ?_)
        obtain rfl := Span_cells hr
        refine wl0 rfl (op_q hf (rq_loadIN hf H TF.la28 0 0 rfl rfl rfl rfl) rfl (by decide) fun a hf => ?_)
        obtain ⟨y4, hy4, hR1⟩ := bind_some hR1
        refine wl0 rfl (op_call hf TF.cl100 rfl (by decide) (spec_l22Loss_ok (S := fun _ => True) Span_mkv hy4) fun v4 w a hp4 hf => ?_)
        obtain ⟨hb4, hp4⟩ := hp4
        obtain rfl := VR_int hp4
        have H := H.keep hb4
        refine pRun_ok (tb := tab) (n := 83) tabOk 2 _ _ hf rfl rfl fun a hf => ?_
        refine wl_end ?_
        refine then_n ?_
        refine sq ?_
        refine sq ?_
        refine reg ?_
        refine pRun_ok (tb := tab) (n := 83) tabOk 1 _ _ hf rfl rfl fun a hf => ?_
        obtain ⟨y5, hy5, hR1⟩ := bind_some hR1
        refine wl0 rfl (op_call hf TF.cl106 rfl (by decide) (spec_l22Level_ok (S := fun _ => True) mk_int hy5) fun v5 w a hp5 hf => ?_)
        obtain ⟨hb5, hp5⟩ := hp5
        obtain rfl := VR_bool hp5
        have H := H.keep hb5
        refine pRun_ok (tb := tab) (n := 83) tabOk 1 _ _ hf rfl rfl fun a hf => ?_
        have hf := hf.prune [0, 1, 9, 10, 11, 12, 13, 49] rfl
        refine wl_end ?_
        refine then_n ?_
        refine (Bool.eq_false_or_eq_true (!y5)).elim (fun hc5 => ?_) (fun hc5 => ?_)
        · rw [if_pos hc5] at hR1
          refine cd_t hf rfl hc5 ?_
          refine sq ?_
          refine reg ?_
          refine wl0 rfl (op_bslice hf H (.sh true) rfl 3 ([] : List Int) [] rfl (fun w => by kernel_rfl) rfl (by decide) rfl trivial el0 (by decide) fun A7 a w hf H => ?_)
          refine wl0 rfl (op_bslice hf H (.sh true) rfl 3 ([] : List Int) [] rfl (fun w => by kernel_rfl) rfl (by decide) rfl trivial el0 (by decide) fun A8 a w hf H => ?_)
          refine pRun_ok (tb := tab) (n := 83) tabOk 3 _ _ hf rfl rfl fun a hf => ?_
          refine wl_end ?_
          refine then_n ?_
          refine wp_ret (then_r (blk_r (then_r (then_r (blk_r (then_r (then_r (?_))))))))
          have H := H.rowOwn 1 rfl rfl
          obtain ⟨F3, H⟩ := H.freezeOwn 1 rfl
          have H := H.lend 0 rfl
          have H := H.rowOwn 0 rfl rfl
          obtain ⟨F4, H⟩ := H.freezeOwn 0 rfl
          have H := H.lend 0 rfl
          have H := H.frontD 1 rfl
          obtain rfl := Option.some.inj hR1
          replace hF := on_ret hF
          obtain rfl := Option.some.inj hF
          refine ret_3 (fn := Try.f145) (r := .tmp 6) (s := .tmp 7) (t := .tmp 8) hf rfl (rv_tmp hf rfl) (rv_tmp hf rfl) (rv_tmp hf rfl) ?_
          have hN : New w0 w (F3 ++ F4) := by simpa using H.ends (X := [(⟨F3, MP.own F3 [(.slice A7 0 0)] (([] : List Int) : List Int)⟩ : DI), (⟨F4, MP.own F4 [(.slice A8 0 0)] (([] : List Int) : List Int)⟩ : DI)])
          exact ⟨_, rfl, H.bel, F3, F4, _, _, _, rfl, (mko_list (H.ownAt 0 rfl)), (mko_list (H.ownAt 1 rfl)), mk_bool, hN⟩
        · rw [if_neg (nt hc5)] at hR1
          refine cd_f hf rfl hc5 ?_
          refine wp_skip ?_
          refine then_n ?_
          refine sq ?_
          refine reg ?_
          refine pRun_ok (tb := tab) (n := 83) tabOk 2 _ _ hf rfl rfl fun a hf => ?_
          refine wl0 rfl (op_bslice hf H (.sh true) rfl 3 ([w64 (now - y4)] : List Int) [(.int .i64 (w64 (now - y4)))] rfl (fun w => by kernel_rfl) rfl (by decide) rfl trivial (el1 (y := w64 (now - y4)) rfl) (by decide) fun A9 a w hf H => ?_)
          obtain ⟨l, hl, hR1⟩ := bind_some hR1
          refine wl0 rfl (op_appR hf H Try.underlying35 TF.ai3 rfl (by decide) 2 0 rfl rfl rfl rfl (.inr rfl) hl (by decide) fun A10 c6 a w hf H => ?_)
          refine pRun_ok (tb := tab) (n := 83) tabOk 1 _ _ hf rfl rfl fun a hf => ?_
          refine wl_end ?_
          refine then_n ?_
          refine sq ?_
          refine sq ?_
          obtain ⟨c7, hGc7, hR1⟩ := bind_some hR1
          refine mid (fun a w => Fr a 83 [(0, (.slice A line.length c)), (1, (.slice A2 list.length c2)), (9, (.slice A10 l.length c6)), (10, (.slice A6 after.length c5)), (11, (.int .i64 (w64 (now - y4)))), (12, (.int .i64 at')), (13, (.int .i64 i)), (68, (.bool c7))] ∧ Mem ⟨w0, []⟩ S [] [⟨.sh true, 3, A6, c5, (after : List Int)⟩, ⟨.sh true, 3, A10, c6, (l : List Int)⟩] [] [(false, MP.val [(.slice A2 list.length c2)] (list : List Amplifier)), (false, MP.val [(.slice A line.length c)] (line : List Span))] w) ?_ ?_
          · refine reg ?_
            refine pRun_ok (tb := tab) (n := 83) tabOk 5 _ _ hf rfl rfl fun a hf => ?_
            refine (Bool.eq_false_or_eq_true (decide (at' < (list.length : Int)))).elim (fun hc6 => ?_) (fun hc6 => ?_)
            · rw [if_pos hc6] at hGc7
              have hf := hf.lit 60 rfl hc6
              refine pRun_ok (tb := tab) (n := 83) tabOk 2 _ _ hf rfl rfl fun a hf => ?_
              obtain ⟨e2, he2, hGc7⟩ := bind_some hGc7
              refine wlg hf rfl rfl rfl (op_iaddr hf H Try.underlying63 TF.sz88 1 rfl rfl rfl he2 (by decide) fun p2 o2 cs2 a hf hr2 H => ?_)
              obtain rfl := Amplifier_cells hr2
              refine pRun_ok (tb := tab) (n := 83) tabOk 1 _ _ hf rfl rfl fun a hf => ?_
              refine wlg hf rfl rfl rfl (op_q hf (rq_loadI hf H TF.ls3 0 0 rfl rfl rfl) rfl (by decide) fun a hf => ?_)
              refine pRun_ok (tb := tab) (n := 83) tabOk 3 _ _ hf rfl rfl fun a hf => ?_
              obtain rfl := Option.some.inj hGc7
              have hf := hf.prune [0, 1, 9, 10, 11, 12, 13, 68] rfl
              have H := H.let [] [false, true, true] [] [2, 3]
              exact wl_end ⟨hf, H⟩
            · rw [if_neg (nt hc6)] at hGc7
              have hf := hf.lit 60 rfl hc6
              refine pRun_ok (tb := tab) (n := 83) tabOk 8 _ _ hf rfl rfl fun a hf => ?_
              obtain rfl := Option.some.inj hGc7
              have hf := hf.prune [0, 1, 9, 10, 11, 12, 13, 68] rfl
              have H := H.let [] [false, true, true] [] [1, 2]
              exact wl_end ⟨hf, H⟩
          rintro a w ⟨hf, H⟩
          refine then_n ?_
          refine (Bool.eq_false_or_eq_true (c7)).elim (fun hc7 => ?_) (fun hc7 => ?_)
          · rw [if_pos hc7] at hR1
            refine cd_t hf rfl hc7 ?_
            refine sq ?_
            refine reg ?_
            refine pRun_ok (tb := tab) (n := 83) tabOk 2 _ _ hf rfl rfl fun a hf => ?_
            obtain ⟨e3, he3, hR1⟩ := bind_some hR1
            refine wl0 rfl (op_iaddr hf H Try.underlying63 TF.sz88 0 rfl rfl rfl he3 (by decide) fun p3 o3 cs3 a hf hr3 H => ?_)
            obtain rfl := Amplifier_cells hr3
            refine wl0 rfl (op_q hf (rq_loadIN hf H TF.la88 0 0 rfl rfl rfl rfl) rfl (by decide) fun a hf => ?_)
            refine pRun_ok (tb := tab) (n := 83) tabOk 1 _ _ hf rfl rfl fun a hf => ?_
            obtain ⟨y6, hy6, hR1⟩ := bind_some hR1
            refine wl0 rfl (op_call hf TF.cl140 rfl (by decide) (spec_l22Raise_ok (S := fun _ => True) Amplifier_mkv mk_int hy6) fun v6 w a hp6 hf => ?_)
            obtain ⟨hb6, hp6⟩ := hp6
            obtain rfl := VR_int hp6
            have H := H.keep hb6
            refine pRun_ok (tb := tab) (n := 83) tabOk 1 _ _ hf rfl rfl fun a hf => ?_
            refine wl_end ?_
            refine then_n ?_
            refine reg ?_
            refine pRun_ok (tb := tab) (n := 83) tabOk 3 _ _ hf rfl rfl fun a hf => ?_
            refine wl_end ?_
            refine then_n ?_
            refine reg ?_
            refine pRun_ok (tb := tab) (n := 83) tabOk 2 _ _ hf rfl rfl fun a hf => ?_
            refine wl0 rfl (op_bslice hf H (.sh true) rfl 3 ([y6] : List Int) [(.int .i64 y6)] rfl (fun w => by kernel_rfl) rfl (by decide) rfl trivial (el1 (y := y6) rfl) (by decide) fun A11 a w hf H => ?_)
            obtain ⟨l2, hl2, hR1⟩ := bind_some hR1
            refine wl0 rfl (op_appR hf H Try.underlying35 TF.ai3 rfl (by decide) 1 0 rfl rfl rfl rfl (.inr rfl) hl2 (by decide) fun A12 c8 a w hf H => ?_)
            refine pRun_ok (tb := tab) (n := 83) tabOk 1 _ _ hf rfl rfl fun a hf => ?_
            have hf := hf.prune [0, 1, 9, 10, 11, 12, 13] rfl
            refine wl_end ?_
            refine blk_n ?_
            refine then_n ?_
            refine reg ?_
            refine pRun_ok (tb := tab) (n := 83) tabOk 3 _ _ hf rfl rfl fun a hf => ?_
            refine wl_end ?_
            have hf := hf.prune [0, 1, 9, 10, 11, 12, 13] rfl
            have H := H.let [] [false, true, true] [] [1, 2]
            exact then_n ⟨(l, l2, y6, w64 (at' + 1), w64 (i + 1)), hR1, A10, c6, A12, c8, hf, H⟩
          · rw [if_neg (nt hc7)] at hR1
            refine cd_f hf rfl hc7 ?_
            refine wp_skip ?_
            refine then_n ?_
            refine reg ?_
            refine pRun_ok (tb := tab) (n := 83) tabOk 2 _ _ hf rfl rfl fun a hf => ?_
            refine wl0 rfl (op_bslice hf H (.sh true) rfl 3 ([w64 (now - y4)] : List Int) [(.int .i64 (w64 (now - y4)))] rfl (fun w => by kernel_rfl) rfl (by decide) rfl trivial (el1 (y := w64 (now - y4)) rfl) (by decide) fun A13 a w hf H => ?_)
            obtain ⟨l3, hl3, hR1⟩ := bind_some hR1
            refine wl0 rfl (op_appR hf H Try.underlying35 TF.ai3 rfl (by decide) 1 0 rfl rfl rfl rfl (.inr rfl) hl3 (by decide) fun A14 c9 a w hf H => ?_)
            refine pRun_ok (tb := tab) (n := 83) tabOk 1 _ _ hf rfl rfl fun a hf => ?_
            refine wl_end ?_
            refine blk_n ?_
            refine then_n ?_
            refine reg ?_
            refine pRun_ok (tb := tab) (n := 83) tabOk 3 _ _ hf rfl rfl fun a hf => ?_
            refine wl_end ?_
            have hf := hf.prune [0, 1, 9, 10, 11, 12, 13] rfl
            have H := H.let [] [false, true, true] [] [0, 1]
            exact then_n ⟨(l, l3, w64 (now - y4), at', w64 (i + 1)), hR1, A10, c6, A14, c9, hf, H⟩
      · rw [if_neg (nt hc4)] at hR1
        refine cd_f hf rfl hc4 ?_
        refine wp_exit (then_x (then_x (blk_e (?_))))
        have hf := hf.prune [0, 1, 9, 10, 11, 12, 13] rfl
        have H := H.let [] [true, true] [] [0, 1]
        exact ⟨(before, after, now, at', i), (Option.some.inj hR1).symm, A5, c4, A6, c5, hf, H⟩
    rintro a w ⟨⟨before2, after2, now2, at2, i2⟩, rfl, A15, c10, A16, c11, hf, H⟩
    replace hF := on_next hF
    dsimp only at hF
    refine then_n ?_
    refine sq ?_
    refine reg ?_
    refine pRun_ok (tb := tab) (n := 83) tabOk 5 _ _ hf rfl rfl fun a hf => ?_
    refine wl_end ?_
    refine then_n ?_
    refine wp_ret (?_)
    have H := H.rowOwn 1 rfl rfl
    obtain ⟨F5, H⟩ := H.freezeOwn 1 rfl
    have H := H.lend 0 rfl
    have H := H.rowOwn 0 rfl rfl
    obtain ⟨F6, H⟩ := H.freezeOwn 0 rfl
    have H := H.lend 0 rfl
    have H := H.frontD 1 rfl
    obtain rfl := Option.some.inj hF
    refine ret_3 (fn := Try.f145) (r := .tmp 6) (s := .tmp 7) (t := .tmp 8) hf rfl (rv_tmp hf rfl) (rv_tmp hf rfl) (rv_tmp hf rfl) ?_
    have hN : New w0 w (F5 ++ F6) := by simpa using H.ends (X := [(⟨F5, MP.own F5 [(.slice A15 before2.length c10)] (before2 : List Int)⟩ : DI), (⟨F6, MP.own F6 [(.slice A16 after2.length c11)] (after2 : List Int)⟩ : DI)])
    exact ⟨_, rfl, H.bel, F5, F6, _, _, _, rfl, (mko_list (H.ownAt 0 rfl)), (mko_list (H.ownAt 1 rfl)), mk_bool, hN⟩

/- loop.example/g00897/spec.WorstLevel -/
set_option maxHeartbeats 1000000 in
theorem spec_WorstLevel_ok {fu : Nat} {w0 : World} {S : Nat → Prop} {v0_ : Value} {v1_ : Value} {v2_ : Value} {line : List Span} {list : List Amplifier} {launch : Int} {r : Int × Int × Bool} (h0 : VR w0 S v0_ line) (h1 : VR w0 S v1_ list) (h2 : VR w0 S v2_ launch) (hF : spec_WorstLevel fu line list launch = some r) :
    Calls Try.prog 91 [v0_, v1_, v2_].toArray w0 fun e w' => ∃ v, e = .returned v ∧ (Below w0.heap.size w0 w' ∧ ∃ u0 u1 u2, v = .tuple #[u0, u1, u2] ∧ VR w' (St ⟨w0, []⟩ S [] [] [] true) u0 r.1 ∧ VR w' (St ⟨w0, []⟩ S [] [] [] true) u1 r.2.1 ∧ VR w' (St ⟨w0, []⟩ S [] [] [] true) u2 r.2.2) := by
  obtain ⟨A, c, rfl, hl⟩ := VR_list h0
  obtain ⟨A2, c2, rfl, hl2⟩ := VR_list h1
  obtain rfl := VR_int h2
  have H := Mem.start ⟨w0, []⟩ S
  have H := H.pushArg (MP.val [(.slice A line.length c)] line) hl
  have H := H.pushArg (MP.val [(.slice A2 list.length c2)] list) hl2
  refine enter Try.func91 rfl rfl (nle rfl) rfl fun a hf => ?_
  rw [spec_WorstLevel] at hF
  refine sq ?_
  refine reg ?_
  refine pRun_ok (tb := tab) (n := 45) tabOk 3 _ _ hf rfl rfl fun a hf => ?_
  refine wl_end ?_
  refine then_n ?_
  refine sq ?_
  refine reg ?_
  refine pRun_ok (tb := tab) (n := 45) tabOk 3 _ _ hf rfl rfl fun a hf => ?_
  obtain ⟨y, hy, hF⟩ := bind_some hF
  refine wl0 rfl (op_call hf TF.cl145 rfl (by decide) (spec_l22Levels_ok (S := fun _ => True) (mk_list (rep_true (α := List Span) (H.get 1 rfl))) (mk_list (rep_true (α := List Amplifier) (H.get 0 rfl))) mk_int hy) fun v w a hp hf => ?_)
  obtain ⟨hb, F, F2, v2, v3, v4, rfl, hp2, hp3, hp4, hN⟩ := hp
  obtain ⟨A3, c3, rfl, hl3⟩ := VO_list hp2
  obtain ⟨A4, c4, rfl, hl4⟩ := VO_list hp3
  obtain rfl := VR_bool hp4
  have H := H.addOwn hb (X := [(⟨F, MP.own F [(.slice A3 y.1.length c3)] (y.1 : List Int)⟩ : DI), (⟨F2, MP.own F2 [(.slice A4 y.2.1.length c4)] (y.2.1 : List Int)⟩ : DI)]) (by simpa using hN.1) (ps1 hl3 (ps1 hl4 ps0)) (by simpa using hN.2)
  have H := H.lend 0 rfl
  have H := H.lend 1 rfl
  refine pRun_ok (tb := tab) (n := 45) tabOk 7 _ _ hf rfl rfl fun a hf => ?_
  have hf := hf.prune [9, 11] rfl
  refine wl_end ?_
  refine then_n ?_
  refine sq ?_
  refine sq ?_
  refine reg ?_
  refine pRun_ok (tb := tab) (n := 45) tabOk 2 _ _ hf rfl rfl fun a hf => ?_
  refine wl_end ?_
  refine then_n ?_
  refine (Bool.eq_false_or_eq_true (!y.2.2)).elim (fun hc => ?_) (fun hc => ?_)
  · rw [if_pos hc] at hF
    refine cd_t hf rfl hc ?_
    refine sq ?_
    refine reg ?_
    refine pRun_ok (tb := tab) (n := 45) tabOk 3 _ _ hf rfl rfl fun a hf => ?_
    refine wl_end ?_
    refine then_n ?_
    refine wp_ret (then_r (?_))
    obtain rfl := Option.some.inj hF
    refine ret_3 (fn := Try.f91) (r := .tmp 6) (s := .tmp 7) (t := .tmp 8) hf rfl (rv_tmp hf rfl) (rv_tmp hf rfl) (rv_tmp hf rfl) ?_
    exact ⟨_, rfl, H.bel, _, _, _, rfl, mk_int, mk_int, mk_bool⟩
  · rw [if_neg (nt hc)] at hF
    refine cd_f hf rfl hc ?_
    refine wp_skip ?_
    refine then_n ?_
    refine sq ?_
    refine reg ?_
    refine pRun_ok (tb := tab) (n := 45) tabOk 1 _ _ hf rfl rfl fun a hf => ?_
    refine wl_end ?_
    refine then_n ?_
    refine sq ?_
    refine sq ?_
    refine reg ?_
    refine pRun_ok (tb := tab) (n := 45) tabOk 1 _ _ hf rfl rfl fun a hf => ?_
    refine wl_end ?_
    refine then_n ?_
    obtain ⟨out', hB1, hF⟩ := bind_some hF
    have hf := hf.prune [9, 12, 13] rfl
    have H := H.let [] [] [true, false] [1]
    have hI : (fun (s : Int × Int) (a : Act) (w : World) => match s with | (at', i) => Fr a 45 [(9, (.slice A3 y.1.length c3)), (12, (.int .i64 at')), (13, (.int .i64 i))] ∧ Mem ⟨w0, []⟩ S [] [] [⟨F, MP.own F [(.slice A3 y.1.length c3)] (y.1 : List Int)⟩] [(true, MP.val [(.slice A3 y.1.length c3)] (y.1 : List Int))] w) (0, 1) a w := ⟨hf, H⟩
    refine mid (fun a w => ∃ s : Int × Int, out' = s ∧ (fun (s : Int × Int) (a : Act) (w : World) => match s with | (at', i) => Fr a 45 [(9, (.slice A3 y.1.length c3)), (12, (.int .i64 at')), (13, (.int .i64 i))] ∧ Mem ⟨w0, []⟩ S [] [] [⟨F, MP.own F [(.slice A3 y.1.length c3)] (y.1 : List Int)⟩] [(true, MP.val [(.slice A3 y.1.length c3)] (y.1 : List Int))] w) s a w) ?_ ?_
    · refine wp_block ?_
      refine loop_rule (fun k (s : Int × Int) => spec_WorstLevel_L1 fu y k s.1 s.2 = some out') (fun (s : Int × Int) (a : Act) (w : World) => match s with | (at', i) => Fr a 45 [(9, (.slice A3 y.1.length c3)), (12, (.int .i64 at')), (13, (.int .i64 i))] ∧ Mem ⟨w0, []⟩ S [] [] [⟨F, MP.own F [(.slice A3 y.1.length c3)] (y.1 : List Int)⟩] [(true, MP.val [(.slice A3 y.1.length c3)] (y.1 : List Int))] w) (fun s h => by cases h) ?_ fu (0, 1) a w hB1 hI
      rintro fk ⟨at', i⟩ a w hR1 hI
      replace hR1 : spec_WorstLevel_L1 fu y (fk + 1) at' i = some out' := hR1
      rw [spec_WorstLevel_L1] at hR1
      obtain ⟨hf, H⟩ := hI
      refine sq ?_
      refine sq ?_
      refine reg ?_
      refine pRun_ok (tb := tab) (n := 45) tabOk 4 _ _ hf rfl rfl fun a hf => ?_
      refine wl_end ?_
      refine then_n ?_
      refine (Bool.eq_false_or_eq_true (decide (i < (y.1.length : Int)))).elim (fun hc2 => ?_) (fun hc2 => ?_)
      · rw [if_pos hc2] at hR1
        refine cd_t hf rfl hc2 ?_
        refine wp_skip ?_
        refine then_n ?_
        refine sq ?_
        refine wp_block ?_
        refine sq ?_
        refine drawn [] (bs := [false, false, false, false, false, false, false, false, false]) (fuel := 9) (Checked.mixed Try.checked) rfl rfl fun w hb => ?_
        have H := H.keep hb
        refine tkP (i := 0) (bs' := [true, false, false, false, false, false, false, false, false]) rfl rfl rfl (by decide) hf (by kernel_rfl) (fun _ => trivial) (fun w => pOp_ok (tb := tab) tabOk hf rfl) rfl fun a hf => ?_
        refine tkP (i := 1) (bs' := [true, true, false, false, false, false, false, false, false]) rfl rfl rfl (by decide) hf (by kernel_rfl) (fun _ => trivial) (fun w => pOp_ok (tb := tab) tabOk hf rfl) rfl fun a hf => ?_
        obtain ⟨e, he, hR1⟩ := bind_some hR1
        obtain ⟨p, o, cs, hx, hr, H⟩ := pre_iaddr H Try.underlying35 TF.sz3 0 rfl he
        refine tkP (i := 2) (bs' := [true, true, true, false, false, false, false, false, false]) rfl rfl rfl (by decide) hf (by kernel_rfl) (fun _ => trivial) (fun w => rq_iaddrE hf rfl rfl rfl hx w) rfl fun a hf => ?_
        obtain rfl := hr
        refine str (fun w => Mem ⟨w0, []⟩ S [] [] [⟨F, MP.own F [(.slice A3 y.1.length c3)] (y.1 : List Int)⟩] [(true, MP.cells ⟨p, o, none⟩ [(.int .i64 e)]), (true, MP.val [(.slice A3 y.1.length c3)] (y.1 : List Int))] w) (fun w H => trivial) ?_
        have hS : Mem ⟨w0, []⟩ S [] [] [⟨F, MP.own F [(.slice A3 y.1.length c3)] (y.1 : List Int)⟩] [(true, MP.cells ⟨p, o, none⟩ [(.int .i64 e)]), (true, MP.val [(.slice A3 y.1.length c3)] (y.1 : List Int))] w := H.let [] [] [true] [0, 1]
        refine tkS (i := 3) (bs' := [true, true, true, true, false, false, false, false, false]) [] rfl rfl rfl (by decide) hf (by kernel_rfl) (by kernel_rfl) hS (fun w H => rq_loadI hf H TF.ls3 0 0 rfl rfl rfl) rfl fun a hf => ?_
        refine tkP (i := 4) (bs' := [true, true, true, true, true, false, false, false, false]) rfl rfl rfl (by decide) hf (by kernel_rfl) (fun _ => hS) (fun w => pOp_ok (tb := tab) tabOk hf rfl) rfl fun a hf => ?_
        refine tkP (i := 5) (bs' := [true, true, true, true, true, true, false, false, false]) rfl rfl rfl (by decide) hf (by kernel_rfl) (fun _ => hS) (fun w => pOp_ok (tb := tab) tabOk hf rfl) rfl fun a hf => ?_
        obtain ⟨e2, he2, hR1⟩ := bind_some hR1
        obtain ⟨p2, o2, cs2, hx2, hr2, H⟩ := pre_iaddr H Try.underlying35 TF.sz3 1 rfl he2
        refine tkP (i := 6) (bs' := [true, true, true, true, true, true, true, false, false]) rfl rfl rfl (by decide) hf (by kernel_rfl) (fun _ => hS) (fun w => rq_iaddrE hf rfl rfl rfl hx2 w) rfl fun a hf => ?_
        obtain rfl := hr2
        refine str (fun w => Mem ⟨w0, []⟩ S [] [] [⟨F, MP.own F [(.slice A3 y.1.length c3)] (y.1 : List Int)⟩] [(true, MP.cells ⟨p2, o2, none⟩ [(.int .i64 e2)]), (true, MP.cells ⟨p, o, none⟩ [(.int .i64 e)]), (true, MP.val [(.slice A3 y.1.length c3)] (y.1 : List Int))] w) (fun w H => H.let [] [] [true] [1, 2]) ?_
        have hS : Mem ⟨w0, []⟩ S [] [] [⟨F, MP.own F [(.slice A3 y.1.length c3)] (y.1 : List Int)⟩] [(true, MP.cells ⟨p2, o2, none⟩ [(.int .i64 e2)]), (true, MP.cells ⟨p, o, none⟩ [(.int .i64 e)]), (true, MP.val [(.slice A3 y.1.length c3)] (y.1 : List Int))] w := H.let [] [] [true] [0, 1, 2]
        refine tkS (i := 7) (bs' := [true, true, true, true, true, true, true, true, false]) [] rfl rfl rfl (by decide) hf (by kernel_rfl) (by kernel_rfl) hS (fun w H => rq_loadI hf H TF.ls3 0 0 rfl rfl rfl) rfl fun a hf => ?_
        refine tkP (i := 8) (bs' := [true, true, true, true, true, true, true, true, true]) rfl rfl rfl (by decide) hf (by kernel_rfl) (fun _ => hS) (fun w => pOp_ok (tb := tab) tabOk hf rfl) rfl fun a hf => ?_
        refine dn (by kernel_rfl) ?_
        refine then_n ?_
        refine (Bool.eq_false_or_eq_true (decide (e < e2))).elim (fun hc3 => ?_) (fun hc3 => ?_)
        · rw [if_pos hc3] at hR1
          refine cd_t hf rfl hc3 ?_
          refine reg ?_
          refine pRun_ok (tb := tab) (n := 45) tabOk 2 _ _ hf rfl rfl fun a hf => ?_
          have hf := hf.prune [9, 12, 13] rfl
          refine wl_end ?_
          refine blk_n ?_
          refine then_n ?_
          refine reg ?_
          refine pRun_ok (tb := tab) (n := 45) tabOk 3 _ _ hf rfl rfl fun a hf => ?_
          refine wl_end ?_
          have hf := hf.prune [9, 12, 13] rfl
          have H := H.let [] [] [true] [2]
          exact then_n ⟨(i, w64 (i + 1)), hR1, hf, H⟩
        · rw [if_neg (nt hc3)] at hR1
          refine cd_f hf rfl hc3 ?_
          refine wp_skip ?_
          refine blk_n ?_
          refine then_n ?_
          refine reg ?_
          refine pRun_ok (tb := tab) (n := 45) tabOk 3 _ _ hf rfl rfl fun a hf => ?_
          have hf := hf.prune [9, 12, 13] rfl
          refine wl_end ?_
          have hf := hf.prune [9, 12, 13] rfl
          have H := H.let [] [] [true] [2]
          exact then_n ⟨(at', w64 (i + 1)), hR1, hf, H⟩
      · rw [if_neg (nt hc2)] at hR1
        refine cd_f hf rfl hc2 ?_
        refine wp_exit (then_x (then_x (blk_e (?_))))
        have hf := hf.prune [9, 12, 13] rfl
        have H := H.let [] [] [true] [0]
        exact ⟨(at', i), (Option.some.inj hR1).symm, hf, H⟩
    rintro a w ⟨⟨at2, i2⟩, rfl, hf, H⟩
    dsimp only at hF
    refine then_n ?_
    refine sq ?_
    refine reg ?_
    refine pRun_ok (tb := tab) (n := 45) tabOk 2 _ _ hf rfl rfl fun a hf => ?_
    obtain ⟨e3, he3, hF⟩ := bind_some hF
    refine wl0 rfl (op_iaddr hf H Try.underlying35 TF.sz3 0 rfl rfl rfl he3 (by decide) fun p3 o3 cs3 a hf hr3 H => ?_)
    obtain rfl := hr3
    refine wl0 rfl (op_q hf (rq_loadI hf H TF.ls3 0 0 rfl rfl rfl) rfl (by decide) fun a hf => ?_)
    refine pRun_ok (tb := tab) (n := 45) tabOk 4 _ _ hf rfl rfl fun a hf => ?_
    refine wl_end ?_
    refine then_n ?_
    refine wp_ret (?_)
    obtain rfl := Option.some.inj hF
    refine ret_3 (fn := Try.f91) (r := .tmp 6) (s := .tmp 7) (t := .tmp 8) hf rfl (rv_tmp hf rfl) (rv_tmp hf rfl) (rv_tmp hf rfl) ?_
    exact ⟨_, rfl, H.bel, _, _, _, rfl, mk_int, mk_int, mk_bool⟩

/- loop.example/g00897/impl.within -/
set_option maxHeartbeats 1000000 in
theorem impl_within_ok {fu : Nat} {w0 : World} {S : Nat → Prop} {v0_ : Value} {v1_ : Value} {v2_ : Value} {n' : Int} {low : Int} {high : Int} {r : Bool} (h0 : VR w0 S v0_ n') (h1 : VR w0 S v1_ low) (h2 : VR w0 S v2_ high) (hF : impl_within fu n' low high = some r) :
    Calls Try.prog 98 [v0_, v1_, v2_].toArray w0 fun e w' => ∃ v, e = .returned v ∧ (Below w0.heap.size w0 w' ∧ VR w' (St ⟨w0, []⟩ S [] [] [] true) v r) := by
  obtain rfl := VR_int h0
  obtain rfl := VR_int h1
  obtain rfl := VR_int h2
  have H := Mem.start ⟨w0, []⟩ S
  refine enter Try.func98 rfl rfl (nle rfl) rfl fun a hf => ?_
  rw [impl_within] at hF
  refine sq ?_
  refine reg ?_
  refine pRun_ok (tb := tab) (n := 15) tabOk 1 _ _ hf rfl rfl fun a hf => ?_
  refine wl_end ?_
  refine then_n ?_
  refine sq ?_
  obtain ⟨c, hGc, hF⟩ := bind_some hF
  refine mid (fun a w => Fr a 15 [(6, (.bool c))] ∧ Mem ⟨w0, []⟩ S [] [] [] [] w) ?_ ?_
  · refine reg ?_
    refine pRun_ok (tb := tab) (n := 15) tabOk 4 _ _ hf rfl rfl fun a hf => ?_
    refine (Bool.eq_false_or_eq_true (decide (low ≤ n'))).elim (fun hc => ?_) (fun hc => ?_)
    · rw [if_pos hc] at hGc
      have hf := hf.lit 10 rfl hc
      refine pRun_ok (tb := tab) (n := 15) tabOk 5 _ _ hf rfl rfl fun a hf => ?_
      obtain rfl := Option.some.inj hGc
      have hf := hf.prune [6] rfl
      have H := H.let [] [] [] []
      exact wl_end ⟨hf, H⟩
    · rw [if_neg (nt hc)] at hGc
      have hf := hf.lit 10 rfl hc
      refine pRun_ok (tb := tab) (n := 15) tabOk 5 _ _ hf rfl rfl fun a hf => ?_
      obtain rfl := Option.some.inj hGc
      have hf := hf.prune [6] rfl
      have H := H.let [] [] [] []
      exact wl_end ⟨hf, H⟩
  rintro a w ⟨hf, H⟩
  refine then_n ?_
  refine wp_ret (?_)
  obtain rfl := Option.some.inj hF
  refine ret_1 (fn := Try.f98) (r := .tmp 6) hf rfl (rv_tmp hf rfl) ?_
  exact ⟨_, rfl, H.bel, mk_bool⟩

/- loop.example/g00897/impl.isSpan -/
set_option maxHeartbeats 1000000 in
theorem impl_isSpan_ok {fu : Nat} {w0 : World} {S : Nat → Prop} {v0_ : Value} {s' : Span} {r : Bool} (h0 : VR w0 S v0_ s') (hF : impl_isSpan fu s' = some r) :
    Calls Try.prog 101 [v0_].toArray w0 fun e w' => ∃ v, e = .returned v ∧ (Below w0.heap.size w0 w' ∧ VR w' (St ⟨w0, []⟩ S [] [] [] true) v r) := by
  obtain rfl := Span_open h0
  have H := Mem.start ⟨w0, []⟩ S
  refine enter Try.func101 rfl rfl (nle rfl) rfl fun a hf => ?_
  rw [impl_isSpan] at hF
  refine sq ?_
  refine reg ?_
  refine wl0 rfl (op_box hf H rfl rfl (by decide) fun b' a w hf H => ?_)
  refine pRun_ok (tb := tab) (n := 16) tabOk 1 _ _ hf rfl rfl fun a hf => ?_
  refine wl_end ?_
  refine then_n ?_
  refine sq ?_
  obtain ⟨c, hGc, hF⟩ := bind_some hF
  refine mid (fun a w => Fr a 16 [(2, (.bool c))] ∧ Mem ⟨w0, []⟩ S [] [] [] [] w) ?_ ?_
  · refine reg ?_
    refine pRun_ok (tb := tab) (n := 16) tabOk 1 _ _ hf rfl rfl fun a hf => ?_
    refine wl0 rfl (op_q hf (rq_loadB hf H TF.ls3 0 rfl rfl rfl) rfl (by decide) fun a hf => ?_)
    obtain ⟨y, hy, hGc⟩ := bind_some hGc
    refine wl0 rfl (op_call hf TF.cl98 rfl (by decide) (impl_within_ok (S := fun _ => True) mk_int mk_int mk_int hy) fun v w a hp hf => ?_)
    obtain ⟨hb, hp⟩ := hp
    obtain rfl := VR_bool hp
    have H := H.keep hb
    refine pRun_ok (tb := tab) (n := 16) tabOk 1 _ _ hf rfl rfl fun a hf => ?_
    refine (Bool.eq_false_or_eq_true (y)).elim (fun hc => ?_) (fun hc => ?_)
    · rw [if_pos hc] at hGc
      have hf := hf.lit 6 rfl hc
      refine pRun_ok (tb := tab) (n := 16) tabOk 1 _ _ hf rfl rfl fun a hf => ?_
      refine wlg hf rfl rfl rfl (op_q hf (rq_loadB hf H TF.ls3 0 rfl rfl rfl) rfl (by decide) fun a hf => ?_)
      obtain ⟨y2, hy2, hGc⟩ := bind_some hGc
      refine wlg hf rfl rfl rfl (op_call hf TF.cl98 rfl (by decide) (impl_within_ok (S := fun _ => True) mk_int mk_int mk_int hy2) fun v2 w a hp2 hf => ?_)
      obtain ⟨hb2, hp2⟩ := hp2
      obtain rfl := VR_bool hp2
      have H := H.keep hb2
      refine pRun_ok (tb := tab) (n := 16) tabOk 2 _ _ hf rfl rfl fun a hf => ?_
      refine (Bool.eq_false_or_eq_true (y2)).elim (fun hc2 => ?_) (fun hc2 => ?_)
      · rw [if_pos hc2] at hGc
        have hf := hf.lit 11 rfl hc2
        refine pRun_ok (tb := tab) (n := 16) tabOk 1 _ _ hf rfl rfl fun a hf => ?_
        refine wlg hf rfl rfl rfl (op_q hf (rq_loadB hf H TF.ls3 0 rfl rfl rfl) rfl (by decide) fun a hf => ?_)
        obtain ⟨y3, hy3, hGc⟩ := bind_some hGc
        refine wlg hf rfl rfl rfl (op_call hf TF.cl98 rfl (by decide) (impl_within_ok (S := fun _ => True) mk_int mk_int mk_int hy3) fun v3 w a hp3 hf => ?_)
        obtain ⟨hb3, hp3⟩ := hp3
        obtain rfl := VR_bool hp3
        have H := H.keep hb3
        refine pRun_ok (tb := tab) (n := 16) tabOk 2 _ _ hf rfl rfl fun a hf => ?_
        obtain rfl := Option.some.inj hGc
        have hf := hf.prune [2] rfl
        have H := H.let [false] [] [] []
        exact wl_end ⟨hf, H⟩
      · rw [if_neg (nt hc2)] at hGc
        have hf := hf.lit 11 rfl hc2
        refine pRun_ok (tb := tab) (n := 16) tabOk 5 _ _ hf rfl rfl fun a hf => ?_
        obtain rfl := Option.some.inj hGc
        have hf := hf.prune [2] rfl
        have H := H.let [false] [] [] []
        exact wl_end ⟨hf, H⟩
    · rw [if_neg (nt hc)] at hGc
      have hf := hf.lit 6 rfl hc
      refine pRun_ok (tb := tab) (n := 16) tabOk 10 _ _ hf rfl rfl fun a hf => ?_
      obtain rfl := Option.some.inj hGc
      have hf := hf.prune [2] rfl
      have H := H.let [false] [] [] []
      exact wl_end ⟨hf, H⟩
  rintro a w ⟨hf, H⟩
  refine then_n ?_
  refine wp_ret (?_)
  obtain rfl := Option.some.inj hF
  refine ret_1 (fn := Try.f101) (r := .tmp 2) hf rfl (rv_tmp hf rfl) ?_
  exact ⟨_, rfl, H.bel, mk_bool⟩

/- loop.example/g00897/impl.isLine$1 -/
set_option maxHeartbeats 1000000 in
theorem impl_isLine_c1_ok {fu : Nat} {w0 : World} {S : Nat → Prop} {v0_ : Value} {s' : Span} {r : Bool} (h0 : VR w0 S v0_ s') (hF : impl_isLine_c1 fu s' = some r) :
    Calls Try.prog 164 [v0_].toArray w0 fun e w' => ∃ v, e = .returned v ∧ (Below w0.heap.size w0 w' ∧ VR w' (St ⟨w0, []⟩ S [] [] [] true) v r) := by
  obtain rfl := Span_open h0
  have H := Mem.start ⟨w0, []⟩ S
  refine enter Try.func164 rfl rfl (nle rfl) rfl fun a hf => ?_
  rw [impl_isLine_c1] at hF
  refine sq ?_
  refine reg ?_
  refine wl0 rfl (op_box hf H rfl rfl (by decide) fun b' a w hf H => ?_)
  refine pRun_ok (tb := tab) (n := 6) tabOk 1 _ _ hf rfl rfl fun a hf => ?_
  refine wl_end ?_
  refine then_n ?_
  refine sq ?_
  refine reg ?_
  refine wl0 rfl (op_q hf (rq_loadBN hf H TF.la28 0 rfl rfl rfl rfl) rfl (by decide) fun a hf => ?_)
  obtain ⟨y, hy, hF⟩ := bind_some hF
  refine wl0 rfl (op_call hf TF.cl101 rfl (by decide) (impl_isSpan_ok (S := fun _ => True) Span_mkv hy) fun v w a hp hf => ?_)
  obtain ⟨hb, hp⟩ := hp
  obtain rfl := VR_bool hp
  have H := H.keep hb
  refine pRun_ok (tb := tab) (n := 6) tabOk 2 _ _ hf rfl rfl fun a hf => ?_
  refine wl_end ?_
  refine then_n ?_
  refine wp_ret (?_)
  obtain rfl := Option.some.inj hF
  refine ret_1 (fn := Try.f164) (r := .tmp 2) hf rfl (rv_tmp hf rfl) ?_
  exact ⟨_, rfl, H.bel, mk_bool⟩

/- slices.IndexFunc[[]loop.example/g00897/impl.Span,loop.example/g00897/impl.Span] -/
set_option maxHeartbeats 1000000 in
theorem slices_IndexFunc_impl_Span_impl_Span_of_isLine_c1_ok {fu : Nat} {w0 : World} {S : Nat → Prop} {v0_ : Value} {s' : List Span} {r : Int} (h0 : VR w0 S v0_ s') (hF : slices_IndexFunc_impl_Span_impl_Span_of_isLine_c1 fu s' = some r) :
    Calls Try.prog 166 [v0_, (.func (.func 164) #[] #[])].toArray w0 fun e w' => ∃ v, e = .returned v ∧ (Below w0.heap.size w0 w' ∧ VR w' (St ⟨w0, []⟩ S [] [] [] true) v r) := by
  obtain ⟨A, c, rfl, hl⟩ := VR_list h0
  have H := Mem.start ⟨w0, []⟩ S
  have H := H.pushArg (MP.val [(.slice A s'.length c)] s') hl
  refine enter Try.func166 rfl rfl (nle rfl) rfl fun a hf => ?_
  rw [slices_IndexFunc_impl_Span_impl_Span_of_isLine_c1] at hF
  refine sq ?_
  refine reg ?_
  refine pRun_ok (tb := tab) (n := 19) tabOk 1 _ _ hf rfl rfl fun a hf => ?_
  refine wl_end ?_
  refine then_n ?_
  refine sq ?_
  refine sq ?_
  refine reg ?_
  refine pRun_ok (tb := tab) (n := 19) tabOk 3 _ _ hf rfl rfl fun a hf => ?_
  refine wl_end ?_
  refine then_n ?_
  obtain ⟨out', hB1, hF⟩ := bind_some hF
  have hf := hf.prune [0, 1, 7, 8] rfl
  have H := H.let [] [] [] [0]
  have hI : (fun (s : Int) (a : Act) (w : World) => match s with | i => Fr a 19 [(0, (.slice A s'.length c)), (1, (.func (.func 164) #[] #[])), (7, (.int .i64 (s'.length : Int))), (8, (.int .i64 i))] ∧ Mem ⟨w0, []⟩ S [] [] [] [(false, MP.val [(.slice A s'.length c)] (s' : List Span))] w) 0 a w0 := ⟨hf, H⟩
  refine mid (fun a w => ∃ s : Int, out' = Out.next s ∧ (fun (s : Int) (a : Act) (w : World) => match s with | i => Fr a 19 [(0, (.slice A s'.length c)), (1, (.func (.func 164) #[] #[])), (7, (.int .i64 (s'.length : Int))), (8, (.int .i64 i))] ∧ Mem ⟨w0, []⟩ S [] [] [] [(false, MP.val [(.slice A s'.length c)] (s' : List Span))] w) s a w) ?_ ?_
  · refine wp_block ?_
    refine loop_rule (fun k (s : Int) => slices_IndexFunc_impl_Span_impl_Span_of_isLine_c1_L1 fu s' k s = some out') (fun (s : Int) (a : Act) (w : World) => match s with | i => Fr a 19 [(0, (.slice A s'.length c)), (1, (.func (.func 164) #[] #[])), (7, (.int .i64 (s'.length : Int))), (8, (.int .i64 i))] ∧ Mem ⟨w0, []⟩ S [] [] [] [(false, MP.val [(.slice A s'.length c)] (s' : List Span))] w) (fun s h => by cases h) ?_ fu 0 a w0 hB1 hI
    rintro fk i a w hR1 hI
    replace hR1 : slices_IndexFunc_impl_Span_impl_Span_of_isLine_c1_L1 fu s' (fk + 1) i = some out' := hR1
    rw [slices_IndexFunc_impl_Span_impl_Span_of_isLine_c1_L1] at hR1
    obtain ⟨hf, H⟩ := hI
    refine sq ?_
    refine reg ?_
    refine pRun_ok (tb := tab) (n := 19) tabOk 1 _ _ hf rfl rfl fun a hf => ?_
    refine wl_end ?_
    refine then_n ?_
    refine sq ?_
    refine (Bool.eq_false_or_eq_true (decide (i < (s'.length : Int)))).elim (fun hc => ?_) (fun hc => ?_)
    · rw [if_pos hc] at hR1
      refine cd_t hf rfl hc ?_
      refine wp_skip ?_
      refine then_n ?_
      refine sq ?_
      refine wp_block ?_
      refine sq ?_
      refine reg ?_
      refine pRun_ok (tb := tab) (n := 19) tabOk 2 _ _ hf rfl rfl fun a hf => ?_
      refine wl_end ?_
      refine then_n ?_
      refine sq ?_
      refine reg ?_
      refine pRun_ok (tb := tab) (n := 19) tabOk 3 _ _ hf rfl rfl fun a hf => ?_
      obtain ⟨e, he, hR1⟩ := bind_some hR1
      refine wl0 rfl (op_iaddr hf H Try.underlying96 TF.sz28 0 rfl rfl rfl he (by decide) fun p o cs a hf hr H => ?_)
      obtain rfl := Span_cells hr
      refine wl0 rfl (op_q hf (rq_loadIN hf H TF.la28 0 0 rfl rfl rfl rfl) rfl (by decide) fun a hf => ?_)
      obtain ⟨y, hy, hR1⟩ := bind_some hR1
      refine wl0 rfl (op_callV hf TF.cl164 rfl rfl (by decide) (impl_isLine_c1_ok (S := fun _ => True) Span_mkv hy) fun v w a hp hf => ?_)
      obtain ⟨hb, hp⟩ := hp
      obtain rfl := VR_bool hp
      have H := H.keep hb
      refine wl_end ?_
      refine then_n ?_
      refine (Bool.eq_false_or_eq_true (y)).elim (fun hc2 => ?_) (fun hc2 => ?_)
      · rw [if_pos hc2] at hR1
        refine cd_t hf rfl hc2 ?_
        refine sq ?_
        refine reg ?_
        refine pRun_ok (tb := tab) (n := 19) tabOk 2 _ _ hf rfl rfl fun a hf => ?_
        have hf := hf.prune [4] rfl
        refine wl_end ?_
        refine then_n ?_
        refine wp_ret (blk_r (then_r (then_r (blk_r (then_r (then_r (?_)))))))
        obtain rfl := Option.some.inj hR1
        replace hF := on_ret hF
        obtain rfl := Option.some.inj hF
        refine ret_1 (fn := Try.f166) (r := .tmp 4) hf rfl (rv_tmp hf rfl) ?_
        exact ⟨_, rfl, H.bel, mk_int⟩
      · rw [if_neg (nt hc2)] at hR1
        refine cd_f hf rfl hc2 ?_
        refine wp_skip ?_
        refine blk_n ?_
        refine then_n ?_
        refine reg ?_
        refine pRun_ok (tb := tab) (n := 19) tabOk 2 _ _ hf rfl rfl fun a hf => ?_
        refine wl_end ?_
        have hf := hf.prune [0, 1, 7, 8] rfl
        have H := H.let [] [] [] [1]
        exact then_n ⟨w64 (i + 1), hR1, hf, H⟩
    · rw [if_neg (nt hc)] at hR1
      refine cd_f hf rfl hc ?_
      refine wp_exit (then_x (then_x (blk_e (?_))))
      have hf := hf.prune [0, 1, 7, 8] rfl
      have H := H.let [] [] [] [0]
      exact ⟨i, (Option.some.inj hR1).symm, hf, H⟩
  rintro a w ⟨i2, rfl, hf, H⟩
  replace hF := on_next hF
  refine then_n ?_
  refine sq ?_
  refine reg ?_
  refine pRun_ok (tb := tab) (n := 19) tabOk 1 _ _ hf rfl rfl fun a hf => ?_
  refine wl_end ?_
  refine then_n ?_
  refine wp_ret (?_)
  obtain rfl := Option.some.inj hF
  refine ret_1 (fn := Try.f166) (r := .tmp 4) hf rfl (rv_tmp hf rfl) ?_
  exact ⟨_, rfl, H.bel, mk_int⟩

/- slices.ContainsFunc[[]loop.example/g00897/impl.Span,loop.example/g00897/impl.Span] -/
set_option maxHeartbeats 1000000 in
theorem slices_ContainsFunc_impl_Span_impl_Span_of_isLine_c1_ok {fu : Nat} {w0 : World} {S : Nat → Prop} {v0_ : Value} {s' : List Span} {r : Bool} (h0 : VR w0 S v0_ s') (hF : slices_ContainsFunc_impl_Span_impl_Span_of_isLine_c1 fu s' = some r) :
    Calls Try.prog 163 [v0_, (.func (.func 164) #[] #[])].toArray w0 fun e w' => ∃ v, e = .returned v ∧ (Below w0.heap.size w0 w' ∧ VR w' (St ⟨w0, []⟩ S [] [] [] true) v r) := by
  obtain ⟨A, c, rfl, hl⟩ := VR_list h0
  have H := Mem.start ⟨w0, []⟩ S
  have H := H.pushArg (MP.val [(.slice A s'.length c)] s') hl
  refine enter Try.func163 rfl rfl (nle rfl) rfl fun a hf => ?_
  rw [slices_ContainsFunc_impl_Span_impl_Span_of_isLine_c1] at hF
  refine sq ?_
  refine reg ?_
  refine pRun_ok (tb := tab) (n := 9) tabOk 1 _ _ hf rfl rfl fun a hf => ?_
  refine wl_end ?_
  refine then_n ?_
  refine sq ?_
  refine reg ?_
  refine pRun_ok (tb := tab) (n := 9) tabOk 2 _ _ hf rfl rfl fun a hf => ?_
  obtain ⟨y, hy, hF⟩ := bind_some hF
  refine wl0 rfl (op_call hf TF.cl166 rfl (by decide) (slices_IndexFunc_impl_Span_impl_Span_of_isLine_c1_ok (S := fun _ => True) (mk_list (rep_true (α := List Span) (H.get 0 rfl))) hy) fun v w a hp hf => ?_)
  obtain ⟨hb, hp⟩ := hp
  obtain rfl := VR_int hp
  have H := H.keep hb
  refine pRun_ok (tb := tab) (n := 9) tabOk 2 _ _ hf rfl rfl fun a hf => ?_
  refine wl_end ?_
  refine then_n ?_
  refine wp_ret (?_)
  obtain rfl := Option.some.inj hF
  refine ret_1 (fn := Try.f163) (r := .tmp 4) hf rfl (rv_tmp hf rfl) ?_
  exact ⟨_, rfl, H.bel, mk_bool⟩

/- loop.example/g00897/impl.isLine -/
set_option maxHeartbeats 1000000 in
theorem impl_isLine_ok {fu : Nat} {w0 : World} {S : Nat → Prop} {v0_ : Value} {line : List Span} {r : Bool} (h0 : VR w0 S v0_ line) (hF : impl_isLine fu line = some r) :
    Calls Try.prog 141 [v0_].toArray w0 fun e w' => ∃ v, e = .returned v ∧ (Below w0.heap.size w0 w' ∧ VR w' (St ⟨w0, []⟩ S [] [] [] true) v r) := by
  obtain ⟨A, c, rfl, hl⟩ := VR_list h0
  have H := Mem.start ⟨w0, []⟩ S
  have H := H.pushArg (MP.val [(.slice A line.length c)] line) hl
  refine enter Try.func141 rfl rfl (nle rfl) rfl fun a hf => ?_
  rw [impl_isLine] at hF
  refine sq ?_
  refine reg ?_
  refine pRun_ok (tb := tab) (n := 11) tabOk 1 _ _ hf rfl rfl fun a hf => ?_
  refine wl_end ?_
  refine then_n ?_
  refine sq ?_
  obtain ⟨c2, hGc2, hF⟩ := bind_some hF
  refine mid (fun a w => Fr a 11 [(2, (.bool c2))] ∧ Mem ⟨w0, []⟩ S [] [] [] [] w) ?_ ?_
  · refine reg ?_
    refine pRun_ok (tb := tab) (n := 11) tabOk 2 _ _ hf rfl rfl fun a hf => ?_
    obtain ⟨y, hy, hGc2⟩ := bind_some hGc2
    refine wl0 rfl (op_call hf TF.cl98 rfl (by decide) (impl_within_ok (S := fun _ => True) mk_int mk_int mk_int hy) fun v w a hp hf => ?_)
    obtain ⟨hb, hp⟩ := hp
    obtain rfl := VR_bool hp
    have H := H.keep hb
    refine pRun_ok (tb := tab) (n := 11) tabOk 1 _ _ hf rfl rfl fun a hf => ?_
    refine (Bool.eq_false_or_eq_true (y)).elim (fun hc => ?_) (fun hc => ?_)
    · rw [if_pos hc] at hGc2
      have hf := hf.lit 6 rfl hc
      refine pRun_ok (tb := tab) (n := 11) tabOk 1 _ _ hf rfl rfl fun a hf => ?_
      obtain ⟨y2, hy2, hGc2⟩ := bind_some hGc2
      refine wlg hf rfl rfl rfl (op_call hf TF.cl163 rfl (by decide) (slices_ContainsFunc_impl_Span_impl_Span_of_isLine_c1_ok (S := fun _ => True) (mk_list (rep_true (α := List Span) (H.get 0 rfl))) hy2) fun v2 w a hp2 hf => ?_)
      obtain ⟨hb2, hp2⟩ := hp2
      obtain rfl := VR_bool hp2
      have H := H.keep hb2
      refine pRun_ok (tb := tab) (n := 11) tabOk 3 _ _ hf rfl rfl fun a hf => ?_
      obtain rfl := Option.some.inj hGc2
      have hf := hf.prune [2] rfl
      have H := H.let [] [] [] []
      exact wl_end ⟨hf, H⟩
    · rw [if_neg (nt hc)] at hGc2
      have hf := hf.lit 6 rfl hc
      refine pRun_ok (tb := tab) (n := 11) tabOk 5 _ _ hf rfl rfl fun a hf => ?_
      obtain rfl := Option.some.inj hGc2
      have hf := hf.prune [2] rfl
      have H := H.let [] [] [] []
      exact wl_end ⟨hf, H⟩
  rintro a w ⟨hf, H⟩
  refine then_n ?_
  refine wp_ret (?_)
  obtain rfl := Option.some.inj hF
  refine ret_1 (fn := Try.f141) (r := .tmp 2) hf rfl (rv_tmp hf rfl) ?_
  exact ⟨_, rfl, H.bel, mk_bool⟩

/- loop.example/g00897/impl.isLevel -/
set_option maxHeartbeats 1000000 in
theorem impl_isLevel_ok {fu : Nat} {w0 : World} {S : Nat → Prop} {v0_ : Value} {level : Int} {r : Bool} (h0 : VR w0 S v0_ level) (hF : impl_isLevel fu level = some r) :
    Calls Try.prog 107 [v0_].toArray w0 fun e w' => ∃ v, e = .returned v ∧ (Below w0.heap.size w0 w' ∧ VR w' (St ⟨w0, []⟩ S [] [] [] true) v r) := by
  obtain rfl := VR_int h0
  have H := Mem.start ⟨w0, []⟩ S
  refine enter Try.func107 rfl rfl (nle rfl) rfl fun a hf => ?_
  rw [impl_isLevel] at hF
  refine sq ?_
  refine reg ?_
  refine pRun_ok (tb := tab) (n := 5) tabOk 1 _ _ hf rfl rfl fun a hf => ?_
  refine wl_end ?_
  refine then_n ?_
  refine sq ?_
  refine reg ?_
  refine pRun_ok (tb := tab) (n := 5) tabOk 1 _ _ hf rfl rfl fun a hf => ?_
  obtain ⟨y, hy, hF⟩ := bind_some hF
  refine wl0 rfl (op_call hf TF.cl98 rfl (by decide) (impl_within_ok (S := fun _ => True) mk_int mk_int mk_int hy) fun v w a hp hf => ?_)
  obtain ⟨hb, hp⟩ := hp
  obtain rfl := VR_bool hp
  have H := H.keep hb
  refine pRun_ok (tb := tab) (n := 5) tabOk 1 _ _ hf rfl rfl fun a hf => ?_
  refine wl_end ?_
  refine then_n ?_
  refine wp_ret (?_)
  obtain rfl := Option.some.inj hF
  refine ret_1 (fn := Try.f107) (r := .tmp 2) hf rfl (rv_tmp hf rfl) ?_
  exact ⟨_, rfl, H.bel, mk_bool⟩

/- loop.example/g00897/impl.isAmplifier -/
set_option maxHeartbeats 1000000 in
theorem impl_isAmplifier_ok {fu : Nat} {w0 : World} {S : Nat → Prop} {v0_ : Value} {a' : Amplifier} {r : Bool} (h0 : VR w0 S v0_ a') (hF : impl_isAmplifier fu a' = some r) :
    Calls Try.prog 142 [v0_].toArray w0 fun e w' => ∃ v, e = .returned v ∧ (Below w0.heap.size w0 w' ∧ VR w' (St ⟨w0, []⟩ S [] [] [] true) v r) := by
  obtain rfl := Amplifier_open h0
  have H := Mem.start ⟨w0, []⟩ S
  refine enter Try.func142 rfl rfl (nle rfl) rfl fun a hf => ?_
  rw [impl_isAmplifier] at hF
  refine sq ?_
  refine reg ?_
  refine wl0 rfl (op_box hf H rfl rfl (by decide) fun b' a w hf H => ?_)
  refine pRun_ok (tb := tab) (n := 16) tabOk 1 _ _ hf rfl rfl fun a hf => ?_
  refine wl_end ?_
  refine then_n ?_
  refine sq ?_
  obtain ⟨c, hGc, hF⟩ := bind_some hF
  refine mid (fun a w => Fr a 16 [(2, (.bool c))] ∧ Mem ⟨w0, []⟩ S [] [] [] [] w) ?_ ?_
  · refine reg ?_
    refine pRun_ok (tb := tab) (n := 16) tabOk 1 _ _ hf rfl rfl fun a hf => ?_
    refine wl0 rfl (op_q hf (rq_loadB hf H TF.ls3 0 rfl rfl rfl) rfl (by decide) fun a hf => ?_)
    obtain ⟨y, hy, hGc⟩ := bind_some hGc
    refine wl0 rfl (op_call hf TF.cl98 rfl (by decide) (impl_within_ok (S := fun _ => True) mk_int mk_int mk_int hy) fun v w a hp hf => ?_)
    obtain ⟨hb, hp⟩ := hp
    obtain rfl := VR_bool hp
    have H := H.keep hb
    refine pRun_ok (tb := tab) (n := 16) tabOk 1 _ _ hf rfl rfl fun a hf => ?_
    refine (Bool.eq_false_or_eq_true (y)).elim (fun hc => ?_) (fun hc => ?_)
    · rw [if_pos hc] at hGc
      have hf := hf.lit 6 rfl hc
      refine pRun_ok (tb := tab) (n := 16) tabOk 1 _ _ hf rfl rfl fun a hf => ?_
      refine wlg hf rfl rfl rfl (op_q hf (rq_loadB hf H TF.ls3 0 rfl rfl rfl) rfl (by decide) fun a hf => ?_)
      obtain ⟨y2, hy2, hGc⟩ := bind_some hGc
      refine wlg hf rfl rfl rfl (op_call hf TF.cl107 rfl (by decide) (impl_isLevel_ok (S := fun _ => True) mk_int hy2) fun v2 w a hp2 hf => ?_)
      obtain ⟨hb2, hp2⟩ := hp2
      obtain rfl := VR_bool hp2
      have H := H.keep hb2
      refine pRun_ok (tb := tab) (n := 16) tabOk 2 _ _ hf rfl rfl fun a hf => ?_
      refine (Bool.eq_false_or_eq_true (y2)).elim (fun hc2 => ?_) (fun hc2 => ?_)
      · rw [if_pos hc2] at hGc
        have hf := hf.lit 11 rfl hc2
        refine pRun_ok (tb := tab) (n := 16) tabOk 1 _ _ hf rfl rfl fun a hf => ?_
        refine wlg hf rfl rfl rfl (op_q hf (rq_loadB hf H TF.ls3 0 rfl rfl rfl) rfl (by decide) fun a hf => ?_)
        obtain ⟨y3, hy3, hGc⟩ := bind_some hGc
        refine wlg hf rfl rfl rfl (op_call hf TF.cl98 rfl (by decide) (impl_within_ok (S := fun _ => True) mk_int mk_int mk_int hy3) fun v3 w a hp3 hf => ?_)
        obtain ⟨hb3, hp3⟩ := hp3
        obtain rfl := VR_bool hp3
        have H := H.keep hb3
        refine pRun_ok (tb := tab) (n := 16) tabOk 2 _ _ hf rfl rfl fun a hf => ?_
        obtain rfl := Option.some.inj hGc
        have hf := hf.prune [2] rfl
        have H := H.let [false] [] [] []
        exact wl_end ⟨hf, H⟩
      · rw [if_neg (nt hc2)] at hGc
        have hf := hf.lit 11 rfl hc2
        refine pRun_ok (tb := tab) (n := 16) tabOk 5 _ _ hf rfl rfl fun a hf => ?_
        obtain rfl := Option.some.inj hGc
        have hf := hf.prune [2] rfl
        have H := H.let [false] [] [] []
        exact wl_end ⟨hf, H⟩
    · rw [if_neg (nt hc)] at hGc
      have hf := hf.lit 6 rfl hc
      refine pRun_ok (tb := tab) (n := 16) tabOk 10 _ _ hf rfl rfl fun a hf => ?_
      obtain rfl := Option.some.inj hGc
      have hf := hf.prune [2] rfl
      have H := H.let [false] [] [] []
      exact wl_end ⟨hf, H⟩
  rintro a w ⟨hf, H⟩
  refine then_n ?_
  refine wp_ret (?_)
  obtain rfl := Option.some.inj hF
  refine ret_1 (fn := Try.f142) (r := .tmp 2) hf rfl (rv_tmp hf rfl) ?_
  exact ⟨_, rfl, H.bel, mk_bool⟩

/- loop.example/g00897/impl.areAmplifiers -/
set_option maxHeartbeats 1000000 in
theorem impl_areAmplifiers_ok {fu : Nat} {w0 : World} {S : Nat → Prop} {v0_ : Value} {v1_ : Value} {list : List Amplifier} {spans : Int} {r : Bool} (h0 : VR w0 S v0_ list) (h1 : VR w0 S v1_ spans) (hF : impl_areAmplifiers fu list spans = some r) :
    Calls Try.prog 121 [v0_, v1_].toArray w0 fun e w' => ∃ v, e = .returned v ∧ (Below w0.heap.size w0 w' ∧ VR w' (St ⟨w0, []⟩ S [] [] [] true) v r) := by
  obtain ⟨A, c, rfl, hl⟩ := VR_list h0
  obtain rfl := VR_int h1
  have H := Mem.start ⟨w0, []⟩ S
  have H := H.pushArg (MP.val [(.slice A list.length c)] list) hl
  refine enter Try.func121 rfl rfl (nle rfl) rfl fun a hf => ?_
  rw [impl_areAmplifiers] at hF
  refine sq ?_
  refine reg ?_
  refine pRun_ok (tb := tab) (n := 41) tabOk 1 _ _ hf rfl rfl fun a hf => ?_
  refine wl_end ?_
  refine then_n ?_
  refine sq ?_
  refine sq ?_
  refine reg ?_
  refine pRun_ok (tb := tab) (n := 41) tabOk 3 _ _ hf rfl rfl fun a hf => ?_
  refine wl_end ?_
  refine then_n ?_
  obtain ⟨out', hB1, hF⟩ := bind_some hF
  have hf := hf.prune [0, 1, 7, 8, 9] rfl
  have H := H.let [] [] [] [0]
  have hI : (fun (s : Int) (a : Act) (w : World) => match s with | i => Fr a 41 [(0, (.slice A list.length c)), (1, (.int .i64 spans)), (7, (.slice A list.length c)), (8, (.int .i64 (list.length : Int))), (9, (.int .i64 i))] ∧ Mem ⟨w0, []⟩ S [] [] [] [(false, MP.val [(.slice A list.length c)] (list : List Amplifier))] w) 0 a w0 := ⟨hf, H⟩
  refine mid (fun a w => ∃ s : Int, out' = Out.next s ∧ (fun (s : Int) (a : Act) (w : World) => match s with | i => Fr a 41 [(0, (.slice A list.length c)), (1, (.int .i64 spans)), (7, (.slice A list.length c)), (8, (.int .i64 (list.length : Int))), (9, (.int .i64 i))] ∧ Mem ⟨w0, []⟩ S [] [] [] [(false, MP.val [(.slice A list.length c)] (list : List Amplifier))] w) s a w) ?_ ?_
  · refine wp_block ?_
    refine loop_rule (fun k (s : Int) => impl_areAmplifiers_L1 fu list spans k s = some out') (fun (s : Int) (a : Act) (w : World) => match s with | i => Fr a 41 [(0, (.slice A list.length c)), (1, (.int .i64 spans)), (7, (.slice A list.length c)), (8, (.int .i64 (list.length : Int))), (9, (.int .i64 i))] ∧ Mem ⟨w0, []⟩ S [] [] [] [(false, MP.val [(.slice A list.length c)] (list : List Amplifier))] w) (fun s h => by cases h) ?_ fu 0 a w0 hB1 hI
    rintro fk i a w hR1 hI
    replace hR1 : impl_areAmplifiers_L1 fu list spans (fk + 1) i = some out' := hR1
    rw [impl_areAmplifiers_L1] at hR1
    obtain ⟨hf, H⟩ := hI
    refine sq ?_
    refine reg ?_
    refine pRun_ok (tb := tab) (n := 41) tabOk 1 _ _ hf rfl rfl fun a hf => ?_
    refine wl_end ?_
    refine then_n ?_
    refine sq ?_
    refine (Bool.eq_false_or_eq_true (decide (i < (list.length : Int)))).elim (fun hc => ?_) (fun hc => ?_)
    · rw [if_pos hc] at hR1
      refine cd_t hf rfl hc ?_
      refine wp_skip ?_
      refine then_n ?_
      refine sq ?_
      refine wp_block ?_
      refine sq ?_
      refine reg ?_
      refine pRun_ok (tb := tab) (n := 41) tabOk 1 _ _ hf rfl rfl fun a hf => ?_
      obtain ⟨e, he, hR1⟩ := bind_some hR1
      refine wl0 rfl (op_iaddr hf H Try.underlying63 TF.sz88 0 rfl rfl rfl he (by decide) fun p o cs a hf hr H => ?_)
      obtain rfl := Amplifier_cells hr
      refine wl0 rfl (op_q hf (rq_loadIN hf H TF.la88 0 0 rfl rfl rfl rfl) rfl (by decide) fun a hf => ?_)
      refine wl0 rfl (op_alloc hf H TF.zv88 rfl (by decide) fun b' a w hf H => ?_)
      refine pRun_ok (tb := tab) (n := 41) tabOk 1 _ _ hf rfl rfl fun a hf => ?_
      refine wl0 rfl (op_storeB hf H 0 TF.sz88 rfl rfl rfl rfl rfl rfl (nle rfl) fun w H => ?_)
      refine wl_end ?_
      refine then_n ?_
      refine sq ?_
      refine drawn [] (bs := [false, false, false, false, false, false, false, false, false, false, false, false, false, false, false, false, false, false, false, false, false, false, false, false, false, false]) (fuel := 26) (Checked.mixed Try.checked) rfl rfl fun w hb => ?_
      have H := H.keep hb
      refine str (fun w => Mem ⟨w0, []⟩ S [⟨b', 88, [(.int .i64 e.After), (.int .i64 e.Gain), (.int .i64 e.Output), (.int .i64 e.Noise)]⟩] [] [] [(false, MP.cells ⟨p, o, none⟩ [(.int .i64 e.After), (.int .i64 e.Gain), (.int .i64 e.Output), (.int .i64 e.Noise)]), (false, MP.val [(.slice A list.length c)] (list : List Amplifier))] w) (fun w H => trivial) ?_
      have hS : Mem ⟨w0, []⟩ S [⟨b', 88, [(.int .i64 e.After), (.int .i64 e.Gain), (.int .i64 e.Output), (.int .i64 e.Noise)]⟩] [] [] [(false, MP.cells ⟨p, o, none⟩ [(.int .i64 e.After), (.int .i64 e.Gain), (.int .i64 e.Output), (.int .i64 e.Noise)]), (false, MP.val [(.slice A list.length c)] (list : List Amplifier))] w := H.let [true] [] [] [0, 1]
      refine tkS (i := 0) (bs' := [true, false, false, false, false, false, false, false, false, false, false, false, false, false, false, false, false, false, false, false, false, false, false, false, false, false]) [] rfl rfl rfl (by decide) hf (by kernel_rfl) (by kernel_rfl) hS (fun w H => rq_loadBN hf H TF.la88 0 rfl rfl rfl rfl) rfl fun a hf => ?_
      obtain ⟨y, hy, hR1⟩ := bind_some hR1
      refine on1 (i := 1) (bs' := [true, true, false, false, false, false, false, false, false, false, false, false, false, false, false, false, false, false, false, false, false, false, false, false, false, false]) (by kernel_rfl) rfl rfl rfl (op_call hf TF.cl142 rfl (by decide) (impl_isAmplifier_ok (S := fun _ => True) Amplifier_mkv hy) fun v w a hp hf => ?_)
      obtain ⟨hb, hp⟩ := hp
      obtain rfl := VR_bool hp
      have H := H.keep hb
      have hS : Mem ⟨w0, []⟩ S [⟨b', 88, [(.int .i64 e.After), (.int .i64 e.Gain), (.int .i64 e.Output), (.int .i64 e.Noise)]⟩] [] [] [(false, MP.cells ⟨p, o, none⟩ [(.int .i64 e.After), (.int .i64 e.Gain), (.int .i64 e.Output), (.int .i64 e.Noise)]), (false, MP.val [(.slice A list.length c)] (list : List Amplifier))] w := H.let [true] [] [] [0, 1]
      refine ⟨fun _ => hS, ?_⟩
      refine tkP (i := 2) (bs' := [true, true, true, false, false, false, false, false, false, false, false, false, false, false, false, false, false, false, false, false, false, false, false, false, false, false]) rfl rfl rfl (by decide) hf (by kernel_rfl) (fun _ => hS) (fun w => pOp_ok (tb := tab) tabOk hf rfl) rfl fun a hf => ?_
      refine tkP (i := 3) (bs' := [true, true, true, true, false, false, false, false, false, false, false, false, false, false, false, false, false, false, false, false, false, false, false, false, false, false]) rfl rfl rfl (by decide) hf (by kernel_rfl) (fun _ => hS) (fun w => pOp_ok (tb := tab) tabOk hf rfl) rfl fun a hf => ?_
      refine (Bool.eq_false_or_eq_true (!y)).elim (fun hc2 => ?_) (fun hc2 => ?_)
      · rw [if_pos hc2] at hR1
        have hf := hf.lit 17 rfl hc2
        refine tkU (i := 4) (bs' := [true, true, true, true, true, false, false, false, false, false, false, false, false, false, false, false, false, false, false, false, false, false, false, false, false, false]) rfl rfl rfl rfl rfl rfl (by decide) hf (by kernel_rfl) (fun _ => hS) rfl fun a hf => ?_
        refine tkU (i := 5) (bs' := [true, true, true, true, true, true, false, false, false, false, false, false, false, false, false, false, false, false, false, false, false, false, false, false, false, false]) rfl rfl rfl rfl rfl rfl (by decide) hf (by kernel_rfl) (fun _ => hS) rfl fun a hf => ?_
        refine tkU (i := 6) (bs' := [true, true, true, true, true, true, true, false, false, false, false, false, false, false, false, false, false, false, false, false, false, false, false, false, false, false]) rfl rfl rfl rfl rfl rfl (by decide) hf (by kernel_rfl) (fun _ => hS) rfl fun a hf => ?_
        refine tkU (i := 7) (bs' := [true, true, true, true, true, true, true, true, false, false, false, false, false, false, false, false, false, false, false, false, false, false, false, false, false, false]) rfl rfl rfl rfl rfl rfl (by decide) hf (by kernel_rfl) (fun _ => hS) rfl fun a hf => ?_
        refine tkU (i := 8) (bs' := [true, true, true, true, true, true, true, true, true, false, false, false, false, false, false, false, false, false, false, false, false, false, false, false, false, false]) rfl rfl rfl rfl rfl rfl (by decide) hf (by kernel_rfl) (fun _ => hS) rfl fun a hf => ?_
        refine tkU (i := 9) (bs' := [true, true, true, true, true, true, true, true, true, true, false, false, false, false, false, false, false, false, false, false, false, false, false, false, false, false]) rfl rfl rfl rfl rfl rfl (by decide) hf (by kernel_rfl) (fun _ => hS) rfl fun a hf => ?_
        refine tkP (i := 10) (bs' := [true, true, true, true, true, true, true, true, true, true, true, false, false, false, false, false, false, false, false, false, false, false, false, false, false, false]) rfl rfl rfl (by decide) hf (by kernel_rfl) (fun _ => hS) (fun w => pOp_ok (tb := tab) tabOk hf rfl) rfl fun a hf => ?_
        refine tkP (i := 11) (bs' := [true, true, true, true, true, true, true, true, true, true, true, true, false, false, false, false, false, false, false, false, false, false, false, false, false, false]) rfl rfl rfl (by decide) hf (by kernel_rfl) (fun _ => hS) (fun w => pOp_ok (tb := tab) tabOk hf rfl) rfl fun a hf => ?_
        refine tkU (i := 12) (bs' := [true, true, true, true, true, true, true, true, true, true, true, true, true, false, false, false, false, false, false, false, false, false, false, false, false, false]) rfl rfl rfl rfl rfl rfl (by decide) hf (by kernel_rfl) (fun _ => hS) rfl fun a hf => ?_
        refine tkU (i := 13) (bs' := [true, true, true, true, true, true, true, true, true, true, true, true, true, true, false, false, false, false, false, false, false, false, false, false, false, false]) rfl rfl rfl rfl rfl rfl (by decide) hf (by kernel_rfl) (fun _ => hS) rfl fun a hf => ?_
        refine tkU (i := 14) (bs' := [true, true, true, true, true, true, true, true, true, true, true, true, true, true, true, false, false, false, false, false, false, false, false, false, false, false]) rfl rfl rfl rfl rfl rfl (by decide) hf (by kernel_rfl) (fun _ => hS) rfl fun a hf => ?_
        refine tkUU (i := 15) (bs' := [true, true, true, true, true, true, true, true, true, true, true, true, true, true, true, true, false, false, false, false, false, false, false, false, false, false]) rfl rfl rfl rfl rfl (by decide) hf (by kernel_rfl) (fun _ => hS) rfl fun a hf => ?_
        refine tkUU (i := 16) (bs' := [true, true, true, true, true, true, true, true, true, true, true, true, true, true, true, true, true, false, false, false, false, false, false, false, false, false]) rfl rfl rfl rfl rfl (by decide) hf (by kernel_rfl) (fun _ => hS) rfl fun a hf => ?_
        refine tkUU (i := 17) (bs' := [true, true, true, true, true, true, true, true, true, true, true, true, true, true, true, true, true, true, false, false, false, false, false, false, false, false]) rfl rfl rfl rfl rfl (by decide) hf (by kernel_rfl) (fun _ => hS) rfl fun a hf => ?_
        refine tkUU (i := 18) (bs' := [true, true, true, true, true, true, true, true, true, true, true, true, true, true, true, true, true, true, true, false, false, false, false, false, false, false]) rfl rfl rfl rfl rfl (by decide) hf (by kernel_rfl) (fun _ => hS) rfl fun a hf => ?_
        refine tkUU (i := 19) (bs' := [true, true, true, true, true, true, true, true, true, true, true, true, true, true, true, true, true, true, true, true, false, false, false, false, false, false]) rfl rfl rfl rfl rfl (by decide) hf (by kernel_rfl) (fun _ => hS) rfl fun a hf => ?_
        refine tkUU (i := 20) (bs' := [true, true, true, true, true, true, true, true, true, true, true, true, true, true, true, true, true, true, true, true, true, false, false, false, false, false]) rfl rfl rfl rfl rfl (by decide) hf (by kernel_rfl) (fun _ => hS) rfl fun a hf => ?_
        refine tkUU (i := 21) (bs' := [true, true, true, true, true, true, true, true, true, true, true, true, true, true, true, true, true, true, true, true, true, true, false, false, false, false]) rfl rfl rfl rfl rfl (by decide) hf (by kernel_rfl) (fun _ => hS) rfl fun a hf => ?_
        refine tkUU (i := 22) (bs' := [true, true, true, true, true, true, true, true, true, true, true, true, true, true, true, true, true, true, true, true, true, true, true, false, false, false]) rfl rfl rfl rfl rfl (by decide) hf (by kernel_rfl) (fun _ => hS) rfl fun a hf => ?_
        refine tkUU (i := 23) (bs' := [true, true, true, true, true, true, true, true, true, true, true, true, true, true, true, true, true, true, true, true, true, true, true, true, false, false]) rfl rfl rfl rfl rfl (by decide) hf (by kernel_rfl) (fun _ => hS) rfl fun a hf => ?_
        refine tkU (i := 24) (bs' := [true, true, true, true, true, true, true, true, true, true, true, true, true, true, true, true, true, true, true, true, true, true, true, true, true, false]) rfl rfl rfl rfl rfl rfl (by decide) hf (by kernel_rfl) (fun _ => hS) rfl fun a hf => ?_
        refine tkP (i := 25) (bs' := [true, true, true, true, true, true, true, true, true, true, true, true, true, true, true, true, true, true, true, true, true, true, true, true, true, true]) rfl rfl rfl (by decide) hf (by kernel_rfl) (fun _ => hS) (fun w => pOp_ok (tb := tab) tabOk hf rfl) rfl fun a hf => ?_
        refine dn (by kernel_rfl) ?_
        have hf := hf.prune [0, 1, 7, 8, 9, 39] rfl
        refine then_n ?_
        refine cd_t hf rfl rfl ?_
        refine sq ?_
        refine reg ?_
        refine pRun_ok (tb := tab) (n := 41) tabOk 1 _ _ hf rfl rfl fun a hf => ?_
        refine wl_end ?_
        refine then_n ?_
        refine wp_ret (blk_r (then_r (then_r (blk_r (then_r (then_r (?_)))))))
        obtain rfl := Option.some.inj hR1
        replace hF := on_ret hF
        obtain rfl := Option.some.inj hF
        refine ret_1 (fn := Try.f121) (r := .tmp 4) hf rfl (rv_tmp hf rfl) ?_
        exact ⟨_, rfl, H.bel, mk_bool⟩
      · rw [if_neg (nt hc2)] at hR1
        have hf := hf.lit 17 rfl hc2
        refine tkPg (i := 4) (bs' := [true, true, true, true, true, false, false, false, false, false, false, false, false, false, false, false, false, false, false, false, false, false, false, false, false, false]) rfl rfl rfl rfl rfl (by decide) hf (by kernel_rfl) (fun _ => hS) (fun w => pOp_ok (tb := tab) tabOk hf rfl) rfl fun a hf => ?_
        refine tkSg (i := 5) (bs' := [true, true, true, true, true, true, false, false, false, false, false, false, false, false, false, false, false, false, false, false, false, false, false, false, false, false]) [] rfl rfl rfl rfl rfl (by decide) hf (by kernel_rfl) (by kernel_rfl) hS (fun w H => rq_loadB hf H TF.ls3 0 rfl rfl rfl) rfl fun a hf => ?_
        refine tkPg (i := 6) (bs' := [true, true, true, true, true, true, true, false, false, false, false, false, false, false, false, false, false, false, false, false, false, false, false, false, false, false]) rfl rfl rfl rfl rfl (by decide) hf (by kernel_rfl) (fun _ => hS) (fun w => pOp_ok (tb := tab) tabOk hf rfl) rfl fun a hf => ?_
        refine tkPg (i := 7) (bs' := [true, true, true, true, true, true, true, true, false, false, false, false, false, false, false, false, false, false, false, false, false, false, false, false, false, false]) rfl rfl rfl rfl rfl (by decide) hf (by kernel_rfl) (fun _ => hS) (fun w => pOp_ok (tb := tab) tabOk hf rfl) rfl fun a hf => ?_
        obtain ⟨y2, hy2, hR1⟩ := bind_some hR1
        refine on1g (i := 8) (bs' := [true, true, true, true, true, true, true, true, true, false, false, false, false, false, false, false, false, false, false, false, false, false, false, false, false, false]) (by kernel_rfl) rfl rfl rfl rfl hf rfl (op_call hf TF.cl98 rfl (by decide) (impl_within_ok (S := fun _ => True) mk_int mk_int mk_int hy2) fun v2 w a hp2 hf => ?_)
        obtain ⟨hb2, hp2⟩ := hp2
        obtain rfl := VR_bool hp2
        have H := H.keep hb2
        have hS : Mem ⟨w0, []⟩ S [⟨b', 88, [(.int .i64 e.After), (.int .i64 e.Gain), (.int .i64 e.Output), (.int .i64 e.Noise)]⟩] [] [] [(false, MP.cells ⟨p, o, none⟩ [(.int .i64 e.After), (.int .i64 e.Gain), (.int .i64 e.Output), (.int .i64 e.Noise)]), (false, MP.val [(.slice A list.length c)] (list : List Amplifier))] w := H.let [true] [] [] [0, 1]
        refine ⟨fun _ => hS, ?_⟩
        refine tkPg (i := 9) (bs' := [true, true, true, true, true, true, true, true, true, true, false, false, false, false, false, false, false, false, false, false, false, false, false, false, false, false]) rfl rfl rfl rfl rfl (by decide) hf (by kernel_rfl) (fun _ => hS) (fun w => pOp_ok (tb := tab) tabOk hf rfl) rfl fun a hf => ?_
        refine tkP (i := 10) (bs' := [true, true, true, true, true, true, true, true, true, true, true, false, false, false, false, false, false, false, false, false, false, false, false, false, false, false]) rfl rfl rfl (by decide) hf (by kernel_rfl) (fun _ => hS) (fun w => pOp_ok (tb := tab) tabOk hf rfl) rfl fun a hf => ?_
        refine tkP (i := 11) (bs' := [true, true, true, true, true, true, true, true, true, true, true, true, false, false, false, false, false, false, false, false, false, false, false, false, false, false]) rfl rfl rfl (by decide) hf (by kernel_rfl) (fun _ => hS) (fun w => pOp_ok (tb := tab) tabOk hf rfl) rfl fun a hf => ?_
        refine (Bool.eq_false_or_eq_true (!y2)).elim (fun hc3 => ?_) (fun hc3 => ?_)
        · rw [if_pos hc3] at hR1
          have hf := hf.lit 25 rfl hc3
          refine tkU (i := 12) (bs' := [true, true, true, true, true, true, true, true, true, true, true, true, true, false, false, false, false, false, false, false, false, false, false, false, false, false]) rfl rfl rfl rfl rfl rfl (by decide) hf (by kernel_rfl) (fun _ => hS) rfl fun a hf => ?_
          refine tkU (i := 13) (bs' := [true, true, true, true, true, true, true, true, true, true, true, true, true, true, false, false, false, false, false, false, false, false, false, false, false, false]) rfl rfl rfl rfl rfl rfl (by decide) hf (by kernel_rfl) (fun _ => hS) rfl fun a hf => ?_
          refine tkU (i := 14) (bs' := [true, true, true, true, true, true, true, true, true, true, true, true, true, true, true, false, false, false, false, false, false, false, false, false, false, false]) rfl rfl rfl rfl rfl rfl (by decide) hf (by kernel_rfl) (fun _ => hS) rfl fun a hf => ?_
          refine tkUU (i := 15) (bs' := [true, true, true, true, true, true, true, true, true, true, true, true, true, true, true, true, false, false, false, false, false, false, false, false, false, false]) rfl rfl rfl rfl rfl (by decide) hf (by kernel_rfl) (fun _ => hS) rfl fun a hf => ?_
          refine tkUU (i := 16) (bs' := [true, true, true, true, true, true, true, true, true, true, true, true, true, true, true, true, true, false, false, false, false, false, false, false, false, false]) rfl rfl rfl rfl rfl (by decide) hf (by kernel_rfl) (fun _ => hS) rfl fun a hf => ?_
          refine tkUU (i := 17) (bs' := [true, true, true, true, true, true, true, true, true, true, true, true, true, true, true, true, true, true, false, false, false, false, false, false, false, false]) rfl rfl rfl rfl rfl (by decide) hf (by kernel_rfl) (fun _ => hS) rfl fun a hf => ?_
          refine tkUU (i := 18) (bs' := [true, true, true, true, true, true, true, true, true, true, true, true, true, true, true, true, true, true, true, false, false, false, false, false, false, false]) rfl rfl rfl rfl rfl (by decide) hf (by kernel_rfl) (fun _ => hS) rfl fun a hf => ?_
          refine tkUU (i := 19) (bs' := [true, true, true, true, true, true, true, true, true, true, true, true, true, true, true, true, true, true, true, true, false, false, false, false, false, false]) rfl rfl rfl rfl rfl (by decide) hf (by kernel_rfl) (fun _ => hS) rfl fun a hf => ?_
          refine tkUU (i := 20) (bs' := [true, true, true, true, true, true, true, true, true, true, true, true, true, true, true, true, true, true, true, true, true, false, false, false, false, false]) rfl rfl rfl rfl rfl (by decide) hf (by kernel_rfl) (fun _ => hS) rfl fun a hf => ?_
          refine tkUU (i := 21) (bs' := [true, true, true, true, true, true, true, true, true, true, true, true, true, true, true, true, true, true, true, true, true, true, false, false, false, false]) rfl rfl rfl rfl rfl (by decide) hf (by kernel_rfl) (fun _ => hS) rfl fun a hf => ?_
          refine tkUU (i := 22) (bs' := [true, true, true, true, true, true, true, true, true, true, true, true, true, true, true, true, true, true, true, true, true, true, true, false, false, false]) rfl rfl rfl rfl rfl (by decide) hf (by kernel_rfl) (fun _ => hS) rfl fun a hf => ?_
          refine tkUU (i := 23) (bs' := [true, true, true, true, true, true, true, true, true, true, true, true, true, true, true, true, true, true, true, true, true, true, true, true, false, false]) rfl rfl rfl rfl rfl (by decide) hf (by kernel_rfl) (fun _ => hS) rfl fun a hf => ?_
          refine tkU (i := 24) (bs' := [true, true, true, true, true, true, true, true, true, true, true, true, true, true, true, true, true, true, true, true, true, true, true, true, true, false]) rfl rfl rfl rfl rfl rfl (by decide) hf (by kernel_rfl) (fun _ => hS) rfl fun a hf => ?_
          refine tkP (i := 25) (bs' := [true, true, true, true, true, true, true, true, true, true, true, true, true, true, true, true, true, true, true, true, true, true, true, true, true, true]) rfl rfl rfl (by decide) hf (by kernel_rfl) (fun _ => hS) (fun w => pOp_ok (tb := tab) tabOk hf rfl) rfl fun a hf => ?_
          refine dn (by kernel_rfl) ?_
          have hf := hf.prune [0, 1, 7, 8, 9, 18, 19, 20, 21, 22, 23, 39] rfl
          refine then_n ?_
          refine cd_t hf rfl rfl ?_
          refine sq ?_
          refine reg ?_
          refine pRun_ok (tb := tab) (n := 41) tabOk 1 _ _ hf rfl rfl fun a hf => ?_
          refine wl_end ?_
          refine then_n ?_
          refine wp_ret (blk_r (then_r (then_r (blk_r (then_r (then_r (?_)))))))
          obtain rfl := Option.some.inj hR1
          replace hF := on_ret hF
          obtain rfl := Option.some.inj hF
          refine ret_1 (fn := Try.f121) (r := .tmp 4) hf rfl (rv_tmp hf rfl) ?_
          exact ⟨_, rfl, H.bel, mk_bool⟩
        · rw [if_neg (nt hc3)] at hR1
          have hf := hf.lit 25 rfl hc3
          refine tkPg (i := 12) (bs' := [true, true, true, true, true, true, true, true, true, true, true, true, true, false, false, false, false, false, false, false, false, false, false, false, false, false]) rfl rfl rfl rfl rfl (by decide) hf (by kernel_rfl) (fun _ => hS) (fun w => pOp_ok (tb := tab) tabOk hf rfl) rfl fun a hf => ?_
          refine tkPg (i := 13) (bs' := [true, true, true, true, true, true, true, true, true, true, true, true, true, true, false, false, false, false, false, false, false, false, false, false, false, false]) rfl rfl rfl rfl rfl (by decide) hf (by kernel_rfl) (fun _ => hS) (fun w => pOp_ok (tb := tab) tabOk hf rfl) rfl fun a hf => ?_
          refine tkPg (i := 14) (bs' := [true, true, true, true, true, true, true, true, true, true, true, true, true, true, true, false, false, false, false, false, false, false, false, false, false, false]) rfl rfl rfl rfl rfl (by decide) hf (by kernel_rfl) (fun _ => hS) (fun w => pOp_ok (tb := tab) tabOk hf rfl) rfl fun a hf => ?_
          refine (Bool.eq_false_or_eq_true (decide (i > 0))).elim (fun hc4 => ?_) (fun hc4 => ?_)
          · rw [if_pos hc4] at hR1
            have hf := hf.lit 28 rfl hc4
            refine tkPg (i := 15) (bs' := [true, true, true, true, true, true, true, true, true, true, true, true, true, true, true, true, false, false, false, false, false, false, false, false, false, false]) rfl rfl rfl rfl rfl (by decide) hf (by kernel_rfl) (fun _ => hS) (fun w => pOp_ok (tb := tab) tabOk hf rfl) rfl fun a hf => ?_
            refine tkPg (i := 16) (bs' := [true, true, true, true, true, true, true, true, true, true, true, true, true, true, true, true, true, false, false, false, false, false, false, false, false, false]) rfl rfl rfl rfl rfl (by decide) hf (by kernel_rfl) (fun _ => hS) (fun w => pOp_ok (tb := tab) tabOk hf rfl) rfl fun a hf => ?_
            refine tkPg (i := 17) (bs' := [true, true, true, true, true, true, true, true, true, true, true, true, true, true, true, true, true, true, false, false, false, false, false, false, false, false]) rfl rfl rfl rfl rfl (by decide) hf (by kernel_rfl) (fun _ => hS) (fun w => pOp_ok (tb := tab) tabOk hf rfl) rfl fun a hf => ?_
            obtain ⟨e2, he2, hR1⟩ := bind_some hR1
            obtain ⟨p2, o2, cs2, hx, hr2, H⟩ := pre_iaddr H Try.underlying63 TF.sz88 1 rfl he2
            refine tkPg (i := 18) (bs' := [true, true, true, true, true, true, true, true, true, true, true, true, true, true, true, true, true, true, true, false, false, false, false, false, false, false]) rfl rfl rfl rfl rfl (by decide) hf (by kernel_rfl) (fun _ => hS) (fun w => rq_iaddrE hf rfl rfl rfl hx w) rfl fun a hf => ?_
            obtain rfl := Amplifier_cells hr2
            refine tkPg (i := 19) (bs' := [true, true, true, true, true, true, true, true, true, true, true, true, true, true, true, true, true, true, true, true, false, false, false, false, false, false]) rfl rfl rfl rfl rfl (by decide) hf (by kernel_rfl) (fun _ => hS) (fun w => pOp_ok (tb := tab) tabOk hf rfl) rfl fun a hf => ?_
            refine str (fun w => Mem ⟨w0, []⟩ S [⟨b', 88, [(.int .i64 e.After), (.int .i64 e.Gain), (.int .i64 e.Output), (.int .i64 e.Noise)]⟩] [] [] [(false, MP.cells ⟨p2, o2, none⟩ [(.int .i64 e2.After), (.int .i64 e2.Gain), (.int .i64 e2.Output), (.int .i64 e2.Noise)]), (false, MP.cells ⟨p, o, none⟩ [(.int .i64 e.After), (.int .i64 e.Gain), (.int .i64 e.Output), (.int .i64 e.Noise)]), (false, MP.val [(.slice A list.length c)] (list : List Amplifier))] w) (fun w H => H.let [true] [] [] [1, 2]) ?_
            have hS : Mem ⟨w0, []⟩ S [⟨b', 88, [(.int .i64 e.After), (.int .i64 e.Gain), (.int .i64 e.Output), (.int .i64 e.Noise)]⟩] [] [] [(false, MP.cells ⟨p2, o2, none⟩ [(.int .i64 e2.After), (.int .i64 e2.Gain), (.int .i64 e2.Output), (.int .i64 e2.Noise)]), (false, MP.cells ⟨p, o, none⟩ [(.int .i64 e.After), (.int .i64 e.Gain), (.int .i64 e.Output), (.int .i64 e.Noise)]), (false, MP.val [(.slice A list.length c)] (list : List Amplifier))] w := H.let [true] [] [] [0, 1, 2]
            refine tkSg (i := 20) (bs' := [true, true, true, true, true, true, true, true, true, true, true, true, true, true, true, true, true, true, true, true, true, false, false, false, false, false]) [] rfl rfl rfl rfl rfl (by decide) hf (by kernel_rfl) (by kernel_rfl) hS (fun w H => rq_loadI hf H TF.ls3 0 0 rfl rfl rfl) rfl fun a hf => ?_
            refine tkPg (i := 21) (bs' := [true, true, true, true, true, true, true, true, true, true, true, true, true, true, true, true, true, true, true, true, true, true, false, false, false, false]) rfl rfl rfl rfl rfl (by decide) hf (by kernel_rfl) (fun _ => hS) (fun w => pOp_ok (tb := tab) tabOk hf rfl) rfl fun a hf => ?_
            refine tkSg (i := 22) (bs' := [true, true, true, true, true, true, true, true, true, true, true, true, true, true, true, true, true, true, true, true, true, true, true, false, false, false]) [] rfl rfl rfl rfl rfl (by decide) hf (by kernel_rfl) (by kernel_rfl) hS (fun w H => rq_loadB hf H TF.ls3 0 rfl rfl rfl) rfl fun a hf => ?_
            refine tkPg (i := 23) (bs' := [true, true, true, true, true, true, true, true, true, true, true, true, true, true, true, true, true, true, true, true, true, true, true, true, false, false]) rfl rfl rfl rfl rfl (by decide) hf (by kernel_rfl) (fun _ => hS) (fun w => pOp_ok (tb := tab) tabOk hf rfl) rfl fun a hf => ?_
            refine tkPg (i := 24) (bs' := [true, true, true, true, true, true, true, true, true, true, true, true, true, true, true, true, true, true, true, true, true, true, true, true, true, false]) rfl rfl rfl rfl rfl (by decide) hf (by kernel_rfl) (fun _ => hS) (fun w => pOp_ok (tb := tab) tabOk hf rfl) rfl fun a hf => ?_
            refine tkP (i := 25) (bs' := [true, true, true, true, true, true, true, true, true, true, true, true, true, true, true, true, true, true, true, true, true, true, true, true, true, true]) rfl rfl rfl (by decide) hf (by kernel_rfl) (fun _ => hS) (fun w => pOp_ok (tb := tab) tabOk hf rfl) rfl fun a hf => ?_
            refine dn (by kernel_rfl) ?_
            refine then_n ?_
            refine (Bool.eq_false_or_eq_true (decide (e2.After ≥ e.After))).elim (fun hc5 => ?_) (fun hc5 => ?_)
            · rw [if_pos hc5] at hR1
              refine cd_t hf rfl hc5 ?_
              refine sq ?_
              refine reg ?_
              refine pRun_ok (tb := tab) (n := 41) tabOk 1 _ _ hf rfl rfl fun a hf => ?_
              have hf := hf.prune [4] rfl
              refine wl_end ?_
              refine then_n ?_
              refine wp_ret (blk_r (then_r (then_r (blk_r (then_r (then_r (?_)))))))
              obtain rfl := Option.some.inj hR1
              replace hF := on_ret hF
              obtain rfl := Option.some.inj hF
              refine ret_1 (fn := Try.f121) (r := .tmp 4) hf rfl (rv_tmp hf rfl) ?_
              exact ⟨_, rfl, H.bel, mk_bool⟩
            · rw [if_neg (nt hc5)] at hR1
              refine cd_f hf rfl hc5 ?_
              refine wp_skip ?_
              refine blk_n ?_
              refine then_n ?_
              refine reg ?_
              refine pRun_ok (tb := tab) (n := 41) tabOk 2 _ _ hf rfl rfl fun a hf => ?_
              have hf := hf.prune [0, 1, 7, 8, 9, 18, 19, 20, 21, 22, 23, 26, 27, 28, 29, 30, 31, 32, 33, 34, 35, 36, 37, 38] rfl
              refine wl_end ?_
              have hf := hf.prune [0, 1, 7, 8, 9] rfl
              have H := H.let [false] [] [] [2]
              exact then_n ⟨w64 (i + 1), hR1, hf, H⟩
          · rw [if_neg (nt hc4)] at hR1
            have hf := hf.lit 28 rfl hc4
            refine tkU (i := 15) (bs' := [true, true, true, true, true, true, true, true, true, true, true, true, true, true, true, true, false, false, false, false, false, false, false, false, false, false]) rfl rfl rfl rfl rfl rfl (by decide) hf (by kernel_rfl) (fun _ => hS) rfl fun a hf => ?_
            refine tkU (i := 16) (bs' := [true, true, true, true, true, true, true, true, true, true, true, true, true, true, true, true, true, false, false, false, false, false, false, false, false, false]) rfl rfl rfl rfl rfl rfl (by decide) hf (by kernel_rfl) (fun _ => hS) rfl fun a hf => ?_
            refine tkU (i := 17) (bs' := [true, true, true, true, true, true, true, true, true, true, true, true, true, true, true, true, true, true, false, false, false, false, false, false, false, false]) rfl rfl rfl rfl rfl rfl (by decide) hf (by kernel_rfl) (fun _ => hS) rfl fun a hf => ?_
            refine tkU (i := 18) (bs' := [true, true, true, true, true, true, true, true, true, true, true, true, true, true, true, true, true, true, true, false, false, false, false, false, false, false]) rfl rfl rfl rfl rfl rfl (by decide) hf (by kernel_rfl) (fun _ => hS) rfl fun a hf => ?_
            refine tkU (i := 19) (bs' := [true, true, true, true, true, true, true, true, true, true, true, true, true, true, true, true, true, true, true, true, false, false, false, false, false, false]) rfl rfl rfl rfl rfl rfl (by decide) hf (by kernel_rfl) (fun _ => hS) rfl fun a hf => ?_
            refine tkU (i := 20) (bs' := [true, true, true, true, true, true, true, true, true, true, true, true, true, true, true, true, true, true, true, true, true, false, false, false, false, false]) rfl rfl rfl rfl rfl rfl (by decide) hf (by kernel_rfl) (fun _ => hS) rfl fun a hf => ?_
            refine tkU (i := 21) (bs' := [true, true, true, true, true, true, true, true, true, true, true, true, true, true, true, true, true, true, true, true, true, true, false, false, false, false]) rfl rfl rfl rfl rfl rfl (by decide) hf (by kernel_rfl) (fun _ => hS) rfl fun a hf => ?_
            refine tkU (i := 22) (bs' := [true, true, true, true, true, true, true, true, true, true, true, true, true, true, true, true, true, true, true, true, true, true, true, false, false, false]) rfl rfl rfl rfl rfl rfl (by decide) hf (by kernel_rfl) (fun _ => hS) rfl fun a hf => ?_
            refine tkU (i := 23) (bs' := [true, true, true, true, true, true, true, true, true, true, true, true, true, true, true, true, true, true, true, true, true, true, true, true, false, false]) rfl rfl rfl rfl rfl rfl (by decide) hf (by kernel_rfl) (fun _ => hS) rfl fun a hf => ?_
            refine tkPg (i := 24) (bs' := [true, true, true, true, true, true, true, true, true, true, true, true, true, true, true, true, true, true, true, true, true, true, true, true, true, false]) rfl rfl rfl rfl rfl (by decide) hf (by kernel_rfl) (fun _ => hS) (fun w => pOp_ok (tb := tab) tabOk hf rfl) rfl fun a hf => ?_
            refine tkP (i := 25) (bs' := [true, true, true, true, true, true, true, true, true, true, true, true, true, true, true, true, true, true, true, true, true, true, true, true, true, true]) rfl rfl rfl (by decide) hf (by kernel_rfl) (fun _ => hS) (fun w => pOp_ok (tb := tab) tabOk hf rfl) rfl fun a hf => ?_
            refine dn (by kernel_rfl) ?_
            have hf := hf.prune [0, 1, 7, 8, 9, 18, 19, 20, 21, 22, 23, 26, 27, 28, 38, 39] rfl
            refine then_n ?_
            refine cd_f hf rfl rfl ?_
            refine wp_skip ?_
            refine blk_n ?_
            refine then_n ?_
            refine reg ?_
            refine pRun_ok (tb := tab) (n := 41) tabOk 2 _ _ hf rfl rfl fun a hf => ?_
            refine wl_end ?_
            have hf := hf.prune [0, 1, 7, 8, 9] rfl
            have H := H.let [false] [] [] [1]
            exact then_n ⟨w64 (i + 1), hR1, hf, H⟩
    · rw [if_neg (nt hc)] at hR1
      refine cd_f hf rfl hc ?_
      refine wp_exit (then_x (then_x (blk_e (?_))))
      have hf := hf.prune [0, 1, 7, 8, 9] rfl
      have H := H.let [] [] [] [0]
      exact ⟨i, (Option.some.inj hR1).symm, hf, H⟩
  rintro a w ⟨i2, rfl, hf, H⟩
  replace hF := on_next hF
  refine then_n ?_
  refine sq ?_
  refine reg ?_
  refine pRun_ok (tb := tab) (n := 41) tabOk 1 _ _ hf rfl rfl fun a hf => ?_
  refine wl_end ?_
  refine then_n ?_
  refine wp_ret (?_)
  obtain rfl := Option.some.inj hF
  refine ret_1 (fn := Try.f121) (r := .tmp 4) hf rfl (rv_tmp hf rfl) ?_
  exact ⟨_, rfl, H.bel, mk_bool⟩

/- loop.example/g00897/impl.lossOf -/
set_option maxHeartbeats 1000000 in
theorem impl_lossOf_ok {fu : Nat} {w0 : World} {S : Nat → Prop} {v0_ : Value} {s' : Span} {r : Int} (h0 : VR w0 S v0_ s') (hF : impl_lossOf fu s' = some r) :
    Calls Try.prog 102 [v0_].toArray w0 fun e w' => ∃ v, e = .returned v ∧ (Below w0.heap.size w0 w' ∧ VR w' (St ⟨w0, []⟩ S [] [] [] true) v r) := by
  obtain rfl := Span_open h0
  have H := Mem.start ⟨w0, []⟩ S
  refine enter Try.func102 rfl rfl (nle rfl) rfl fun a hf => ?_
  rw [impl_lossOf] at hF
  refine sq ?_
  refine reg ?_
  refine wl0 rfl (op_box hf H rfl rfl (by decide) fun b' a w hf H => ?_)
  refine pRun_ok (tb := tab) (n := 14) tabOk 1 _ _ hf rfl rfl fun a hf => ?_
  refine wl_end ?_
  refine then_n ?_
  refine sq ?_
  refine reg ?_
  refine pRun_ok (tb := tab) (n := 14) tabOk 1 _ _ hf rfl rfl fun a hf => ?_
  refine wl0 rfl (op_q hf (rq_loadB hf H TF.ls3 0 rfl rfl rfl) rfl (by decide) fun a hf => ?_)
  refine pRun_ok (tb := tab) (n := 14) tabOk 1 _ _ hf rfl rfl fun a hf => ?_
  refine wl0 rfl (op_q hf (rq_loadB hf H TF.ls3 0 rfl rfl rfl) rfl (by decide) fun a hf => ?_)
  refine pRun_ok (tb := tab) (n := 14) tabOk 2 _ _ hf rfl rfl fun a hf => ?_
  obtain ⟨q, hq, hF⟩ := bind_some hF
  refine wl0 rfl (op_q hf (rq_quo hf rfl rfl hq) rfl (by decide) fun a hf => ?_)
  refine pRun_ok (tb := tab) (n := 14) tabOk 1 _ _ hf rfl rfl fun a hf => ?_
  refine wl0 rfl (op_q hf (rq_loadB hf H TF.ls3 0 rfl rfl rfl) rfl (by decide) fun a hf => ?_)
  refine pRun_ok (tb := tab) (n := 14) tabOk 3 _ _ hf rfl rfl fun a hf => ?_
  have hf := hf.prune [2] rfl
  refine wl_end ?_
  refine then_n ?_
  refine wp_ret (?_)
  obtain rfl := Option.some.inj hF
  refine ret_1 (fn := Try.f102) (r := .tmp 2) hf rfl (rv_tmp hf rfl) ?_
  exact ⟨_, rfl, H.bel, mk_int⟩

/- loop.example/g00897/impl.amplified -/
set_option maxHeartbeats 1000000 in
theorem impl_amplified_ok {fu : Nat} {w0 : World} {S : Nat → Prop} {v0_ : Value} {v1_ : Value} {level : Int} {a' : Amplifier} {r : Int} (h0 : VR w0 S v0_ level) (h1 : VR w0 S v1_ a') (hF : impl_amplified fu level a' = some r) :
    Calls Try.prog 143 [v0_, v1_].toArray w0 fun e w' => ∃ v, e = .returned v ∧ (Below w0.heap.size w0 w' ∧ VR w' (St ⟨w0, []⟩ S [] [] [] true) v r) := by
  obtain rfl := VR_int h0
  obtain rfl := Amplifier_open h1
  have H := Mem.start ⟨w0, []⟩ S
  refine enter Try.func143 rfl rfl (nle rfl) rfl fun a hf => ?_
  rw [impl_amplified] at hF
  refine sq ?_
  refine reg ?_
  refine wl0 rfl (op_box hf H rfl rfl (by decide) fun b' a w hf H => ?_)
  refine pRun_ok (tb := tab) (n := 14) tabOk 1 _ _ hf rfl rfl fun a hf => ?_
  refine wl_end ?_
  refine then_n ?_
  refine sq ?_
  refine reg ?_
  refine pRun_ok (tb := tab) (n := 14) tabOk 3 _ _ hf rfl rfl fun a hf => ?_
  refine wl0 rfl (op_q hf (rq_loadB hf H TF.ls3 0 rfl rfl rfl) rfl (by decide) fun a hf => ?_)
  refine pRun_ok (tb := tab) (n := 14) tabOk 2 _ _ hf rfl rfl fun a hf => ?_
  refine wl0 rfl (op_q hf (rq_loadB hf H TF.ls3 0 rfl rfl rfl) rfl (by decide) fun a hf => ?_)
  refine pRun_ok (tb := tab) (n := 14) tabOk 3 _ _ hf rfl rfl fun a hf => ?_
  refine wl_end ?_
  refine then_n ?_
  refine wp_ret (?_)
  obtain rfl := Option.some.inj hF
  refine ret_1 (fn := Try.f143) (r := .tmp 4) hf rfl (rv_tmp hf rfl) ?_
  exact ⟨_, rfl, H.bel, mk_int⟩

/- loop.example/g00897/impl.profile -/
set_option maxHeartbeats 1000000 in
theorem impl_profile_ok {fu : Nat} {w0 : World} {S : Nat → Prop} {v0_ : Value} {v1_ : Value} {v2_ : Value} {line : List Span} {list : List Amplifier} {launch : Int} {r : List Int × List Int × Bool} (h0 : VR w0 S v0_ line) (h1 : VR w0 S v1_ list) (h2 : VR w0 S v2_ launch) (hF : impl_profile fu line list launch = some r) :
    Calls Try.prog 146 [v0_, v1_, v2_].toArray w0 fun e w' => ∃ v, e = .returned v ∧ (Below w0.heap.size w0 w' ∧ ∃ F0 F1, ∃ u0 u1 u2, v = .tuple #[u0, u1, u2] ∧ VO w' F0 u0 r.1 ∧ VO w' F1 u1 r.2.1 ∧ VR w' (St ⟨w0, []⟩ S [] [] [] true) u2 r.2.2 ∧ New w0 w' (F0 ++ F1)) := by
  obtain ⟨A, c, rfl, hl⟩ := VR_list h0
  obtain ⟨A2, c2, rfl, hl2⟩ := VR_list h1
  obtain rfl := VR_int h2
  have H := Mem.start ⟨w0, []⟩ S
  have H := H.pushArg (MP.val [(.slice A line.length c)] line) hl
  have H := H.pushArg (MP.val [(.slice A2 list.length c2)] list) hl2
  refine enter Try.func146 rfl rfl (nle rfl) rfl fun a hf => ?_
  rw [impl_profile] at hF
  refine sq ?_
  refine reg ?_
  refine pRun_ok (tb := tab) (n := 73) tabOk 3 _ _ hf rfl rfl fun a hf => ?_
  refine wl_end ?_
  refine then_n ?_
  refine sq ?_
  refine sq ?_
  obtain ⟨c3, hGc3, hF⟩ := bind_some hF
  refine mid (fun a w => Fr a 73 [(0, (.slice A line.length c)), (1, (.slice A2 list.length c2)), (2, (.int .i64 launch)), (30, (.bool c3))] ∧ Mem ⟨w0, []⟩ S [] [] [] [(false, MP.val [(.slice A2 list.length c2)] (list : List Amplifier)), (false, MP.val [(.slice A line.length c)] (line : List Span))] w) ?_ ?_
  · refine reg ?_
    refine pRun_ok (tb := tab) (n := 73) tabOk 1 _ _ hf rfl rfl fun a hf => ?_
    obtain ⟨y, hy, hGc3⟩ := bind_some hGc3
    refine wl0 rfl (op_call hf TF.cl141 rfl (by decide) (impl_isLine_ok (S := fun _ => True) (mk_list (rep_true (α := List Span) (H.get 1 rfl))) hy) fun v w a hp hf => ?_)
    obtain ⟨hb, hp⟩ := hp
    obtain rfl := VR_bool hp
    have H := H.keep hb
    refine pRun_ok (tb := tab) (n := 73) tabOk 2 _ _ hf rfl rfl fun a hf => ?_
    refine (Bool.eq_false_or_eq_true (!y)).elim (fun hc => ?_) (fun hc => ?_)
    · rw [if_pos hc] at hGc3
      have hf := hf.lit 19 rfl hc
      refine pRun_ok (tb := tab) (n := 73) tabOk 11 _ _ hf rfl rfl fun a hf => ?_
      obtain rfl := Option.some.inj hGc3
      have hf := hf.prune [0, 1, 2, 30] rfl
      have H := H.let [] [] [] [0, 1]
      exact wl_end ⟨hf, H⟩
    · rw [if_neg (nt hc)] at hGc3
      have hf := hf.lit 19 rfl hc
      refine pRun_ok (tb := tab) (n := 73) tabOk 3 _ _ hf rfl rfl fun a hf => ?_
      obtain ⟨y2, hy2, hGc3⟩ := bind_some hGc3
      refine wlg hf rfl rfl rfl (op_call hf TF.cl121 rfl (by decide) (impl_areAmplifiers_ok (S := fun _ => True) (mk_list (rep_true (α := List Amplifier) (H.get 0 rfl))) mk_int hy2) fun v2 w a hp2 hf => ?_)
      obtain ⟨hb2, hp2⟩ := hp2
      obtain rfl := VR_bool hp2
      have H := H.keep hb2
      refine pRun_ok (tb := tab) (n := 73) tabOk 3 _ _ hf rfl rfl fun a hf => ?_
      refine (Bool.eq_false_or_eq_true (!y2)).elim (fun hc2 => ?_) (fun hc2 => ?_)
      · rw [if_pos hc2] at hGc3
        have hf := hf.lit 26 rfl hc2
        refine pRun_ok (tb := tab) (n := 73) tabOk 4 _ _ hf rfl rfl fun a hf => ?_
        obtain rfl := Option.some.inj hGc3
        have hf := hf.prune [0, 1, 2, 30] rfl
        have H := H.let [] [] [] [0, 1]
        exact wl_end ⟨hf, H⟩
      · rw [if_neg (nt hc2)] at hGc3
        have hf := hf.lit 26 rfl hc2
        refine pRun_ok (tb := tab) (n := 73) tabOk 1 _ _ hf rfl rfl fun a hf => ?_
        obtain ⟨y3, hy3, hGc3⟩ := bind_some hGc3
        refine wlg hf rfl rfl rfl (op_call hf TF.cl107 rfl (by decide) (impl_isLevel_ok (S := fun _ => True) mk_int hy3) fun v3 w a hp3 hf => ?_)
        obtain ⟨hb3, hp3⟩ := hp3
        obtain rfl := VR_bool hp3
        have H := H.keep hb3
        refine pRun_ok (tb := tab) (n := 73) tabOk 2 _ _ hf rfl rfl fun a hf => ?_
        obtain rfl := Option.some.inj hGc3
        have hf := hf.prune [0, 1, 2, 30] rfl
        have H := H.let [] [] [] [0, 1]
        exact wl_end ⟨hf, H⟩
  rintro a w ⟨hf, H⟩
  refine then_n ?_
  refine (Bool.eq_false_or_eq_true (c3)).elim (fun hc3 => ?_) (fun hc3 => ?_)
  · rw [if_pos hc3] at hF
    refine cd_t hf rfl hc3 ?_
    refine sq ?_
    refine reg ?_
    refine pRun_ok (tb := tab) (n := 73) tabOk 3 _ _ hf rfl rfl fun a hf => ?_
    refine wl_end ?_
    refine then_n ?_
    refine wp_ret (then_r (?_))
    have H := H.ownNil (Int)
    have H := H.lend 0 rfl
    have H := H.ownNil (Int)
    have H := H.lend 0 rfl
    have H := H.frontD 1 rfl
    obtain rfl := Option.some.inj hF
    refine ret_3 (fn := Try.f146) (r := .tmp 6) (s := .tmp 7) (t := .tmp 8) hf rfl (rv_tmp hf rfl) (rv_tmp hf rfl) (rv_tmp hf rfl) ?_
    have hN : New w0 w ([] ++ []) := by simpa using H.ends (X := [(⟨[], MP.own [] [(.slice none 0 0)] ([] : List Int)⟩ : DI), (⟨[], MP.own [] [(.slice none 0 0)] ([] : List Int)⟩ : DI)])
    exact ⟨_, rfl, H.bel, [], [], _, _, _, rfl, (mko_list (H.ownAt 0 rfl)), (mko_list (H.ownAt 1 rfl)), mk_bool, hN⟩
  · rw [if_neg (nt hc3)] at hF
    refine cd_f hf rfl hc3 ?_
    refine wp_skip ?_
    refine then_n ?_
    refine sq ?_
    refine reg ?_
    refine wl0 rfl (op_bslice hf H (.sh true) rfl 3 ([] : List Int) [] rfl (fun w => by kernel_rfl) rfl (by decide) rfl trivial el0 (by decide) fun A3 a w hf H => ?_)
    refine wl0 rfl (op_bslice hf H (.sh true) rfl 3 ([] : List Int) [] rfl (fun w => by kernel_rfl) rfl (by decide) rfl trivial el0 (by decide) fun A4 a w hf H => ?_)
    refine pRun_ok (tb := tab) (n := 73) tabOk 4 _ _ hf rfl rfl fun a hf => ?_
    refine wl_end ?_
    refine then_n ?_
    refine sq ?_
    refine sq ?_
    refine reg ?_
    refine pRun_ok (tb := tab) (n := 73) tabOk 3 _ _ hf rfl rfl fun a hf => ?_
    refine wl_end ?_
    refine then_n ?_
    obtain ⟨out', hB1, hF⟩ := bind_some hF
    have hf := hf.prune [1, 9, 10, 11, 34, 35, 36] rfl
    have H := H.let [] [true, true] [] [0, 1]
    have hI : (fun (s : List Int × List Int × Int × Int) (a : Act) (w : World) => match s with | (before, after, level, i) => ∃ (A5 : Option Addr) (c4 : Nat) (A6 : Option Addr) (c5 : Nat), Fr a 73 [(1, (.slice A2 list.length c2)), (9, (.slice A5 before.length c4)), (10, (.slice A6 after.length c5)), (11, (.int .i64 level)), (34, (.slice A line.length c)), (35, (.int .i64 (line.length : Int))), (36, (.int .i64 i))] ∧ Mem ⟨w0, []⟩ S [] [⟨.sh true, 3, A6, c5, (after : List Int)⟩, ⟨.sh true, 3, A5, c4, (before : List Int)⟩] [] [(false, MP.val [(.slice A2 list.length c2)] (list : List Amplifier)), (false, MP.val [(.slice A line.length c)] (line : List Span))] w) (([] : List Int), ([] : List Int), launch, 0) a w := ⟨A3, 0, A4, 0, hf, H⟩
    refine mid (fun a w => ∃ s : List Int × List Int × Int × Int, out' = Out.next s ∧ (fun (s : List Int × List Int × Int × Int) (a : Act) (w : World) => match s with | (before, after, level, i) => ∃ (A5 : Option Addr) (c4 : Nat) (A6 : Option Addr) (c5 : Nat), Fr a 73 [(1, (.slice A2 list.length c2)), (9, (.slice A5 before.length c4)), (10, (.slice A6 after.length c5)), (11, (.int .i64 level)), (34, (.slice A line.length c)), (35, (.int .i64 (line.length : Int))), (36, (.int .i64 i))] ∧ Mem ⟨w0, []⟩ S [] [⟨.sh true, 3, A6, c5, (after : List Int)⟩, ⟨.sh true, 3, A5, c4, (before : List Int)⟩] [] [(false, MP.val [(.slice A2 list.length c2)] (list : List Amplifier)), (false, MP.val [(.slice A line.length c)] (line : List Span))] w) s a w) ?_ ?_
    · refine wp_block ?_
      refine loop_rule (fun k (s : List Int × List Int × Int × Int) => impl_profile_L1 fu line list k s.1 s.2.1 s.2.2.1 s.2.2.2 = some out') (fun (s : List Int × List Int × Int × Int) (a : Act) (w : World) => match s with | (before, after, level, i) => ∃ (A5 : Option Addr) (c4 : Nat) (A6 : Option Addr) (c5 : Nat), Fr a 73 [(1, (.slice A2 list.length c2)), (9, (.slice A5 before.length c4)), (10, (.slice A6 after.length c5)), (11, (.int .i64 level)), (34, (.slice A line.length c)), (35, (.int .i64 (line.length : Int))), (36, (.int .i64 i))] ∧ Mem ⟨w0, []⟩ S [] [⟨.sh true, 3, A6, c5, (after : List Int)⟩, ⟨.sh true, 3, A5, c4, (before : List Int)⟩] [] [(false, MP.val [(.slice A2 list.length c2)] (list : List Amplifier)), (false, MP.val [(.slice A line.length c)] (line : List Span))] w) (fun s h => by cases h) ?_ fu (([] : List Int), ([] : List Int), launch, 0) a w hB1 hI
      rintro fk ⟨before, after, level, i⟩ a w hR1 hI
      replace hR1 : impl_profile_L1 fu line list (fk + 1) before after level i = some out' := hR1
      rw [impl_profile_L1] at hR1
      obtain ⟨A5, c4, A6, c5, hf, H⟩ := hI
      refine sq ?_
      refine reg ?_
      refine pRun_ok (tb := tab) (n := 73) tabOk 1 _ _ hf rfl rfl fun a hf => ?_
      refine wl_end ?_
      refine then_n ?_
      refine sq ?_
      refine (Bool.eq_false_or_eq_true (decide (i < (line.length : Int)))).elim (fun hc4 => ?_) (fun hc4 => ?_)
      · rw [if_pos hc4] at hR1
        refine cd_t hf rfl hc4 ?_
        refine wp_skip ?_
        refine then_n ?_
        refine sq ?_
        refine wp_block ?_
        refine sq ?_
        refine reg ?_
        refine pRun_ok (tb := tab) (n := 73) tabOk 1 _ _ hf rfl rfl fun a hf => ?_
        obtain ⟨e, he, hR1⟩ := bind_some hR1
        refine wl0 rfl (op_iaddr hf H Try.underlying96 TF.sz28 1 rfl rfl rfl he (by decide) fun p o cs a hf hr H => ?_)
        obtain rfl := Span_cells hr
        refine wl0 rfl (op_q hf (rq_loadIN hf H TF.la28 0 0 rfl rfl rfl rfl) rfl (by decide) fun a hf => ?_)
        refine wl0 rfl (op_alloc hf H TF.zv28 rfl (by decide) fun b' a w hf H => ?_)
        refine pRun_ok (tb := tab) (n := 73) tabOk 1 _ _ hf rfl rfl fun a hf => ?_
        refine wl0 rfl (op_storeB hf H 0 TF.sz28 rfl rfl rfl rfl rfl rfl (nle rfl) fun w H => ?_)
        refine wl_end ?_
        refine then_n ?_
        refine sq ?_
        refine reg ?_
        refine pRun_ok (tb := tab) (n := 73) tabOk 1 _ _ hf rfl rfl fun a hf => ?_
        refine wl0 rfl (op_q hf (rq_loadBN hf H TF.la28 0 rfl rfl rfl rfl) rfl (by decide) fun a hf => ?_)
        obtain ⟨y4, hy4, hR1⟩ := bind_some hR1
        refine wl0 rfl (op_call hf TF.cl102 rfl (by decide) (impl_lossOf_ok (S := fun _ => True) Span_mkv hy4) fun v4 w a hp4 hf => ?_)
        obtain ⟨hb4, hp4⟩ := hp4
        obtain rfl := VR_int hp4
        have H := H.keep hb4
        refine pRun_ok (tb := tab) (n := 73) tabOk 2 _ _ hf rfl rfl fun a hf => ?_
        refine wl_end ?_
        refine then_n ?_
        refine sq ?_
        refine sq ?_
        refine reg ?_
        refine pRun_ok (tb := tab) (n := 73) tabOk 1 _ _ hf rfl rfl fun a hf => ?_
        obtain ⟨y5, hy5, hR1⟩ := bind_some hR1
        refine wl0 rfl (op_call hf TF.cl107 rfl (by decide) (impl_isLevel_ok (S := fun _ => True) mk_int hy5) fun v5 w a hp5 hf => ?_)
        obtain ⟨hb5, hp5⟩ := hp5
        obtain rfl := VR_bool hp5
        have H := H.keep hb5
        refine pRun_ok (tb := tab) (n := 73) tabOk 1 _ _ hf rfl rfl fun a hf => ?_
        refine wl_end ?_
        refine then_n ?_
        refine (Bool.eq_false_or_eq_true (!y5)).elim (fun hc5 => ?_) (fun hc5 => ?_)
        · rw [if_pos hc5] at hR1
          refine cd_t hf rfl hc5 ?_
          refine sq ?_
          refine reg ?_
          refine pRun_ok (tb := tab) (n := 73) tabOk 3 _ _ hf rfl rfl fun a hf => ?_
          have hf := hf.prune [6, 7, 8] rfl
          refine wl_end ?_
          refine then_n ?_
          refine wp_ret (then_r (blk_r (then_r (then_r (blk_r (then_r (then_r (?_))))))))
          have H := H.ownNil (Int)
          have H := H.lend 0 rfl
          have H := H.ownNil (Int)
          have H := H.lend 0 rfl
          have H := H.frontD 1 rfl
          obtain rfl := Option.some.inj hR1
          replace hF := on_ret hF
          obtain rfl := Option.some.inj hF
          refine ret_3 (fn := Try.f146) (r := .tmp 6) (s := .tmp 7) (t := .tmp 8) hf rfl (rv_tmp hf rfl) (rv_tmp hf rfl) (rv_tmp hf rfl) ?_
          have hN : New w0 w ([] ++ []) := by simpa using H.ends (X := [(⟨[], MP.own [] [(.slice none 0 0)] ([] : List Int)⟩ : DI), (⟨[], MP.own [] [(.slice none 0 0)] ([] : List Int)⟩ : DI)])
          exact ⟨_, rfl, H.bel, [], [], _, _, _, rfl, (mko_list (H.ownAt 0 rfl)), (mko_list (H.ownAt 1 rfl)), mk_bool, hN⟩
        · rw [if_neg (nt hc5)] at hR1
          refine cd_f hf rfl hc5 ?_
          refine wp_skip ?_
          refine then_n ?_
          refine sq ?_
          refine reg ?_
          refine pRun_ok (tb := tab) (n := 73) tabOk 2 _ _ hf rfl rfl fun a hf => ?_
          refine wl0 rfl (op_bslice hf H (.sh true) rfl 3 ([w64 (level - y4)] : List Int) [(.int .i64 (w64 (level - y4)))] rfl (fun w => by kernel_rfl) rfl (by decide) rfl trivial (el1 (y := w64 (level - y4)) rfl) (by decide) fun A7 a w hf H => ?_)
          obtain ⟨l, hl, hR1⟩ := bind_some hR1
          refine wl0 rfl (op_appR hf H Try.underlying35 TF.ai3 rfl (by decide) 2 0 rfl rfl rfl rfl (.inr rfl) hl (by decide) fun A8 c6 a w hf H => ?_)
          refine pRun_ok (tb := tab) (n := 73) tabOk 1 _ _ hf rfl rfl fun a hf => ?_
          have hf := hf.prune [1, 9, 10, 11, 12, 34, 35, 36] rfl
          refine wl_end ?_
          refine then_n ?_
          refine sq ?_
          refine sq ?_
          refine reg ?_
          refine pRun_ok (tb := tab) (n := 73) tabOk 3 _ _ hf rfl rfl fun a hf => ?_
          refine wl_end ?_
          refine then_n ?_
          obtain ⟨out2, hB2, hR1⟩ := bind_some hR1
          have hf := hf.prune [1, 9, 10, 11, 12, 34, 35, 36, 52, 53, 54] rfl
          have H := H.let [false] [false, true, true] [] [1, 2]
          have hI : (fun (s : Int × Int) (a : Act) (w : World) => match s with | (level2, i2) => Fr a 73 [(1, (.slice A2 list.length c2)), (9, (.slice A8 l.length c6)), (10, (.slice A6 after.length c5)), (11, (.int .i64 level2)), (12, (.int .i64 i)), (34, (.slice A line.length c)), (35, (.int .i64 (line.length : Int))), (36, (.int .i64 i)), (52, (.slice A2 list.length c2)), (53, (.int .i64 (list.length : Int))), (54, (.int .i64 i2))] ∧ Mem ⟨w0, []⟩ S [] [⟨.sh true, 3, A6, c5, (after : List Int)⟩, ⟨.sh true, 3, A8, c6, (l : List Int)⟩] [] [(false, MP.val [(.slice A2 list.length c2)] (list : List Amplifier)), (false, MP.val [(.slice A line.length c)] (line : List Span))] w) (w64 (level - y4), 0) a w := ⟨hf, H⟩
          refine mid (fun a w => ∃ s : Int × Int, out2 = s ∧ (fun (s : Int × Int) (a : Act) (w : World) => match s with | (level2, i2) => Fr a 73 [(1, (.slice A2 list.length c2)), (9, (.slice A8 l.length c6)), (10, (.slice A6 after.length c5)), (11, (.int .i64 level2)), (12, (.int .i64 i)), (34, (.slice A line.length c)), (35, (.int .i64 (line.length : Int))), (36, (.int .i64 i)), (52, (.slice A2 list.length c2)), (53, (.int .i64 (list.length : Int))), (54, (.int .i64 i2))] ∧ Mem ⟨w0, []⟩ S [] [⟨.sh true, 3, A6, c5, (after : List Int)⟩, ⟨.sh true, 3, A8, c6, (l : List Int)⟩] [] [(false, MP.val [(.slice A2 list.length c2)] (list : List Amplifier)), (false, MP.val [(.slice A line.length c)] (line : List Span))] w) s a w) ?_ ?_
          · refine wp_block ?_
            refine loop_rule (fun k (s : Int × Int) => impl_profile_L2 fu list i k s.1 s.2 = some out2) (fun (s : Int × Int) (a : Act) (w : World) => match s with | (level2, i2) => Fr a 73 [(1, (.slice A2 list.length c2)), (9, (.slice A8 l.length c6)), (10, (.slice A6 after.length c5)), (11, (.int .i64 level2)), (12, (.int .i64 i)), (34, (.slice A line.length c)), (35, (.int .i64 (line.length : Int))), (36, (.int .i64 i)), (52, (.slice A2 list.length c2)), (53, (.int .i64 (list.length : Int))), (54, (.int .i64 i2))] ∧ Mem ⟨w0, []⟩ S [] [⟨.sh true, 3, A6, c5, (after : List Int)⟩, ⟨.sh true, 3, A8, c6, (l : List Int)⟩] [] [(false, MP.val [(.slice A2 list.length c2)] (list : List Amplifier)), (false, MP.val [(.slice A line.length c)] (line : List Span))] w) (fun s h => by cases h) ?_ fu (w64 (level - y4), 0) a w hB2 hI
            rintro fk ⟨level2, i2⟩ a w hR2 hI
            replace hR2 : impl_profile_L2 fu list i (fk + 1) level2 i2 = some out2 := hR2
            rw [impl_profile_L2] at hR2
            obtain ⟨hf, H⟩ := hI
            refine sq ?_
            refine reg ?_
            refine pRun_ok (tb := tab) (n := 73) tabOk 1 _ _ hf rfl rfl fun a hf => ?_
            refine wl_end ?_
            refine then_n ?_
            refine sq ?_
            refine (Bool.eq_false_or_eq_true (decide (i2 < (list.length : Int)))).elim (fun hc6 => ?_) (fun hc6 => ?_)
            · rw [if_pos hc6] at hR2
              refine cd_t hf rfl hc6 ?_
              refine wp_skip ?_
              refine then_n ?_
              refine sq ?_
              refine wp_block ?_
              refine sq ?_
              refine reg ?_
              obtain ⟨e2, he2, hR2⟩ := bind_some hR2
              refine wl0 rfl (op_iaddr hf H Try.underlying63 TF.sz88 0 rfl rfl rfl he2 (by decide) fun p2 o2 cs2 a hf hr2 H => ?_)
              obtain rfl := Amplifier_cells hr2
              refine wl0 rfl (op_q hf (rq_loadIN hf H TF.la88 0 0 rfl rfl rfl rfl) rfl (by decide) fun a hf => ?_)
              refine wl0 rfl (op_alloc hf H TF.zv88 rfl (by decide) fun b2 a w hf H => ?_)
              refine wl0 rfl (op_storeB hf H 0 TF.sz88 rfl rfl rfl rfl rfl rfl (nle rfl) fun w H => ?_)
              refine wl_end ?_
              refine then_n ?_
              refine sq ?_
              refine reg ?_
              refine pRun_ok (tb := tab) (n := 73) tabOk 1 _ _ hf rfl rfl fun a hf => ?_
              refine wl0 rfl (op_q hf (rq_loadB hf H TF.ls3 0 rfl rfl rfl) rfl (by decide) fun a hf => ?_)
              refine pRun_ok (tb := tab) (n := 73) tabOk 2 _ _ hf rfl rfl fun a hf => ?_
              refine wl_end ?_
              refine then_n ?_
              refine (Bool.eq_false_or_eq_true (e2.After == i)).elim (fun hc7 => ?_) (fun hc7 => ?_)
              · rw [if_pos hc7] at hR2
                refine cd_t hf rfl hc7 ?_
                refine reg ?_
                refine pRun_ok (tb := tab) (n := 73) tabOk 1 _ _ hf rfl rfl fun a hf => ?_
                refine wl0 rfl (op_q hf (rq_loadBN hf H TF.la88 0 rfl rfl rfl rfl) rfl (by decide) fun a hf => ?_)
                obtain ⟨y6, hy6, hR2⟩ := bind_some hR2
                refine wl0 rfl (op_call hf TF.cl143 rfl (by decide) (impl_amplified_ok (S := fun _ => True) mk_int Amplifier_mkv hy6) fun v6 w a hp6 hf => ?_)
                obtain ⟨hb6, hp6⟩ := hp6
                obtain rfl := VR_int hp6
                have H := H.keep hb6
                refine pRun_ok (tb := tab) (n := 73) tabOk 1 _ _ hf rfl rfl fun a hf => ?_
                refine wl_end ?_
                refine blk_n ?_
                refine then_n ?_
                refine reg ?_
                refine pRun_ok (tb := tab) (n := 73) tabOk 2 _ _ hf rfl rfl fun a hf => ?_
                refine wl_end ?_
                have hf := hf.prune [1, 9, 10, 11, 12, 34, 35, 36, 52, 53, 54] rfl
                have H := H.let [false] [true, true] [] [1, 2]
                exact then_n ⟨(y6, w64 (i2 + 1)), hR2, hf, H⟩
              · rw [if_neg (nt hc7)] at hR2
                refine cd_f hf rfl hc7 ?_
                refine wp_skip ?_
                refine blk_n ?_
                refine then_n ?_
                refine reg ?_
                refine pRun_ok (tb := tab) (n := 73) tabOk 2 _ _ hf rfl rfl fun a hf => ?_
                refine wl_end ?_
                have hf := hf.prune [1, 9, 10, 11, 12, 34, 35, 36, 52, 53, 54] rfl
                have H := H.let [false] [true, true] [] [1, 2]
                exact then_n ⟨(level2, w64 (i2 + 1)), hR2, hf, H⟩
            · rw [if_neg (nt hc6)] at hR2
              refine cd_f hf rfl hc6 ?_
              refine wp_exit (then_x (then_x (blk_e (?_))))
              have hf := hf.prune [1, 9, 10, 11, 12, 34, 35, 36, 52, 53, 54] rfl
              have H := H.let [] [true, true] [] [0, 1]
              exact ⟨(level2, i2), (Option.some.inj hR2).symm, hf, H⟩
          rintro a w ⟨⟨level3, i3⟩, rfl, hf, H⟩
          dsimp only at hR1
          refine then_n ?_
          refine reg ?_
          refine pRun_ok (tb := tab) (n := 73) tabOk 2 _ _ hf rfl rfl fun a hf => ?_
          refine wl0 rfl (op_bslice hf H (.sh true) rfl 3 ([level3] : List Int) [(.int .i64 level3)] rfl (fun w => by kernel_rfl) rfl (by decide) rfl trivial (el1 (y := level3) rfl) (by decide) fun A9 a w hf H => ?_)
          obtain ⟨l2, hl2, hR1⟩ := bind_some hR1
          refine wl0 rfl (op_appR hf H Try.underlying35 TF.ai3 rfl (by decide) 1 0 rfl rfl rfl rfl (.inr rfl) hl2 (by decide) fun A10 c7 a w hf H => ?_)
          refine pRun_ok (tb := tab) (n := 73) tabOk 1 _ _ hf rfl rfl fun a hf => ?_
          refine wl_end ?_
          refine blk_n ?_
          refine then_n ?_
          refine reg ?_
          refine pRun_ok (tb := tab) (n := 73) tabOk 2 _ _ hf rfl rfl fun a hf => ?_
          refine wl_end ?_
          have hf := hf.prune [1, 9, 10, 11, 34, 35, 36] rfl
          have H := H.let [] [false, true, true] [] [0, 1]
          exact then_n ⟨(l, l2, level3, w64 (i + 1)), hR1, A8, c6, A10, c7, hf, H⟩
      · rw [if_neg (nt hc4)] at hR1
        refine cd_f hf rfl hc4 ?_
        refine wp_exit (then_x (then_x (blk_e (?_))))
        have hf := hf.prune [1, 9, 10, 11, 34, 35, 36] rfl
        have H := H.let [] [true, true] [] [0, 1]
        exact ⟨(before, after, level, i), (Option.some.inj hR1).symm, A5, c4, A6, c5, hf, H⟩
    rintro a w ⟨⟨before2, after2, level4, i4⟩, rfl, A11, c8, A12, c9, hf, H⟩
    replace hF := on_next hF
    dsimp only at hF
    refine then_n ?_
    refine sq ?_
    refine reg ?_
    refine pRun_ok (tb := tab) (n := 73) tabOk 5 _ _ hf rfl rfl fun a hf => ?_
    refine wl_end ?_
    refine then_n ?_
    refine wp_ret (?_)
    have H := H.rowOwn 1 rfl rfl
    obtain ⟨F, H⟩ := H.freezeOwn 1 rfl
    have H := H.lend 0 rfl
    have H := H.rowOwn 0 rfl rfl
    obtain ⟨F2, H⟩ := H.freezeOwn 0 rfl
    have H := H.lend 0 rfl
    have H := H.frontD 1 rfl
    obtain rfl := Option.some.inj hF
    refine ret_3 (fn := Try.f146) (r := .tmp 6) (s := .tmp 7) (t := .tmp 8) hf rfl (rv_tmp hf rfl) (rv_tmp hf rfl) (rv_tmp hf rfl) ?_
    have hN : New w0 w (F ++ F2) := by simpa using H.ends (X := [(⟨F, MP.own F [(.slice A11 before2.length c8)] (before2 : List Int)⟩ : DI), (⟨F2, MP.own F2 [(.slice A12 after2.length c9)] (after2 : List Int)⟩ : DI)])
    exact ⟨_, rfl, H.bel, F, F2, _, _, _, rfl, (mko_list (H.ownAt 0 rfl)), (mko_list (H.ownAt 1 rfl)), mk_bool, hN⟩

/- slices.Min[[]int,int] -/
set_option maxHeartbeats 1000000 in
theorem slices_Min_int_int_ok {fu : Nat} {w0 : World} {S : Nat → Prop} {v0_ : Value} {x1 : List Int} {r : Int} (h0 : VR w0 S v0_ x1) (hF : slices_Min_int_int fu x1 = some r) :
    Calls Try.prog 147 [v0_].toArray w0 fun e w' => ∃ v, e = .returned v ∧ (Below w0.heap.size w0 w' ∧ VR w' (St ⟨w0, []⟩ S [] [] [] true) v r) := by
  obtain ⟨A, c, rfl, hl⟩ := VR_list h0
  have H := Mem.start ⟨w0, []⟩ S
  have H := H.pushArg (MP.val [(.slice A x1.length c)] x1) hl
  refine enter Try.func147 rfl rfl (nle rfl) rfl fun a hf => ?_
  rw [slices_Min_int_int] at hF
  refine sq ?_
  refine reg ?_
  refine pRun_ok (tb := tab) (n := 25) tabOk 1 _ _ hf rfl rfl fun a hf => ?_
  refine wl_end ?_
  refine then_n ?_
  refine sq ?_
  refine sq ?_
  refine reg ?_
  refine pRun_ok (tb := tab) (n := 25) tabOk 3 _ _ hf rfl rfl fun a hf => ?_
  refine wl_end ?_
  refine then_n ?_
  refine (Bool.eq_false_or_eq_true (decide ((x1.length : Int) < 1))).elim (fun hc => ?_) (fun hc => ?_)
  · rw [if_pos hc] at hF
    refine cd_t hf rfl hc ?_
    refine reg ?_
    cases hF
  · rw [if_neg (nt hc)] at hF
    refine cd_f hf rfl hc ?_
    refine wp_skip ?_
    refine then_n ?_
    refine sq ?_
    refine reg ?_
    refine pRun_ok (tb := tab) (n := 25) tabOk 1 _ _ hf rfl rfl fun a hf => ?_
    obtain ⟨e, he, hF⟩ := bind_some hF
    refine wl0 rfl (op_iaddr hf H Try.underlying35 TF.sz3 0 rfl rfl rfl he (by decide) fun p o cs a hf hr H => ?_)
    obtain rfl := hr
    refine wl0 rfl (op_q hf (rq_loadI hf H TF.ls3 0 0 rfl rfl rfl) rfl (by decide) fun a hf => ?_)
    refine pRun_ok (tb := tab) (n := 25) tabOk 1 _ _ hf rfl rfl fun a hf => ?_
    refine wl_end ?_
    refine then_n ?_
    refine sq ?_
    refine sq ?_
    refine reg ?_
    refine pRun_ok (tb := tab) (n := 25) tabOk 1 _ _ hf rfl rfl fun a hf => ?_
    refine wl_end ?_
    refine then_n ?_
    obtain ⟨out', hB1, hF⟩ := bind_some hF
    have hf := hf.prune [0, 3, 4] rfl
    have H := H.let [] [] [] [1]
    have hI : (fun (s : Int × Int) (a : Act) (w : World) => match s with | (m, i) => Fr a 25 [(0, (.slice A x1.length c)), (3, (.int .i64 m)), (4, (.int .i64 i))] ∧ Mem ⟨w0, []⟩ S [] [] [] [(false, MP.val [(.slice A x1.length c)] (x1 : List Int))] w) (e, 1) a w0 := ⟨hf, H⟩
    refine mid (fun a w => ∃ s : Int × Int, out' = s ∧ (fun (s : Int × Int) (a : Act) (w : World) => match s with | (m, i) => Fr a 25 [(0, (.slice A x1.length c)), (3, (.int .i64 m)), (4, (.int .i64 i))] ∧ Mem ⟨w0, []⟩ S [] [] [] [(false, MP.val [(.slice A x1.length c)] (x1 : List Int))] w) s a w) ?_ ?_
    · refine wp_block ?_
      refine loop_rule (fun k (s : Int × Int) => slices_Min_int_int_L1 fu x1 k s.1 s.2 = some out') (fun (s : Int × Int) (a : Act) (w : World) => match s with | (m, i) => Fr a 25 [(0, (.slice A x1.length c)), (3, (.int .i64 m)), (4, (.int .i64 i))] ∧ Mem ⟨w0, []⟩ S [] [] [] [(false, MP.val [(.slice A x1.length c)] (x1 : List Int))] w) (fun s h => by cases h) ?_ fu (e, 1) a w0 hB1 hI
      rintro fk ⟨m, i⟩ a w hR1 hI
      replace hR1 : slices_Min_int_int_L1 fu x1 (fk + 1) m i = some out' := hR1
      rw [slices_Min_int_int_L1] at hR1
      obtain ⟨hf, H⟩ := hI
      refine sq ?_
      refine sq ?_
      refine reg ?_
      refine pRun_ok (tb := tab) (n := 25) tabOk 4 _ _ hf rfl rfl fun a hf => ?_
      refine wl_end ?_
      refine then_n ?_
      refine (Bool.eq_false_or_eq_true (decide (i < (x1.length : Int)))).elim (fun hc2 => ?_) (fun hc2 => ?_)
      · rw [if_pos hc2] at hR1
        refine cd_t hf rfl hc2 ?_
        refine wp_skip ?_
        refine then_n ?_
        refine sq ?_
        refine wp_block ?_
        refine reg ?_
        refine pRun_ok (tb := tab) (n := 25) tabOk 3 _ _ hf rfl rfl fun a hf => ?_
        obtain ⟨e2, he2, hR1⟩ := bind_some hR1
        refine wl0 rfl (op_iaddr hf H Try.underlying35 TF.sz3 0 rfl rfl rfl he2 (by decide) fun p2 o2 cs2 a hf hr2 H => ?_)
        obtain rfl := hr2
        refine wl0 rfl (op_q hf (rq_loadI hf H TF.ls3 0 0 rfl rfl rfl) rfl (by decide) fun a hf => ?_)
        refine pRun_ok (tb := tab) (n := 25) tabOk 2 _ _ hf rfl rfl fun a hf => ?_
        refine wl_end ?_
        refine blk_n ?_
        refine then_n ?_
        refine reg ?_
        refine pRun_ok (tb := tab) (n := 25) tabOk 3 _ _ hf rfl rfl fun a hf => ?_
        refine wl_end ?_
        have hf := hf.prune [0, 3, 4] rfl
        have H := H.let [] [] [] [1]
        exact then_n ⟨(gmin m e2, w64 (i + 1)), hR1, hf, H⟩
      · rw [if_neg (nt hc2)] at hR1
        refine cd_f hf rfl hc2 ?_
        refine wp_exit (then_x (then_x (blk_e (?_))))
        have hf := hf.prune [0, 3, 4] rfl
        have H := H.let [] [] [] [0]
        exact ⟨(m, i), (Option.some.inj hR1).symm, hf, H⟩
    rintro a w ⟨⟨m2, i2⟩, rfl, hf, H⟩
    dsimp only at hF
    refine then_n ?_
    refine sq ?_
    refine reg ?_
    refine pRun_ok (tb := tab) (n := 25) tabOk 2 _ _ hf rfl rfl fun a hf => ?_
    refine wl_end ?_
    refine then_n ?_
    refine wp_ret (?_)
    obtain rfl := Option.some.inj hF
    refine ret_1 (fn := Try.f147) (r := .tmp 2) hf rfl (rv_tmp hf rfl) ?_
    exact ⟨_, rfl, H.bel, mk_int⟩

/- slices.Index[[]int,int] -/
set_option maxHeartbeats 1000000 in
theorem slices_Index_int_int_ok {fu : Nat} {w0 : World} {S : Nat → Prop} {v0_ : Value} {v1_ : Value} {s' : List Int} {v : Int} {r : Int} (h0 : VR w0 S v0_ s') (h1 : VR w0 S v1_ v) (hF : slices_Index_int_int fu s' v = some r) :
    Calls Try.prog 148 [v0_, v1_].toArray w0 fun e w' => ∃ v, e = .returned v ∧ (Below w0.heap.size w0 w' ∧ VR w' (St ⟨w0, []⟩ S [] [] [] true) v r) := by
  obtain ⟨A, c, rfl, hl⟩ := VR_list h0
  obtain rfl := VR_int h1
  have H := Mem.start ⟨w0, []⟩ S
  have H := H.pushArg (MP.val [(.slice A s'.length c)] s') hl
  refine enter Try.func148 rfl rfl (nle rfl) rfl fun a hf => ?_
  rw [slices_Index_int_int] at hF
  refine sq ?_
  refine reg ?_
  refine pRun_ok (tb := tab) (n := 19) tabOk 1 _ _ hf rfl rfl fun a hf => ?_
  refine wl_end ?_
  refine then_n ?_
  refine sq ?_
  refine sq ?_
  refine reg ?_
  refine pRun_ok (tb := tab) (n := 19) tabOk 3 _ _ hf rfl rfl fun a hf => ?_
  refine wl_end ?_
  refine then_n ?_
  obtain ⟨out', hB1, hF⟩ := bind_some hF
  have hf := hf.prune [0, 1, 7, 8] rfl
  have H := H.let [] [] [] [0]
  have hI : (fun (s : Int) (a : Act) (w : World) => match s with | i => Fr a 19 [(0, (.slice A s'.length c)), (1, (.int .i64 v)), (7, (.int .i64 (s'.length : Int))), (8, (.int .i64 i))] ∧ Mem ⟨w0, []⟩ S [] [] [] [(false, MP.val [(.slice A s'.length c)] (s' : List Int))] w) 0 a w0 := ⟨hf, H⟩
  refine mid (fun a w => ∃ s : Int, out' = Out.next s ∧ (fun (s : Int) (a : Act) (w : World) => match s with | i => Fr a 19 [(0, (.slice A s'.length c)), (1, (.int .i64 v)), (7, (.int .i64 (s'.length : Int))), (8, (.int .i64 i))] ∧ Mem ⟨w0, []⟩ S [] [] [] [(false, MP.val [(.slice A s'.length c)] (s' : List Int))] w) s a w) ?_ ?_
  · refine wp_block ?_
    refine loop_rule (fun k (s : Int) => slices_Index_int_int_L1 fu s' v k s = some out') (fun (s : Int) (a : Act) (w : World) => match s with | i => Fr a 19 [(0, (.slice A s'.length c)), (1, (.int .i64 v)), (7, (.int .i64 (s'.length : Int))), (8, (.int .i64 i))] ∧ Mem ⟨w0, []⟩ S [] [] [] [(false, MP.val [(.slice A s'.length c)] (s' : List Int))] w) (fun s h => by cases h) ?_ fu 0 a w0 hB1 hI
    rintro fk i a w hR1 hI
    replace hR1 : slices_Index_int_int_L1 fu s' v (fk + 1) i = some out' := hR1
    rw [slices_Index_int_int_L1] at hR1
    obtain ⟨hf, H⟩ := hI
    refine sq ?_
    refine reg ?_
    refine pRun_ok (tb := tab) (n := 19) tabOk 1 _ _ hf rfl rfl fun a hf => ?_
    refine wl_end ?_
    refine then_n ?_
    refine sq ?_
    refine (Bool.eq_false_or_eq_true (decide (i < (s'.length : Int)))).elim (fun hc => ?_) (fun hc => ?_)
    · rw [if_pos hc] at hR1
      refine cd_t hf rfl hc ?_
      refine wp_skip ?_
      refine then_n ?_
      refine sq ?_
      refine wp_block ?_
      refine sq ?_
      refine reg ?_
      refine pRun_ok (tb := tab) (n := 19) tabOk 2 _ _ hf rfl rfl fun a hf => ?_
      refine wl_end ?_
      refine then_n ?_
      refine sq ?_
      refine reg ?_
      refine pRun_ok (tb := tab) (n := 19) tabOk 3 _ _ hf rfl rfl fun a hf => ?_
      obtain ⟨e, he, hR1⟩ := bind_some hR1
      refine wl0 rfl (op_iaddr hf H Try.underlying35 TF.sz3 0 rfl rfl rfl he (by decide) fun p o cs a hf hr H => ?_)
      obtain rfl := hr
      refine wl0 rfl (op_q hf (rq_loadI hf H TF.ls3 0 0 rfl rfl rfl) rfl (by decide) fun a hf => ?_)
      refine pRun_ok (tb := tab) (n := 19) tabOk 1 _ _ hf rfl rfl fun a hf => ?_
      refine wl_end ?_
      refine then_n ?_
      refine (Bool.eq_false_or_eq_true (v == e)).elim (fun hc2 => ?_) (fun hc2 => ?_)
      · rw [if_pos hc2] at hR1
        refine cd_t hf rfl hc2 ?_
        refine sq ?_
        refine reg ?_
        refine pRun_ok (tb := tab) (n := 19) tabOk 2 _ _ hf rfl rfl fun a hf => ?_
        have hf := hf.prune [4] rfl
        refine wl_end ?_
        refine then_n ?_
        refine wp_ret (blk_r (then_r (then_r (blk_r (then_r (then_r (?_)))))))
        obtain rfl := Option.some.inj hR1
        replace hF := on_ret hF
        obtain rfl := Option.some.inj hF
        refine ret_1 (fn := Try.f148) (r := .tmp 4) hf rfl (rv_tmp hf rfl) ?_
        exact ⟨_, rfl, H.bel, mk_int⟩
      · rw [if_neg (nt hc2)] at hR1
        refine cd_f hf rfl hc2 ?_
        refine wp_skip ?_
        refine blk_n ?_
        refine then_n ?_
        refine reg ?_
        refine pRun_ok (tb := tab) (n := 19) tabOk 2 _ _ hf rfl rfl fun a hf => ?_
        refine wl_end ?_
        have hf := hf.prune [0, 1, 7, 8] rfl
        have H := H.let [] [] [] [1]
        exact then_n ⟨w64 (i + 1), hR1, hf, H⟩
    · rw [if_neg (nt hc)] at hR1
      refine cd_f hf rfl hc ?_
      refine wp_exit (then_x (then_x (blk_e (?_))))
      have hf := hf.prune [0, 1, 7, 8] rfl
      have H := H.let [] [] [] [0]
      exact ⟨i, (Option.some.inj hR1).symm, hf, H⟩
  rintro a w ⟨i2, rfl, hf, H⟩
  replace hF := on_next hF
  refine then_n ?_
  refine sq ?_
  refine reg ?_
  refine pRun_ok (tb := tab) (n := 19) tabOk 1 _ _ hf rfl rfl fun a hf => ?_
  refine wl_end ?_
  refine then_n ?_
  refine wp_ret (?_)
  obtain rfl := Option.some.inj hF
  refine ret_1 (fn := Try.f148) (r := .tmp 4) hf rfl (rv_tmp hf rfl) ?_
  exact ⟨_, rfl, H.bel, mk_int⟩

/- loop.example/g00897/impl.WorstLevel -/
set_option maxHeartbeats 1000000 in
theorem impl_WorstLevel_ok {fu : Nat} {w0 : World} {S : Nat → Prop} {v0_ : Value} {v1_ : Value} {v2_ : Value} {line : List Span} {list : List Amplifier} {launch : Int} {r : Int × Int × Bool} (h0 : VR w0 S v0_ line) (h1 : VR w0 S v1_ list) (h2 : VR w0 S v2_ launch) (hF : impl_WorstLevel fu line list launch = some r) :
    Calls Try.prog 92 [v0_, v1_, v2_].toArray w0 fun e w' => ∃ v, e = .returned v ∧ (Below w0.heap.size w0 w' ∧ ∃ u0 u1 u2, v = .tuple #[u0, u1, u2] ∧ VR w' (St ⟨w0, []⟩ S [] [] [] true) u0 r.1 ∧ VR w' (St ⟨w0, []⟩ S [] [] [] true) u1 r.2.1 ∧ VR w' (St ⟨w0, []⟩ S [] [] [] true) u2 r.2.2) := by
  obtain ⟨A, c, rfl, hl⟩ := VR_list h0
  obtain ⟨A2, c2, rfl, hl2⟩ := VR_list h1
  obtain rfl := VR_int h2
  have H := Mem.start ⟨w0, []⟩ S
  have H := H.pushArg (MP.val [(.slice A line.length c)] line) hl
  have H := H.pushArg (MP.val [(.slice A2 list.length c2)] list) hl2
  refine enter Try.func92 rfl rfl (nle rfl) rfl fun a hf => ?_
  rw [impl_WorstLevel] at hF
  refine sq ?_
  refine reg ?_
  refine pRun_ok (tb := tab) (n := 29) tabOk 3 _ _ hf rfl rfl fun a hf => ?_
  refine wl_end ?_
  refine then_n ?_
  refine sq ?_
  refine reg ?_
  refine pRun_ok (tb := tab) (n := 29) tabOk 3 _ _ hf rfl rfl fun a hf => ?_
  obtain ⟨y, hy, hF⟩ := bind_some hF
  refine wl0 rfl (op_call hf TF.cl146 rfl (by decide) (impl_profile_ok (S := fun _ => True) (mk_list (rep_true (α := List Span) (H.get 1 rfl))) (mk_list (rep_true (α := List Amplifier) (H.get 0 rfl))) mk_int hy) fun v w a hp hf => ?_)
  obtain ⟨hb, F, F2, v2, v3, v4, rfl, hp2, hp3, hp4, hN⟩ := hp
  obtain ⟨A3, c3, rfl, hl3⟩ := VO_list hp2
  obtain ⟨A4, c4, rfl, hl4⟩ := VO_list hp3
  obtain rfl := VR_bool hp4
  have H := H.addOwn hb (X := [(⟨F, MP.own F [(.slice A3 y.1.length c3)] (y.1 : List Int)⟩ : DI), (⟨F2, MP.own F2 [(.slice A4 y.2.1.length c4)] (y.2.1 : List Int)⟩ : DI)]) (by simpa using hN.1) (ps1 hl3 (ps1 hl4 ps0)) (by simpa using hN.2)
  have H := H.lend 0 rfl
  have H := H.lend 1 rfl
  refine pRun_ok (tb := tab) (n := 29) tabOk 7 _ _ hf rfl rfl fun a hf => ?_
  have hf := hf.prune [9, 11] rfl
  refine wl_end ?_
  refine then_n ?_
  refine sq ?_
  refine sq ?_
  refine reg ?_
  refine pRun_ok (tb := tab) (n := 29) tabOk 2 _ _ hf rfl rfl fun a hf => ?_
  refine wl_end ?_
  refine then_n ?_
  refine (Bool.eq_false_or_eq_true (!y.2.2)).elim (fun hc => ?_) (fun hc => ?_)
  · rw [if_pos hc] at hF
    refine cd_t hf rfl hc ?_
    refine sq ?_
    refine reg ?_
    refine pRun_ok (tb := tab) (n := 29) tabOk 3 _ _ hf rfl rfl fun a hf => ?_
    refine wl_end ?_
    refine then_n ?_
    refine wp_ret (then_r (?_))
    obtain rfl := Option.some.inj hF
    refine ret_3 (fn := Try.f92) (r := .tmp 6) (s := .tmp 7) (t := .tmp 8) hf rfl (rv_tmp hf rfl) (rv_tmp hf rfl) (rv_tmp hf rfl) ?_
    exact ⟨_, rfl, H.bel, _, _, _, rfl, mk_int, mk_int, mk_bool⟩
  · rw [if_neg (nt hc)] at hF
    refine cd_f hf rfl hc ?_
    refine wp_skip ?_
    refine then_n ?_
    refine sq ?_
    refine reg ?_
    refine pRun_ok (tb := tab) (n := 29) tabOk 1 _ _ hf rfl rfl fun a hf => ?_
    obtain ⟨y2, hy2, hF⟩ := bind_some hF
    refine wl0 rfl (op_call hf TF.cl147 rfl (by decide) (slices_Min_int_int_ok (S := fun _ => True) (mk_list (rep_true (α := List Int) (H.get 1 rfl))) hy2) fun v5 w a hp5 hf => ?_)
    obtain ⟨hb2, hp5⟩ := hp5
    obtain rfl := VR_int hp5
    have H := H.keep hb2
    refine pRun_ok (tb := tab) (n := 29) tabOk 1 _ _ hf rfl rfl fun a hf => ?_
    refine wl_end ?_
    refine then_n ?_
    refine sq ?_
    refine reg ?_
    refine pRun_ok (tb := tab) (n := 29) tabOk 3 _ _ hf rfl rfl fun a hf => ?_
    obtain ⟨y3, hy3, hF⟩ := bind_some hF
    refine wl0 rfl (op_call hf TF.cl148 rfl (by decide) (slices_Index_int_int_ok (S := fun _ => True) (mk_list (rep_true (α := List Int) (H.get 1 rfl))) mk_int hy3) fun v6 w a hp6 hf => ?_)
    obtain ⟨hb3, hp6⟩ := hp6
    obtain rfl := VR_int hp6
    have H := H.keep hb3
    refine pRun_ok (tb := tab) (n := 29) tabOk 3 _ _ hf rfl rfl fun a hf => ?_
    refine wl_end ?_
    refine then_n ?_
    refine wp_ret (?_)
    obtain rfl := Option.some.inj hF
    refine ret_3 (fn := Try.f92) (r := .tmp 6) (s := .tmp 7) (t := .tmp 8) hf rfl (rv_tmp hf rfl) (rv_tmp hf rfl) (rv_tmp hf rfl) ?_
    exact ⟨_, rfl, H.bel, _, _, _, rfl, mk_int, mk_int, mk_bool⟩

/- loop.example/g00897/laws.eqSpan -/
set_option maxHeartbeats 1000000 in
theorem laws_eqSpan_ok {fu : Nat} {w0 : World} {S : Nat → Prop} {v0_ : Value} {v1_ : Value} {a' : Span} {b' : Span} {r : Bool} (h0 : VR w0 S v0_ a') (h1 : VR w0 S v1_ b') (hF : laws_eqSpan fu a' b' = some r) :
    Calls Try.prog 144 [v0_, v1_].toArray w0 fun e w' => ∃ v, e = .returned v ∧ (Below w0.heap.size w0 w' ∧ VR w' (St ⟨w0, []⟩ S [] [] [] true) v r) := by
  obtain rfl := Span_open h0
  obtain rfl := Span_open h1
  have H := Mem.start ⟨w0, []⟩ S
  refine enter Try.func144 rfl rfl (nle rfl) rfl fun a hf => ?_
  rw [laws_eqSpan] at hF
  refine sq ?_
  refine reg ?_
  refine wl0 rfl (op_box hf H rfl rfl (by decide) fun b2 a w hf H => ?_)
  refine wl0 rfl (op_box hf H rfl rfl (by decide) fun b3 a w hf H => ?_)
  refine pRun_ok (tb := tab) (n := 20) tabOk 1 _ _ hf rfl rfl fun a hf => ?_
  refine wl_end ?_
  refine then_n ?_
  refine sq ?_
  refine sq ?_
  refine reg ?_
  refine pRun_ok (tb := tab) (n := 20) tabOk 1 _ _ hf rfl rfl fun a hf => ?_
  refine wl0 rfl (op_q hf (rq_loadB hf H TF.ls3 1 rfl rfl rfl) rfl (by decide) fun a hf => ?_)
  refine pRun_ok (tb := tab) (n := 20) tabOk 1 _ _ hf rfl rfl fun a hf => ?_
  refine wl0 rfl (op_q hf (rq_loadB hf H TF.ls3 0 rfl rfl rfl) rfl (by decide) fun a hf => ?_)
  refine pRun_ok (tb := tab) (n := 20) tabOk 1 _ _ hf rfl rfl fun a hf => ?_
  refine wl_end ?_
  refine then_n ?_
  refine (Bool.eq_false_or_eq_true (a'.Length != b'.Length)).elim (fun hc => ?_) (fun hc => ?_)
  · rw [if_pos hc] at hF
    refine cd_t hf rfl hc ?_
    refine sq ?_
    refine reg ?_
    refine pRun_ok (tb := tab) (n := 20) tabOk 1 _ _ hf rfl rfl fun a hf => ?_
    refine wl_end ?_
    refine then_n ?_
    refine wp_ret (then_r (?_))
    obtain rfl := Option.some.inj hF
    refine ret_1 (fn := Try.f144) (r := .tmp 4) hf rfl (rv_tmp hf rfl) ?_
    exact ⟨_, rfl, H.bel, mk_bool⟩
  · rw [if_neg (nt hc)] at hF
    refine cd_f hf rfl hc ?_
    refine wp_skip ?_
    refine then_n ?_
    refine sq ?_
    refine sq ?_
    refine reg ?_
    refine pRun_ok (tb := tab) (n := 20) tabOk 1 _ _ hf rfl rfl fun a hf => ?_
    refine wl0 rfl (op_q hf (rq_loadB hf H TF.ls3 1 rfl rfl rfl) rfl (by decide) fun a hf => ?_)
    refine pRun_ok (tb := tab) (n := 20) tabOk 1 _ _ hf rfl rfl fun a hf => ?_
    refine wl0 rfl (op_q hf (rq_loadB hf H TF.ls3 0 rfl rfl rfl) rfl (by decide) fun a hf => ?_)
    refine pRun_ok (tb := tab) (n := 20) tabOk 1 _ _ hf rfl rfl fun a hf => ?_
    refine wl_end ?_
    refine then_n ?_
    refine (Bool.eq_false_or_eq_true (a'.Loss != b'.Loss)).elim (fun hc2 => ?_) (fun hc2 => ?_)
    · rw [if_pos hc2] at hF
      refine cd_t hf rfl hc2 ?_
      refine sq ?_
      refine reg ?_
      refine pRun_ok (tb := tab) (n := 20) tabOk 1 _ _ hf rfl rfl fun a hf => ?_
      have hf := hf.prune [4] rfl
      refine wl_end ?_
      refine then_n ?_
      refine wp_ret (then_r (?_))
      obtain rfl := Option.some.inj hF
      refine ret_1 (fn := Try.f144) (r := .tmp 4) hf rfl (rv_tmp hf rfl) ?_
      exact ⟨_, rfl, H.bel, mk_bool⟩
    · rw [if_neg (nt hc2)] at hF
      refine cd_f hf rfl hc2 ?_
      refine wp_skip ?_
      refine then_n ?_
      refine sq ?_
      refine sq ?_
      refine reg ?_
      refine pRun_ok (tb := tab) (n := 20) tabOk 1 _ _ hf rfl rfl fun a hf => ?_
      refine wl0 rfl (op_q hf (rq_loadB hf H TF.ls3 1 rfl rfl rfl) rfl (by decide) fun a hf => ?_)
      refine pRun_ok (tb := tab) (n := 20) tabOk 1 _ _ hf rfl rfl fun a hf => ?_
      refine wl0 rfl (op_q hf (rq_loadB hf H TF.ls3 0 rfl rfl rfl) rfl (by decide) fun a hf => ?_)
      refine pRun_ok (tb := tab) (n := 20) tabOk 1 _ _ hf rfl rfl fun a hf => ?_
      have hf := hf.prune [19] rfl
      refine wl_end ?_
      refine then_n ?_
      refine (Bool.eq_false_or_eq_true (a'.Splices != b'.Splices)).elim (fun hc3 => ?_) (fun hc3 => ?_)
      · rw [if_pos hc3] at hF
        refine cd_t hf rfl hc3 ?_
        refine sq ?_
        refine reg ?_
        refine pRun_ok (tb := tab) (n := 20) tabOk 1 _ _ hf rfl rfl fun a hf => ?_
        refine wl_end ?_
        refine then_n ?_
        refine wp_ret (then_r (?_))
        obtain rfl := Option.some.inj hF
        refine ret_1 (fn := Try.f144) (r := .tmp 4) hf rfl (rv_tmp hf rfl) ?_
        exact ⟨_, rfl, H.bel, mk_bool⟩
      · rw [if_neg (nt hc3)] at hF
        refine cd_f hf rfl hc3 ?_
        refine wp_skip ?_
        refine then_n ?_
        refine sq ?_
        refine reg ?_
        refine pRun_ok (tb := tab) (n := 20) tabOk 1 _ _ hf rfl rfl fun a hf => ?_
        refine wl_end ?_
        refine then_n ?_
        refine wp_ret (?_)
        obtain rfl := Option.some.inj hF
        refine ret_1 (fn := Try.f144) (r := .tmp 4) hf rfl (rv_tmp hf rfl) ?_
        exact ⟨_, rfl, H.bel, mk_bool⟩

/- loop.example/g00897/laws.eqSpanS -/
set_option maxHeartbeats 1000000 in
theorem laws_eqSpanS_ok {fu : Nat} {w0 : World} {S : Nat → Prop} {v0_ : Value} {v1_ : Value} {a' : List Span} {b' : List Span} {r : Bool} (h0 : VR w0 S v0_ a') (h1 : VR w0 S v1_ b') (hF : laws_eqSpanS fu a' b' = some r) :
    Calls Try.prog 85 [v0_, v1_].toArray w0 fun e w' => ∃ v, e = .returned v ∧ (Below w0.heap.size w0 w' ∧ VR w' (St ⟨w0, []⟩ S [] [] [] true) v r) := by
  obtain ⟨A, c, rfl, hl⟩ := VR_list h0
  obtain ⟨A2, c2, rfl, hl2⟩ := VR_list h1
  have H := Mem.start ⟨w0, []⟩ S
  have H := H.pushArg (MP.val [(.slice A a'.length c)] a') hl
  have H := H.pushArg (MP.val [(.slice A2 b'.length c2)] b') hl2
  refine enter Try.func85 rfl rfl (nle rfl) rfl fun a hf => ?_
  rw [laws_eqSpanS] at hF
  refine sq ?_
  refine reg ?_
  refine pRun_ok (tb := tab) (n := 27) tabOk 1 _ _ hf rfl rfl fun a hf => ?_
  refine wl_end ?_
  refine then_n ?_
  refine sq ?_
  refine sq ?_
  refine reg ?_
  refine pRun_ok (tb := tab) (n := 27) tabOk 5 _ _ hf rfl rfl fun a hf => ?_
  refine wl_end ?_
  refine then_n ?_
  refine (Bool.eq_false_or_eq_true ((a'.length : Int) != (b'.length : Int))).elim (fun hc => ?_) (fun hc => ?_)
  · rw [if_pos hc] at hF
    refine cd_t hf rfl hc ?_
    refine sq ?_
    refine reg ?_
    refine pRun_ok (tb := tab) (n := 27) tabOk 1 _ _ hf rfl rfl fun a hf => ?_
    refine wl_end ?_
    refine then_n ?_
    refine wp_ret (then_r (?_))
    obtain rfl := Option.some.inj hF
    refine ret_1 (fn := Try.f85) (r := .tmp 4) hf rfl (rv_tmp hf rfl) ?_
    exact ⟨_, rfl, H.bel, mk_bool⟩
  · rw [if_neg (nt hc)] at hF
    refine cd_f hf rfl hc ?_
    refine wp_skip ?_
    refine then_n ?_
    refine sq ?_
    refine sq ?_
    refine reg ?_
    refine pRun_ok (tb := tab) (n := 27) tabOk 1 _ _ hf rfl rfl fun a hf => ?_
    refine wl_end ?_
    refine then_n ?_
    obtain ⟨out', hB1, hF⟩ := bind_some hF
    have hf := hf.prune [0, 1, 5] rfl
    have H := H.let [] [] [] [0, 1]
    have hI : (fun (s : Int) (a : Act) (w : World) => match s with | i => Fr a 27 [(0, (.slice A a'.length c)), (1, (.slice A2 b'.length c2)), (5, (.int .i64 i))] ∧ Mem ⟨w0, []⟩ S [] [] [] [(false, MP.val [(.slice A2 b'.length c2)] (b' : List Span)), (false, MP.val [(.slice A a'.length c)] (a' : List Span))] w) 0 a w0 := ⟨hf, H⟩
    refine mid (fun a w => ∃ s : Int, out' = Out.next s ∧ (fun (s : Int) (a : Act) (w : World) => match s with | i => Fr a 27 [(0, (.slice A a'.length c)), (1, (.slice A2 b'.length c2)), (5, (.int .i64 i))] ∧ Mem ⟨w0, []⟩ S [] [] [] [(false, MP.val [(.slice A2 b'.length c2)] (b' : List Span)), (false, MP.val [(.slice A a'.length c)] (a' : List Span))] w) s a w) ?_ ?_
    · refine wp_block ?_
      refine loop_rule (fun k (s : Int) => laws_eqSpanS_L1 fu a' b' k s = some out') (fun (s : Int) (a : Act) (w : World) => match s with | i => Fr a 27 [(0, (.slice A a'.length c)), (1, (.slice A2 b'.length c2)), (5, (.int .i64 i))] ∧ Mem ⟨w0, []⟩ S [] [] [] [(false, MP.val [(.slice A2 b'.length c2)] (b' : List Span)), (false, MP.val [(.slice A a'.length c)] (a' : List Span))] w) (fun s h => by cases h) ?_ fu 0 a w0 hB1 hI
      rintro fk i a w hR1 hI
      replace hR1 : laws_eqSpanS_L1 fu a' b' (fk + 1) i = some out' := hR1
      rw [laws_eqSpanS_L1] at hR1
      obtain ⟨hf, H⟩ := hI
      refine sq ?_
      refine sq ?_
      refine reg ?_
      refine pRun_ok (tb := tab) (n := 27) tabOk 4 _ _ hf rfl rfl fun a hf => ?_
      refine wl_end ?_
      refine then_n ?_
      refine (Bool.eq_false_or_eq_true (decide (i < (a'.length : Int)))).elim (fun hc2 => ?_) (fun hc2 => ?_)
      · rw [if_pos hc2] at hR1
        refine cd_t hf rfl hc2 ?_
        refine wp_skip ?_
        refine then_n ?_
        refine sq ?_
        refine wp_block ?_
        refine sq ?_
        refine drawn [] (bs := [false, false, false, false, false, false, false, false, false, false]) (fuel := 10) (Checked.mixed Try.checked) rfl rfl fun w hb => ?_
        have H := H.keep hb
        refine tkP (i := 0) (bs' := [true, false, false, false, false, false, false, false, false, false]) rfl rfl rfl (by decide) hf (by kernel_rfl) (fun _ => trivial) (fun w => pOp_ok (tb := tab) tabOk hf rfl) rfl fun a hf => ?_
        refine tkP (i := 1) (bs' := [true, true, false, false, false, false, false, false, false, false]) rfl rfl rfl (by decide) hf (by kernel_rfl) (fun _ => trivial) (fun w => pOp_ok (tb := tab) tabOk hf rfl) rfl fun a hf => ?_
        obtain ⟨e, he, hR1⟩ := bind_some hR1
        obtain ⟨p, o, cs, hx, hr, H⟩ := pre_iaddr H Try.underlying96 TF.sz28 1 rfl he
        refine tkP (i := 2) (bs' := [true, true, true, false, false, false, false, false, false, false]) rfl rfl rfl (by decide) hf (by kernel_rfl) (fun _ => trivial) (fun w => rq_iaddrE hf rfl rfl rfl hx w) rfl fun a hf => ?_
        obtain rfl := Span_cells hr
        refine str (fun w => Mem ⟨w0, []⟩ S [] [] [] [(false, MP.cells ⟨p, o, none⟩ [(.int .i64 e.Length), (.int .i64 e.Loss), (.int .i64 e.Splices)]), (false, MP.val [(.slice A2 b'.length c2)] (b' : List Span)), (false, MP.val [(.slice A a'.length c)] (a' : List Span))] w) (fun w H => trivial) ?_
        have hS : Mem ⟨w0, []⟩ S [] [] [] [(false, MP.cells ⟨p, o, none⟩ [(.int .i64 e.Length), (.int .i64 e.Loss), (.int .i64 e.Splices)]), (false, MP.val [(.slice A2 b'.length c2)] (b' : List Span)), (false, MP.val [(.slice A a'.length c)] (a' : List Span))] w := H.let [] [] [] [0, 1, 2]
        refine tkS (i := 3) (bs' := [true, true, true, true, false, false, false, false, false, false]) [] rfl rfl rfl (by decide) hf (by kernel_rfl) (by kernel_rfl) hS (fun w H => rq_loadIN hf H TF.la28 0 0 rfl rfl rfl rfl) rfl fun a hf => ?_
        refine tkP (i := 4) (bs' := [true, true, true, true, true, false, false, false, false, false]) rfl rfl rfl (by decide) hf (by kernel_rfl) (fun _ => hS) (fun w => pOp_ok (tb := tab) tabOk hf rfl) rfl fun a hf => ?_
        refine tkP (i := 5) (bs' := [true, true, true, true, true, true, false, false, false, false]) rfl rfl rfl (by decide) hf (by kernel_rfl) (fun _ => hS) (fun w => pOp_ok (tb := tab) tabOk hf rfl) rfl fun a hf => ?_
        obtain ⟨e2, he2, hR1⟩ := bind_some hR1
        obtain ⟨p2, o2, cs2, hx2, hr2, H⟩ := pre_iaddr H Try.underlying96 TF.sz28 1 rfl he2
        refine tkP (i := 6) (bs' := [true, true, true, true, true, true, true, false, false, false]) rfl rfl rfl (by decide) hf (by kernel_rfl) (fun _ => hS) (fun w => rq_iaddrE hf rfl rfl rfl hx2 w) rfl fun a hf => ?_
        obtain rfl := Span_cells hr2
        refine str (fun w => Mem ⟨w0, []⟩ S [] [] [] [(false, MP.cells ⟨p2, o2, none⟩ [(.int .i64 e2.Length), (.int .i64 e2.Loss), (.int .i64 e2.Splices)]), (false, MP.cells ⟨p, o, none⟩ [(.int .i64 e.Length), (.int .i64 e.Loss), (.int .i64 e.Splices)]), (false, MP.val [(.slice A2 b'.length c2)] (b' : List Span)), (false, MP.val [(.slice A a'.length c)] (a' : List Span))] w) (fun w H => H.let [] [] [] [1, 2, 3]) ?_
        have hS : Mem ⟨w0, []⟩ S [] [] [] [(false, MP.cells ⟨p2, o2, none⟩ [(.int .i64 e2.Length), (.int .i64 e2.Loss), (.int .i64 e2.Splices)]), (false, MP.cells ⟨p, o, none⟩ [(.int .i64 e.Length), (.int .i64 e.Loss), (.int .i64 e.Splices)]), (false, MP.val [(.slice A2 b'.length c2)] (b' : List Span)), (false, MP.val [(.slice A a'.length c)] (a' : List Span))] w := H.let [] [] [] [0, 1, 2, 3]
        refine tkS (i := 7) (bs' := [true, true, true, true, true, true, true, true, false, false]) [] rfl rfl rfl (by decide) hf (by kernel_rfl) (by kernel_rfl) hS (fun w H => rq_loadIN hf H TF.la28 0 0 rfl rfl rfl rfl) rfl fun a hf => ?_
        obtain ⟨y, hy, hR1⟩ := bind_some hR1
        refine on1 (i := 8) (bs' := [true, true, true, true, true, true, true, true, true, false]) (by kernel_rfl) rfl rfl rfl (op_call hf TF.cl144 rfl (by decide) (laws_eqSpan_ok (S := fun _ => True) Span_mkv Span_mkv hy) fun v w a hp hf => ?_)
        obtain ⟨hb, hp⟩ := hp
        obtain rfl := VR_bool hp
        have H := H.keep hb
        have hS : Mem ⟨w0, []⟩ S [] [] [] [(false, MP.cells ⟨p2, o2, none⟩ [(.int .i64 e2.Length), (.int .i64 e2.Loss), (.int .i64 e2.Splices)]), (false, MP.cells ⟨p, o, none⟩ [(.int .i64 e.Length), (.int .i64 e.Loss), (.int .i64 e.Splices)]), (false, MP.val [(.slice A2 b'.length c2)] (b' : List Span)), (false, MP.val [(.slice A a'.length c)] (a' : List Span))] w := H.let [] [] [] [0, 1, 2, 3]
        refine ⟨fun _ => hS, ?_⟩
        refine tkP (i := 9) (bs' := [true, true, true, true, true, true, true, true, true, true]) rfl rfl rfl (by decide) hf (by kernel_rfl) (fun _ => hS) (fun w => pOp_ok (tb := tab) tabOk hf rfl) rfl fun a hf => ?_
        refine dn (by kernel_rfl) ?_
        have hf := hf.prune [0, 1, 5, 26] rfl
        refine then_n ?_
        refine (Bool.eq_false_or_eq_true (!y)).elim (fun hc3 => ?_) (fun hc3 => ?_)
        · rw [if_pos hc3] at hR1
          refine cd_t hf rfl hc3 ?_
          refine sq ?_
          refine reg ?_
          refine pRun_ok (tb := tab) (n := 27) tabOk 1 _ _ hf rfl rfl fun a hf => ?_
          refine wl_end ?_
          refine then_n ?_
          refine wp_ret (blk_r (then_r (then_r (blk_r (then_r (then_r (?_)))))))
          obtain rfl := Option.some.inj hR1
          replace hF := on_ret hF
          obtain rfl := Option.some.inj hF
          refine ret_1 (fn := Try.f85) (r := .tmp 4) hf rfl (rv_tmp hf rfl) ?_
          exact ⟨_, rfl, H.bel, mk_bool⟩
        · rw [if_neg (nt hc3)] at hR1
          refine cd_f hf rfl hc3 ?_
          refine wp_skip ?_
          refine blk_n ?_
          refine then_n ?_
          refine reg ?_
          refine pRun_ok (tb := tab) (n := 27) tabOk 3 _ _ hf rfl rfl fun a hf => ?_
          refine wl_end ?_
          have hf := hf.prune [0, 1, 5] rfl
          have H := H.let [] [] [] [2, 3]
          exact then_n ⟨w64 (i + 1), hR1, hf, H⟩
      · rw [if_neg (nt hc2)] at hR1
        refine cd_f hf rfl hc2 ?_
        refine wp_exit (then_x (then_x (blk_e (?_))))
        have hf := hf.prune [0, 1, 5] rfl
        have H := H.let [] [] [] [0, 1]
        exact ⟨i, (Option.some.inj hR1).symm, hf, H⟩
    rintro a w ⟨i2, rfl, hf, H⟩
    replace hF := on_next hF
    refine then_n ?_
    refine sq ?_
    refine reg ?_
    refine pRun_ok (tb := tab) (n := 27) tabOk 1 _ _ hf rfl rfl fun a hf => ?_
    refine wl_end ?_
    refine then_n ?_
    refine wp_ret (?_)
    obtain rfl := Option.some.inj hF
    refine ret_1 (fn := Try.f85) (r := .tmp 4) hf rfl (rv_tmp hf rfl) ?_
    exact ⟨_, rfl, H.bel, mk_bool⟩
end AT
