/- The Go functions do what is told of them, by program (gen.py). -/
import Derived.Test.YtijgfgfolkbkoaaT
set_option linter.unusedVariables false
set_option linter.unusedSimpArgs false
set_option maxRecDepth 100000
namespace AT
open Go Go.RowKit Go.Proofs

/- loop.example/g00897/laws.szSpanS -/
set_option maxHeartbeats 1000000 in
theorem laws_szSpanS_ok {fu : Nat} {w0 : World} {S : Nat → Prop} {v0_ : Value} {v1_ : Value} {a' : List Span} {left : Int} {r : Int} (h0 : VR w0 S v0_ a') (h1 : VR w0 S v1_ left) (hF : laws_szSpanS fu a' left = some r) :
    Calls Try.prog 80 [v0_, v1_].toArray w0 fun e w' => ∃ v, e = .returned v ∧ (Below w0.heap.size w0 w' ∧ VR w' (St ⟨w0, []⟩ S [] [] [] true) v r) := by
  obtain ⟨A, c, rfl, hl⟩ := VR_list h0
  obtain rfl := VR_int h1
  have H := Mem.start ⟨w0, []⟩ S
  have H := H.pushArg (MP.val [(.slice A a'.length c)] a') hl
  refine enter Try.func80 rfl rfl (nle rfl) rfl fun a hf => ?_
  rw [laws_szSpanS] at hF
  refine sq ?_
  refine reg ?_
  refine pRun_ok (tb := tab) (n := 12) tabOk 1 _ _ hf rfl rfl fun a hf => ?_
  refine wl_end ?_
  refine then_n ?_
  refine sq ?_
  refine reg ?_
  refine pRun_ok (tb := tab) (n := 12) tabOk 5 _ _ hf rfl rfl fun a hf => ?_
  refine wl_end ?_
  refine then_n ?_
  refine sq ?_
  refine sq ?_
  refine reg ?_
  refine pRun_ok (tb := tab) (n := 12) tabOk 2 _ _ hf rfl rfl fun a hf => ?_
  refine wl_end ?_
  refine then_n ?_
  refine (Bool.eq_false_or_eq_true (decide ((w64 (left - (a'.length : Int))) < 0))).elim (fun hc => ?_) (fun hc => ?_)
  · rw [if_pos hc] at hF
    refine cd_t hf rfl hc ?_
    refine sq ?_
    refine reg ?_
    refine pRun_ok (tb := tab) (n := 12) tabOk 1 _ _ hf rfl rfl fun a hf => ?_
    refine wl_end ?_
    refine then_n ?_
    refine wp_ret (then_r (?_))
    obtain rfl := Option.some.inj hF
    refine ret_1 (fn := Try.f80) (r := .tmp 4) hf rfl (rv_tmp hf rfl) ?_
    exact ⟨_, rfl, H.bel, mk_int⟩
  · rw [if_neg (nt hc)] at hF
    refine cd_f hf rfl hc ?_
    refine wp_skip ?_
    refine then_n ?_
    refine sq ?_
    refine reg ?_
    refine pRun_ok (tb := tab) (n := 12) tabOk 2 _ _ hf rfl rfl fun a hf => ?_
    refine wl_end ?_
    refine then_n ?_
    refine wp_ret (?_)
    obtain rfl := Option.some.inj hF
    refine ret_1 (fn := Try.f80) (r := .tmp 4) hf rfl (rv_tmp hf rfl) ?_
    exact ⟨_, rfl, H.bel, mk_int⟩

/- loop.example/g00897/laws.toSpan -/
set_option maxHeartbeats 1000000 in
theorem laws_toSpan_ok {fu : Nat} {w0 : World} {S : Nat → Prop} {v0_ : Value} {a' : Span} {r : Span} (h0 : VR w0 S v0_ a') (hF : laws_toSpan fu a' = some r) :
    Calls Try.prog 27 [v0_].toArray w0 fun e w' => ∃ v, e = .returned v ∧ (Below w0.heap.size w0 w' ∧ VR w' (St ⟨w0, []⟩ S [] [] [] true) v r) := by
  obtain rfl := Span_open h0
  have H := Mem.start ⟨w0, []⟩ S
  refine enter Try.func27 rfl rfl (nle rfl) rfl fun a hf => ?_
  rw [laws_toSpan] at hF
  refine sq ?_
  refine reg ?_
  refine wl0 rfl (op_box hf H rfl rfl (by decide) fun b' a w hf H => ?_)
  refine wl0 rfl (op_alloc hf H TF.zv28 rfl (by decide) fun b2 a w hf H => ?_)
  refine wl_end ?_
  refine then_n ?_
  refine sq ?_
  refine reg ?_
  refine wl0 rfl (op_alloc hf H TF.zv28 rfl (by decide) fun b3 a w hf H => ?_)
  refine wl_end ?_
  refine then_n ?_
  refine sq ?_
  refine reg ?_
  refine pRun_ok (tb := tab) (n := 14) tabOk 1 _ _ hf rfl rfl fun a hf => ?_
  refine wl0 rfl (op_q hf (rq_loadB hf H TF.ls3 2 rfl rfl rfl) rfl (by decide) fun a hf => ?_)
  refine pRun_ok (tb := tab) (n := 14) tabOk 1 _ _ hf rfl rfl fun a hf => ?_
  refine wl0 rfl (op_storeB hf H 0 TF.sz3 rfl rfl rfl rfl rfl rfl (nle rfl) fun w H => ?_)
  refine wl_end ?_
  refine then_n ?_
  refine sq ?_
  refine reg ?_
  refine pRun_ok (tb := tab) (n := 14) tabOk 1 _ _ hf rfl rfl fun a hf => ?_
  refine wl0 rfl (op_q hf (rq_loadB hf H TF.ls3 2 rfl rfl rfl) rfl (by decide) fun a hf => ?_)
  refine pRun_ok (tb := tab) (n := 14) tabOk 1 _ _ hf rfl rfl fun a hf => ?_
  refine wl0 rfl (op_storeB hf H 0 TF.sz3 rfl rfl rfl rfl rfl rfl (nle rfl) fun w H => ?_)
  refine wl_end ?_
  refine then_n ?_
  refine sq ?_
  refine reg ?_
  refine pRun_ok (tb := tab) (n := 14) tabOk 1 _ _ hf rfl rfl fun a hf => ?_
  refine wl0 rfl (op_q hf (rq_loadB hf H TF.ls3 2 rfl rfl rfl) rfl (by decide) fun a hf => ?_)
  refine pRun_ok (tb := tab) (n := 14) tabOk 1 _ _ hf rfl rfl fun a hf => ?_
  refine wl0 rfl (op_storeB hf H 0 TF.sz3 rfl rfl rfl rfl rfl rfl (nle rfl) fun w H => ?_)
  refine wl_end ?_
  refine then_n ?_
  refine sq ?_
  refine reg ?_
  refine wl0 rfl (op_q hf (rq_loadBN hf H TF.la28 0 rfl rfl rfl rfl) rfl (by decide) fun a hf => ?_)
  refine wl0 rfl (op_storeB hf H 1 TF.sz28 rfl rfl rfl rfl rfl rfl (nle rfl) fun w H => ?_)
  have hf := hf.prune [2] rfl
  refine wl_end ?_
  refine then_n ?_
  refine wp_ret (?_)
  obtain rfl := Option.some.inj hF
  refine ret_1 (fn := Try.f27) (r := .cell 2 28) hf rfl (rv_cellN hf H 1 TF.la28 rfl rfl rfl) ?_
  exact ⟨_, rfl, H.bel, Span_mkv⟩

/- loop.example/g00897/laws.toSpanS -/
set_option maxHeartbeats 1000000 in
theorem laws_toSpanS_ok {fu : Nat} {w0 : World} {S : Nat → Prop} {v0_ : Value} {a' : List Span} {r : List Span} (h0 : VR w0 S v0_ a') (hF : laws_toSpanS fu a' = some r) :
    Calls Try.prog 82 [v0_].toArray w0 fun e w' => ∃ v, e = .returned v ∧ (Below w0.heap.size w0 w' ∧ ∃ F0, VO w' F0 v r ∧ New w0 w' F0) := by
  obtain ⟨A, c, rfl, hl⟩ := VR_list h0
  have H := Mem.start ⟨w0, []⟩ S
  have H := H.pushArg (MP.val [(.slice A a'.length c)] a') hl
  refine enter Try.func82 rfl rfl (nle rfl) rfl fun a hf => ?_
  rw [laws_toSpanS] at hF
  refine sq ?_
  refine reg ?_
  refine pRun_ok (tb := tab) (n := 23) tabOk 1 _ _ hf rfl rfl fun a hf => ?_
  refine wl_end ?_
  refine then_n ?_
  refine sq ?_
  refine reg ?_
  refine pRun_ok (tb := tab) (n := 23) tabOk 2 _ _ hf rfl rfl fun a hf => ?_
  obtain ⟨l, hl, hF⟩ := bind_some hF
  refine wl0 rfl (op_make (z0 := (({ Length := 0, Loss := 0, Splices := 0 } : Span) : Span)) hf H Try.underlying96 TF.ai28 rfl (by decide) rfl rfl (Span_mk (x := ({ Length := 0, Loss := 0, Splices := 0 } : Span))) hl (by decide) fun A2 c2 a w hf H => ?_)
  refine pRun_ok (tb := tab) (n := 23) tabOk 1 _ _ hf rfl rfl fun a hf => ?_
  refine wl_end ?_
  refine then_n ?_
  refine sq ?_
  refine sq ?_
  refine reg ?_
  refine pRun_ok (tb := tab) (n := 23) tabOk 1 _ _ hf rfl rfl fun a hf => ?_
  refine wl_end ?_
  refine then_n ?_
  obtain ⟨out2, hB1, hF⟩ := bind_some hF
  have hf := hf.prune [0, 3, 4] rfl
  have H := H.let [] [true] [] [0]
  have hI : (fun (s : List Span × Int) (a : Act) (w : World) => match s with | (out', i) => ∃ (A3 : Option Addr) (c3 : Nat), Fr a 23 [(0, (.slice A a'.length c)), (3, (.slice A3 out'.length c3)), (4, (.int .i64 i))] ∧ Mem ⟨w0, []⟩ S [] [⟨.sh true, 28, A3, c3, (out' : List Span)⟩] [] [(false, MP.val [(.slice A a'.length c)] (a' : List Span))] w) (l, 0) a w := ⟨A2, c2, hf, H⟩
  refine mid (fun a w => ∃ s : List Span × Int, out2 = s ∧ (fun (s : List Span × Int) (a : Act) (w : World) => match s with | (out', i) => ∃ (A3 : Option Addr) (c3 : Nat), Fr a 23 [(0, (.slice A a'.length c)), (3, (.slice A3 out'.length c3)), (4, (.int .i64 i))] ∧ Mem ⟨w0, []⟩ S [] [⟨.sh true, 28, A3, c3, (out' : List Span)⟩] [] [(false, MP.val [(.slice A a'.length c)] (a' : List Span))] w) s a w) ?_ ?_
  · refine wp_block ?_
    refine loop_rule (fun k (s : List Span × Int) => laws_toSpanS_L1 fu a' k s.1 s.2 = some out2) (fun (s : List Span × Int) (a : Act) (w : World) => match s with | (out', i) => ∃ (A3 : Option Addr) (c3 : Nat), Fr a 23 [(0, (.slice A a'.length c)), (3, (.slice A3 out'.length c3)), (4, (.int .i64 i))] ∧ Mem ⟨w0, []⟩ S [] [⟨.sh true, 28, A3, c3, (out' : List Span)⟩] [] [(false, MP.val [(.slice A a'.length c)] (a' : List Span))] w) (fun s h => by cases h) ?_ fu (l, 0) a w hB1 hI
    rintro fk ⟨out', i⟩ a w hR1 hI
    replace hR1 : laws_toSpanS_L1 fu a' (fk + 1) out' i = some out2 := hR1
    rw [laws_toSpanS_L1] at hR1
    obtain ⟨A3, c3, hf, H⟩ := hI
    refine sq ?_
    refine sq ?_
    refine reg ?_
    refine pRun_ok (tb := tab) (n := 23) tabOk 4 _ _ hf rfl rfl fun a hf => ?_
    refine wl_end ?_
    refine then_n ?_
    refine (Bool.eq_false_or_eq_true (decide (i < (a'.length : Int)))).elim (fun hc => ?_) (fun hc => ?_)
    · rw [if_pos hc] at hR1
      refine cd_t hf rfl hc ?_
      refine wp_skip ?_
      refine then_n ?_
      refine sq ?_
      refine wp_block ?_
      refine reg ?_
      refine pRun_ok (tb := tab) (n := 23) tabOk 4 _ _ hf rfl rfl fun a hf => ?_
      obtain ⟨e, he, hR1⟩ := bind_some hR1
      refine wl0 rfl (op_iaddr hf H Try.underlying91 TF.sz26 0 rfl rfl rfl he (by decide) fun p o cs a hf hr H => ?_)
      obtain rfl := Span_cells hr
      refine wl0 rfl (op_q hf (rq_loadIN hf H TF.la26 0 0 rfl rfl rfl rfl) rfl (by decide) fun a hf => ?_)
      obtain ⟨y, hy, hR1⟩ := bind_some hR1
      refine wl0 rfl (op_call hf TF.cl27 rfl (by decide) (laws_toSpan_ok (S := fun _ => True) Span_mkv hy) fun v w a hp hf => ?_)
      obtain ⟨hb, hp⟩ := hp
      obtain rfl := Span_open hp
      have H := H.keep hb
      obtain ⟨e2, he2, hR1⟩ := bind_some hR1
      refine wl0 rfl (op_iaddrR hf H Try.underlying96 TF.sz28 0 rfl rfl rfl he2 (by decide) fun p2 o2 cs2 a hf hA hr2 hk => ?_)
      obtain rfl := Span_cells hr2
      refine wl0 rfl (op_storeR (e' := y) hf H TF.sz28 0 rfl rfl rfl rfl rfl (nle rfl) rfl hA he2 (st_full (Span_mk (x := y))) fun w H => ?_)
      replace hf : Fr a 23 [(0, (.slice A a'.length c)), (3, (.slice A3 out'.length c3)), (4, (.int .i64 i)), (8, (.int .i64 i)), (9, (.slice A a'.length c)), (10, (.int .i64 (a'.length : Int))), (11, (.bool (decide (i < (a'.length : Int))))), (14, (.slice A3 out'.length c3)), (15, (.int .i64 i)), (16, (.slice A a'.length c)), (17, (.int .i64 i)), (18, (.pointer (some ⟨p, o + 0, none⟩))), (19, (.agg #[(.int .i64 e.Length), (.int .i64 e.Loss), (.int .i64 e.Splices)])), (20, (.agg #[(.int .i64 y.Length), (.int .i64 y.Loss), (.int .i64 y.Splices)])), (21, (.pointer (some ⟨p2, o2 + 0, none⟩)))] := hf.prune [0, 3, 4, 8, 9, 10, 11, 14, 15, 16, 17, 18, 19, 20, 21] rfl
      replace hf : Fr a 23 [(0, (.slice A a'.length c)), (3, (.slice A3 (out'.set (i).toNat y).length c3)), (4, (.int .i64 i)), (8, (.int .i64 i)), (9, (.slice A a'.length c)), (10, (.int .i64 (a'.length : Int))), (11, (.bool (decide (i < (a'.length : Int))))), (14, (.slice A3 (out'.set (i).toNat y).length c3)), (15, (.int .i64 i)), (16, (.slice A a'.length c)), (17, (.int .i64 i)), (18, (.pointer (some ⟨p, o + 0, none⟩))), (19, (.agg #[(.int .i64 e.Length), (.int .i64 e.Loss), (.int .i64 e.Splices)])), (20, (.agg #[(.int .i64 y.Length), (.int .i64 y.Loss), (.int .i64 y.Splices)])), (21, (.pointer (some ⟨p2, o2 + 0, none⟩)))] := by simpa only [List.length_set, Nat.add_zero] using hf
      refine wl_end ?_
      refine blk_n ?_
      refine then_n ?_
      refine reg ?_
      refine pRun_ok (tb := tab) (n := 23) tabOk 3 _ _ hf rfl rfl fun a hf => ?_
      have hf := hf.prune [0, 3, 4] rfl
      refine wl_end ?_
      have hf := hf.prune [0, 3, 4] rfl
      have H := H.let [] [true] [] [1]
      exact then_n ⟨(out'.set (i).toNat y, w64 (i + 1)), hR1, A3, c3, hf, H⟩
    · rw [if_neg (nt hc)] at hR1
      refine cd_f hf rfl hc ?_
      refine wp_exit (then_x (then_x (blk_e (?_))))
      have hf := hf.prune [0, 3, 4] rfl
      have H := H.let [] [true] [] [0]
      exact ⟨(out', i), (Option.some.inj hR1).symm, A3, c3, hf, H⟩
  rintro a w ⟨⟨out3, i2⟩, rfl, A4, c4, hf, H⟩
  dsimp only at hF
  refine then_n ?_
  refine sq ?_
  refine reg ?_
  refine pRun_ok (tb := tab) (n := 23) tabOk 2 _ _ hf rfl rfl fun a hf => ?_
  refine wl_end ?_
  refine then_n ?_
  refine wp_ret (?_)
  have H := H.rowOwn 0 rfl rfl
  obtain ⟨F, H⟩ := H.freezeOwn 0 rfl
  have H := H.lend 0 rfl
  obtain rfl := Option.some.inj hF
  refine ret_1 (fn := Try.f82) (r := .tmp 2) hf rfl (rv_tmp hf rfl) ?_
  have hN : New w0 w F := by simpa using H.ends (X := [(⟨F, MP.own F [(.slice A4 out3.length c4)] (out3 : List Span)⟩ : DI)])
  exact ⟨_, rfl, H.bel, F, (mko_list (H.ownAt 0 rfl)), hN⟩

/- loop.example/g00897/laws.toAmplifier -/
set_option maxHeartbeats 1000000 in
theorem laws_toAmplifier_ok {fu : Nat} {w0 : World} {S : Nat → Prop} {v0_ : Value} {a' : Amplifier} {r : Amplifier} (h0 : VR w0 S v0_ a') (hF : laws_toAmplifier fu a' = some r) :
    Calls Try.prog 83 [v0_].toArray w0 fun e w' => ∃ v, e = .returned v ∧ (Below w0.heap.size w0 w' ∧ VR w' (St ⟨w0, []⟩ S [] [] [] true) v r) := by
  obtain rfl := Amplifier_open h0
  have H := Mem.start ⟨w0, []⟩ S
  refine enter Try.func83 rfl rfl (nle rfl) rfl fun a hf => ?_
  rw [laws_toAmplifier] at hF
  refine sq ?_
  refine reg ?_
  refine wl0 rfl (op_box hf H rfl rfl (by decide) fun b' a w hf H => ?_)
  refine wl0 rfl (op_alloc hf H TF.zv88 rfl (by decide) fun b2 a w hf H => ?_)
  refine wl_end ?_
  refine then_n ?_
  refine sq ?_
  refine reg ?_
  refine wl0 rfl (op_alloc hf H TF.zv88 rfl (by decide) fun b3 a w hf H => ?_)
  refine wl_end ?_
  refine then_n ?_
  refine sq ?_
  refine reg ?_
  refine pRun_ok (tb := tab) (n := 17) tabOk 1 _ _ hf rfl rfl fun a hf => ?_
  refine wl0 rfl (op_q hf (rq_loadB hf H TF.ls3 2 rfl rfl rfl) rfl (by decide) fun a hf => ?_)
  refine pRun_ok (tb := tab) (n := 17) tabOk 1 _ _ hf rfl rfl fun a hf => ?_
  refine wl0 rfl (op_storeB hf H 0 TF.sz3 rfl rfl rfl rfl rfl rfl (nle rfl) fun w H => ?_)
  refine wl_end ?_
  refine then_n ?_
  refine sq ?_
  refine reg ?_
  refine pRun_ok (tb := tab) (n := 17) tabOk 1 _ _ hf rfl rfl fun a hf => ?_
  refine wl0 rfl (op_q hf (rq_loadB hf H TF.ls3 2 rfl rfl rfl) rfl (by decide) fun a hf => ?_)
  refine pRun_ok (tb := tab) (n := 17) tabOk 1 _ _ hf rfl rfl fun a hf => ?_
  refine wl0 rfl (op_storeB hf H 0 TF.sz3 rfl rfl rfl rfl rfl rfl (nle rfl) fun w H => ?_)
  refine wl_end ?_
  refine then_n ?_
  refine sq ?_
  refine reg ?_
  refine pRun_ok (tb := tab) (n := 17) tabOk 1 _ _ hf rfl rfl fun a hf => ?_
  refine wl0 rfl (op_q hf (rq_loadB hf H TF.ls3 2 rfl rfl rfl) rfl (by decide) fun a hf => ?_)
  refine pRun_ok (tb := tab) (n := 17) tabOk 1 _ _ hf rfl rfl fun a hf => ?_
  refine wl0 rfl (op_storeB hf H 0 TF.sz3 rfl rfl rfl rfl rfl rfl (nle rfl) fun w H => ?_)
  refine wl_end ?_
  refine then_n ?_
  refine sq ?_
  refine reg ?_
  refine pRun_ok (tb := tab) (n := 17) tabOk 1 _ _ hf rfl rfl fun a hf => ?_
  refine wl0 rfl (op_q hf (rq_loadB hf H TF.ls3 2 rfl rfl rfl) rfl (by decide) fun a hf => ?_)
  refine pRun_ok (tb := tab) (n := 17) tabOk 1 _ _ hf rfl rfl fun a hf => ?_
  refine wl0 rfl (op_storeB hf H 0 TF.sz3 rfl rfl rfl rfl rfl rfl (nle rfl) fun w H => ?_)
  have hf := hf.prune [2, 3] rfl
  refine wl_end ?_
  refine then_n ?_
  refine sq ?_
  refine reg ?_
  refine wl0 rfl (op_q hf (rq_loadBN hf H TF.la88 0 rfl rfl rfl rfl) rfl (by decide) fun a hf => ?_)
  refine wl0 rfl (op_storeB hf H 1 TF.sz88 rfl rfl rfl rfl rfl rfl (nle rfl) fun w H => ?_)
  refine wl_end ?_
  refine then_n ?_
  refine wp_ret (?_)
  obtain rfl := Option.some.inj hF
  refine ret_1 (fn := Try.f83) (r := .cell 2 88) hf rfl (rv_cellN hf H 1 TF.la88 rfl rfl rfl) ?_
  exact ⟨_, rfl, H.bel, Amplifier_mkv⟩

/- loop.example/g00897/spec.l1In -/
set_option maxHeartbeats 1000000 in
theorem spec_l1In_ok {fu : Nat} {w0 : World} {S : Nat → Prop} {v0_ : Value} {v1_ : Value} {v2_ : Value} {x1 : Int} {a' : Int} {b' : Int} {r : Bool} (h0 : VR w0 S v0_ x1) (h1 : VR w0 S v1_ a') (h2 : VR w0 S v2_ b') (hF : spec_l1In fu x1 a' b' = some r) :
    Calls Try.prog 97 [v0_, v1_, v2_].toArray w0 fun e w' => ∃ v, e = .returned v ∧ (Below w0.heap.size w0 w' ∧ VR w' (St ⟨w0, []⟩ S [] [] [] true) v r) := by
  obtain rfl := VR_int h0
  obtain rfl := VR_int h1
  obtain rfl := VR_int h2
  have H := Mem.start ⟨w0, []⟩ S
  refine enter Try.func97 rfl rfl (nle rfl) rfl fun a hf => ?_
  rw [spec_l1In] at hF
  refine sq ?_
  refine reg ?_
  refine pRun_ok (tb := tab) (n := 15) tabOk 1 _ _ hf rfl rfl fun a hf => ?_
  refine wl_end ?_
  refine then_n ?_
  refine sq ?_
  obtain ⟨c, hGc, hF⟩ := bind_some hF
  refine mid (fun a w => Fr a 15 [(6, (.bool c))] ∧ Mem ⟨w0, []⟩ S [] [] [] [] w) ?_ ?_
  · refine reg ?_
    refine pRun_ok (tb := tab) (n := 15) tabOk 4 _ _ hf rfl rfl fun a hf => ?_
    refine (Bool.eq_false_or_eq_true (decide (x1 ≥ a'))).elim (fun hc => ?_) (fun hc => ?_)
    · rw [if_pos hc] at hGc
      have hf := hf.lit 10 rfl hc
      refine pRun_ok (tb := tab) (n := 15) tabOk 5 _ _ hf rfl rfl fun a hf => ?_
      obtain rfl := Option.some.inj hGc
      have hf := hf.prune [6] rfl
      have H := H.let [] [] [] []
      exact wl_end ⟨hf, H⟩
    · rw [if_neg (nt hc)] at hGc
      have hf := hf.lit 10 rfl hc
      refine pRun_ok (tb := tab) (n := 15) tabOk 5 _ _ hf rfl rfl fun a hf => ?_
      obtain rfl := Option.some.inj hGc
      have hf := hf.prune [6] rfl
      have H := H.let [] [] [] []
      exact wl_end ⟨hf, H⟩
  rintro a w ⟨hf, H⟩
  refine then_n ?_
  refine wp_ret (?_)
  obtain rfl := Option.some.inj hF
  refine ret_1 (fn := Try.f97) (r := .tmp 6) hf rfl (rv_tmp hf rfl) ?_
  exact ⟨_, rfl, H.bel, mk_bool⟩

/- loop.example/g00897/spec.l22Span -/
set_option maxHeartbeats 1000000 in
theorem spec_l22Span_ok {fu : Nat} {w0 : World} {S : Nat → Prop} {v0_ : Value} {s' : Span} {r : Bool} (h0 : VR w0 S v0_ s') (hF : spec_l22Span fu s' = some r) :
    Calls Try.prog 99 [v0_].toArray w0 fun e w' => ∃ v, e = .returned v ∧ (Below w0.heap.size w0 w' ∧ VR w' (St ⟨w0, []⟩ S [] [] [] true) v r) := by
  obtain rfl := Span_open h0
  have H := Mem.start ⟨w0, []⟩ S
  refine enter Try.func99 rfl rfl (nle rfl) rfl fun a hf => ?_
  rw [spec_l22Span] at hF
  refine sq ?_
  refine reg ?_
  refine wl0 rfl (op_box hf H rfl rfl (by decide) fun b' a w hf H => ?_)
  refine pRun_ok (tb := tab) (n := 16) tabOk 1 _ _ hf rfl rfl fun a hf => ?_
  refine wl_end ?_
  refine then_n ?_
  refine sq ?_
  obtain ⟨c, hGc, hF⟩ := bind_some hF
  refine mid (fun a w => Fr a 16 [(2, (.bool c))] ∧ Mem ⟨w0, []⟩ S [] [] [] [] w) ?_ ?_
  · refine reg ?_
    refine pRun_ok (tb := tab) (n := 16) tabOk 1 _ _ hf rfl rfl fun a hf => ?_
    refine wl0 rfl (op_q hf (rq_loadB hf H TF.ls3 0 rfl rfl rfl) rfl (by decide) fun a hf => ?_)
    obtain ⟨y, hy, hGc⟩ := bind_some hGc
    refine wl0 rfl (op_call hf TF.cl97 rfl (by decide) (spec_l1In_ok (S := fun _ => True) mk_int mk_int mk_int hy) fun v w a hp hf => ?_)
    obtain ⟨hb, hp⟩ := hp
    obtain rfl := VR_bool hp
    have H := H.keep hb
    refine pRun_ok (tb := tab) (n := 16) tabOk 1 _ _ hf rfl rfl fun a hf => ?_
    refine (Bool.eq_false_or_eq_true (y)).elim (fun hc => ?_) (fun hc => ?_)
    · rw [if_pos hc] at hGc
      have hf := hf.lit 6 rfl hc
      refine pRun_ok (tb := tab) (n := 16) tabOk 1 _ _ hf rfl rfl fun a hf => ?_
      refine wlg hf rfl rfl rfl (op_q hf (rq_loadB hf H TF.ls3 0 rfl rfl rfl) rfl (by decide) fun a hf => ?_)
      obtain ⟨y2, hy2, hGc⟩ := bind_some hGc
      refine wlg hf rfl rfl rfl (op_call hf TF.cl97 rfl (by decide) (spec_l1In_ok (S := fun _ => True) mk_int mk_int mk_int hy2) fun v2 w a hp2 hf => ?_)
      obtain ⟨hb2, hp2⟩ := hp2
      obtain rfl := VR_bool hp2
      have H := H.keep hb2
      refine pRun_ok (tb := tab) (n := 16) tabOk 2 _ _ hf rfl rfl fun a hf => ?_
      refine (Bool.eq_false_or_eq_true (y2)).elim (fun hc2 => ?_) (fun hc2 => ?_)
      · rw [if_pos hc2] at hGc
        have hf := hf.lit 11 rfl hc2
        refine pRun_ok (tb := tab) (n := 16) tabOk 1 _ _ hf rfl rfl fun a hf => ?_
        refine wlg hf rfl rfl rfl (op_q hf (rq_loadB hf H TF.ls3 0 rfl rfl rfl) rfl (by decide) fun a hf => ?_)
        obtain ⟨y3, hy3, hGc⟩ := bind_some hGc
        refine wlg hf rfl rfl rfl (op_call hf TF.cl97 rfl (by decide) (spec_l1In_ok (S := fun _ => True) mk_int mk_int mk_int hy3) fun v3 w a hp3 hf => ?_)
        obtain ⟨hb3, hp3⟩ := hp3
        obtain rfl := VR_bool hp3
        have H := H.keep hb3
        refine pRun_ok (tb := tab) (n := 16) tabOk 2 _ _ hf rfl rfl fun a hf => ?_
        obtain rfl := Option.some.inj hGc
        have hf := hf.prune [2] rfl
        have H := H.let [false] [] [] []
        exact wl_end ⟨hf, H⟩
      · rw [if_neg (nt hc2)] at hGc
        have hf := hf.lit 11 rfl hc2
        refine pRun_ok (tb := tab) (n := 16) tabOk 5 _ _ hf rfl rfl fun a hf => ?_
        obtain rfl := Option.some.inj hGc
        have hf := hf.prune [2] rfl
        have H := H.let [false] [] [] []
        exact wl_end ⟨hf, H⟩
    · rw [if_neg (nt hc)] at hGc
      have hf := hf.lit 6 rfl hc
      refine pRun_ok (tb := tab) (n := 16) tabOk 10 _ _ hf rfl rfl fun a hf => ?_
      obtain rfl := Option.some.inj hGc
      have hf := hf.prune [2] rfl
      have H := H.let [false] [] [] []
      exact wl_end ⟨hf, H⟩
  rintro a w ⟨hf, H⟩
  refine then_n ?_
  refine wp_ret (?_)
  obtain rfl := Option.some.inj hF
  refine ret_1 (fn := Try.f99) (r := .tmp 2) hf rfl (rv_tmp hf rfl) ?_
  exact ⟨_, rfl, H.bel, mk_bool⟩

/- loop.example/g00897/spec.l22Line -/
set_option maxHeartbeats 1000000 in
theorem spec_l22Line_ok {fu : Nat} {w0 : World} {S : Nat → Prop} {v0_ : Value} {line : List Span} {r : Bool} (h0 : VR w0 S v0_ line) (hF : spec_l22Line fu line = some r) :
    Calls Try.prog 138 [v0_].toArray w0 fun e w' => ∃ v, e = .returned v ∧ (Below w0.heap.size w0 w' ∧ VR w' (St ⟨w0, []⟩ S [] [] [] true) v r) := by
  obtain ⟨A, c, rfl, hl⟩ := VR_list h0
  have H := Mem.start ⟨w0, []⟩ S
  have H := H.pushArg (MP.val [(.slice A line.length c)] line) hl
  refine enter Try.func138 rfl rfl (nle rfl) rfl fun a hf => ?_
  rw [spec_l22Line] at hF
  refine sq ?_
  refine reg ?_
  refine pRun_ok (tb := tab) (n := 23) tabOk 1 _ _ hf rfl rfl fun a hf => ?_
  refine wl_end ?_
  refine then_n ?_
  refine sq ?_
  refine sq ?_
  refine reg ?_
  refine pRun_ok (tb := tab) (n := 23) tabOk 1 _ _ hf rfl rfl fun a hf => ?_
  refine wl_end ?_
  refine then_n ?_
  obtain ⟨out', hB1, hF⟩ := bind_some hF
  have hf := hf.prune [0, 3] rfl
  have H := H.let [] [] [] [0]
  have hI : (fun (s : Int) (a : Act) (w : World) => match s with | i => Fr a 23 [(0, (.slice A line.length c)), (3, (.int .i64 i))] ∧ Mem ⟨w0, []⟩ S [] [] [] [(false, MP.val [(.slice A line.length c)] (line : List Span))] w) 0 a w0 := ⟨hf, H⟩
  refine mid (fun a w => ∃ s : Int, out' = Out.next s ∧ (fun (s : Int) (a : Act) (w : World) => match s with | i => Fr a 23 [(0, (.slice A line.length c)), (3, (.int .i64 i))] ∧ Mem ⟨w0, []⟩ S [] [] [] [(false, MP.val [(.slice A line.length c)] (line : List Span))] w) s a w) ?_ ?_
  · refine wp_block ?_
    refine loop_rule (fun k (s : Int) => spec_l22Line_L1 fu line k s = some out') (fun (s : Int) (a : Act) (w : World) => match s with | i => Fr a 23 [(0, (.slice A line.length c)), (3, (.int .i64 i))] ∧ Mem ⟨w0, []⟩ S [] [] [] [(false, MP.val [(.slice A line.length c)] (line : List Span))] w) (fun s h => by cases h) ?_ fu 0 a w0 hB1 hI
    rintro fk i a w hR1 hI
    replace hR1 : spec_l22Line_L1 fu line (fk + 1) i = some out' := hR1
    rw [spec_l22Line_L1] at hR1
    obtain ⟨hf, H⟩ := hI
    refine sq ?_
    refine sq ?_
    obtain ⟨c2, hGc2, hR1⟩ := bind_some hR1
    refine mid (fun a w => Fr a 23 [(0, (.slice A line.length c)), (3, (.int .i64 i)), (11, (.bool c2))] ∧ Mem ⟨w0, []⟩ S [] [] [] [(false, MP.val [(.slice A line.length c)] (line : List Span))] w) ?_ ?_
    · refine reg ?_
      refine pRun_ok (tb := tab) (n := 23) tabOk 5 _ _ hf rfl rfl fun a hf => ?_
      refine (Bool.eq_false_or_eq_true (decide (i < (line.length : Int)))).elim (fun hc => ?_) (fun hc => ?_)
      · rw [if_pos hc] at hGc2
        have hf := hf.lit 8 rfl hc
        refine pRun_ok (tb := tab) (n := 23) tabOk 3 _ _ hf rfl rfl fun a hf => ?_
        obtain rfl := Option.some.inj hGc2
        have hf := hf.prune [0, 3, 11] rfl
        have H := H.let [] [] [] [0]
        exact wl_end ⟨hf, H⟩
      · rw [if_neg (nt hc)] at hGc2
        have hf := hf.lit 8 rfl hc
        refine pRun_ok (tb := tab) (n := 23) tabOk 3 _ _ hf rfl rfl fun a hf => ?_
        obtain rfl := Option.some.inj hGc2
        have hf := hf.prune [0, 3, 11] rfl
        have H := H.let [] [] [] [0]
        exact wl_end ⟨hf, H⟩
    rintro a w ⟨hf, H⟩
    refine then_n ?_
    refine (Bool.eq_false_or_eq_true (c2)).elim (fun hc2 => ?_) (fun hc2 => ?_)
    · rw [if_pos hc2] at hR1
      refine cd_t hf rfl hc2 ?_
      refine wp_skip ?_
      refine then_n ?_
      refine sq ?_
      refine wp_block ?_
      refine sq ?_
      refine reg ?_
      refine pRun_ok (tb := tab) (n := 23) tabOk 2 _ _ hf rfl rfl fun a hf => ?_
      obtain ⟨e, he, hR1⟩ := bind_some hR1
      refine wl0 rfl (op_iaddr hf H Try.underlying96 TF.sz28 0 rfl rfl rfl he (by decide) fun p o cs a hf hr H => ?_)
      obtain rfl := Span_cells hr
      refine wl0 rfl (op_q hf (rq_loadIN hf H TF.la28 0 0 rfl rfl rfl rfl) rfl (by decide) fun a hf => ?_)
      obtain ⟨y, hy, hR1⟩ := bind_some hR1
      refine wl0 rfl (op_call hf TF.cl99 rfl (by decide) (spec_l22Span_ok (S := fun _ => True) Span_mkv hy) fun v w a hp hf => ?_)
      obtain ⟨hb, hp⟩ := hp
      obtain rfl := VR_bool hp
      have H := H.keep hb
      refine pRun_ok (tb := tab) (n := 23) tabOk 1 _ _ hf rfl rfl fun a hf => ?_
      refine wl_end ?_
      refine then_n ?_
      refine (Bool.eq_false_or_eq_true (!y)).elim (fun hc3 => ?_) (fun hc3 => ?_)
      · rw [if_pos hc3] at hR1
        refine cd_t hf rfl hc3 ?_
        refine sq ?_
        refine reg ?_
        refine pRun_ok (tb := tab) (n := 23) tabOk 1 _ _ hf rfl rfl fun a hf => ?_
        refine wl_end ?_
        refine then_n ?_
        refine wp_ret (blk_r (then_r (then_r (blk_r (then_r (then_r (?_)))))))
        obtain rfl := Option.some.inj hR1
        replace hF := on_ret hF
        obtain rfl := Option.some.inj hF
        refine ret_1 (fn := Try.f138) (r := .tmp 2) hf rfl (rv_tmp hf rfl) ?_
        exact ⟨_, rfl, H.bel, mk_bool⟩
      · rw [if_neg (nt hc3)] at hR1
        refine cd_f hf rfl hc3 ?_
        refine wp_skip ?_
        refine blk_n ?_
        refine then_n ?_
        refine reg ?_
        refine pRun_ok (tb := tab) (n := 23) tabOk 3 _ _ hf rfl rfl fun a hf => ?_
        refine wl_end ?_
        have hf := hf.prune [0, 3] rfl
        have H := H.let [] [] [] [1]
        exact then_n ⟨w64 (i + 1), hR1, hf, H⟩
    · rw [if_neg (nt hc2)] at hR1
      refine cd_f hf rfl hc2 ?_
      refine wp_exit (then_x (then_x (blk_e (?_))))
      have hf := hf.prune [0, 3] rfl
      have H := H.let [] [] [] [0]
      exact ⟨i, (Option.some.inj hR1).symm, hf, H⟩
  rintro a w ⟨i2, rfl, hf, H⟩
  replace hF := on_next hF
  refine then_n ?_
  refine sq ?_
  refine reg ?_
  refine pRun_ok (tb := tab) (n := 23) tabOk 2 _ _ hf rfl rfl fun a hf => ?_
  obtain ⟨y2, hy2, hF⟩ := bind_some hF
  refine wl0 rfl (op_call hf TF.cl97 rfl (by decide) (spec_l1In_ok (S := fun _ => True) mk_int mk_int mk_int hy2) fun v2 w a hp2 hf => ?_)
  obtain ⟨hb2, hp2⟩ := hp2
  obtain rfl := VR_bool hp2
  have H := H.keep hb2
  refine pRun_ok (tb := tab) (n := 23) tabOk 1 _ _ hf rfl rfl fun a hf => ?_
  refine wl_end ?_
  refine then_n ?_
  refine wp_ret (?_)
  obtain rfl := Option.some.inj hF
  refine ret_1 (fn := Try.f138) (r := .tmp 2) hf rfl (rv_tmp hf rfl) ?_
  exact ⟨_, rfl, H.bel, mk_bool⟩

/- loop.example/g00897/spec.l22Level -/
set_option maxHeartbeats 1000000 in
theorem spec_l22Level_ok {fu : Nat} {w0 : World} {S : Nat → Prop} {v0_ : Value} {x1 : Int} {r : Bool} (h0 : VR w0 S v0_ x1) (hF : spec_l22Level fu x1 = some r) :
    Calls Try.prog 106 [v0_].toArray w0 fun e w' => ∃ v, e = .returned v ∧ (Below w0.heap.size w0 w' ∧ VR w' (St ⟨w0, []⟩ S [] [] [] true) v r) := by
  obtain rfl := VR_int h0
  have H := Mem.start ⟨w0, []⟩ S
  refine enter Try.func106 rfl rfl (nle rfl) rfl fun a hf => ?_
  rw [spec_l22Level] at hF
  refine sq ?_
  refine reg ?_
  refine pRun_ok (tb := tab) (n := 5) tabOk 1 _ _ hf rfl rfl fun a hf => ?_
  refine wl_end ?_
  refine then_n ?_
  refine sq ?_
  refine reg ?_
  refine pRun_ok (tb := tab) (n := 5) tabOk 1 _ _ hf rfl rfl fun a hf => ?_
  obtain ⟨y, hy, hF⟩ := bind_some hF
  refine wl0 rfl (op_call hf TF.cl97 rfl (by decide) (spec_l1In_ok (S := fun _ => True) mk_int mk_int mk_int hy) fun v w a hp hf => ?_)
  obtain ⟨hb, hp⟩ := hp
  obtain rfl := VR_bool hp
  have H := H.keep hb
  refine pRun_ok (tb := tab) (n := 5) tabOk 1 _ _ hf rfl rfl fun a hf => ?_
  refine wl_end ?_
  refine then_n ?_
  refine wp_ret (?_)
  obtain rfl := Option.some.inj hF
  refine ret_1 (fn := Try.f106) (r := .tmp 2) hf rfl (rv_tmp hf rfl) ?_
  exact ⟨_, rfl, H.bel, mk_bool⟩

/- loop.example/g00897/spec.l22Kind -/
set_option maxHeartbeats 1000000 in
theorem spec_l22Kind_ok {fu : Nat} {w0 : World} {S : Nat → Prop} {v0_ : Value} {a' : Amplifier} {r : Bool} (h0 : VR w0 S v0_ a') (hF : spec_l22Kind fu a' = some r) :
    Calls Try.prog 139 [v0_].toArray w0 fun e w' => ∃ v, e = .returned v ∧ (Below w0.heap.size w0 w' ∧ VR w' (St ⟨w0, []⟩ S [] [] [] true) v r) := by
  obtain rfl := Amplifier_open h0
  have H := Mem.start ⟨w0, []⟩ S
  refine enter Try.func139 rfl rfl (nle rfl) rfl fun a hf => ?_
  rw [spec_l22Kind] at hF
  refine sq ?_
  refine reg ?_
  refine wl0 rfl (op_box hf H rfl rfl (by decide) fun b' a w hf H => ?_)
  refine pRun_ok (tb := tab) (n := 16) tabOk 1 _ _ hf rfl rfl fun a hf => ?_
  refine wl_end ?_
  refine then_n ?_
  refine sq ?_
  obtain ⟨c, hGc, hF⟩ := bind_some hF
  refine mid (fun a w => Fr a 16 [(2, (.bool c))] ∧ Mem ⟨w0, []⟩ S [] [] [] [] w) ?_ ?_
  · refine reg ?_
    refine pRun_ok (tb := tab) (n := 16) tabOk 1 _ _ hf rfl rfl fun a hf => ?_
    refine wl0 rfl (op_q hf (rq_loadB hf H TF.ls3 0 rfl rfl rfl) rfl (by decide) fun a hf => ?_)
    obtain ⟨y, hy, hGc⟩ := bind_some hGc
    refine wl0 rfl (op_call hf TF.cl97 rfl (by decide) (spec_l1In_ok (S := fun _ => True) mk_int mk_int mk_int hy) fun v w a hp hf => ?_)
    obtain ⟨hb, hp⟩ := hp
    obtain rfl := VR_bool hp
    have H := H.keep hb
    refine pRun_ok (tb := tab) (n := 16) tabOk 1 _ _ hf rfl rfl fun a hf => ?_
    refine (Bool.eq_false_or_eq_true (y)).elim (fun hc => ?_) (fun hc => ?_)
    · rw [if_pos hc] at hGc
      have hf := hf.lit 6 rfl hc
      refine pRun_ok (tb := tab) (n := 16) tabOk 1 _ _ hf rfl rfl fun a hf => ?_
      refine wlg hf rfl rfl rfl (op_q hf (rq_loadB hf H TF.ls3 0 rfl rfl rfl) rfl (by decide) fun a hf => ?_)
      obtain ⟨y2, hy2, hGc⟩ := bind_some hGc
      refine wlg hf rfl rfl rfl (op_call hf TF.cl106 rfl (by decide) (spec_l22Level_ok (S := fun _ => True) mk_int hy2) fun v2 w a hp2 hf => ?_)
      obtain ⟨hb2, hp2⟩ := hp2
      obtain rfl := VR_bool hp2
      have H := H.keep hb2
      refine pRun_ok (tb := tab) (n := 16) tabOk 2 _ _ hf rfl rfl fun a hf => ?_
      refine (Bool.eq_false_or_eq_true (y2)).elim (fun hc2 => ?_) (fun hc2 => ?_)
      · rw [if_pos hc2] at hGc
        have hf := hf.lit 11 rfl hc2
        refine pRun_ok (tb := tab) (n := 16) tabOk 1 _ _ hf rfl rfl fun a hf => ?_
        refine wlg hf rfl rfl rfl (op_q hf (rq_loadB hf H TF.ls3 0 rfl rfl rfl) rfl (by decide) fun a hf => ?_)
        obtain ⟨y3, hy3, hGc⟩ := bind_some hGc
        refine wlg hf rfl rfl rfl (op_call hf TF.cl97 rfl (by decide) (spec_l1In_ok (S := fun _ => True) mk_int mk_int mk_int hy3) fun v3 w a hp3 hf => ?_)
        obtain ⟨hb3, hp3⟩ := hp3
        obtain rfl := VR_bool hp3
        have H := H.keep hb3
        refine pRun_ok (tb := tab) (n := 16) tabOk 2 _ _ hf rfl rfl fun a hf => ?_
        obtain rfl := Option.some.inj hGc
        have hf := hf.prune [2] rfl
        have H := H.let [false] [] [] []
        exact wl_end ⟨hf, H⟩
      · rw [if_neg (nt hc2)] at hGc
        have hf := hf.lit 11 rfl hc2
        refine pRun_ok (tb := tab) (n := 16) tabOk 5 _ _ hf rfl rfl fun a hf => ?_
        obtain rfl := Option.some.inj hGc
        have hf := hf.prune [2] rfl
        have H := H.let [false] [] [] []
        exact wl_end ⟨hf, H⟩
    · rw [if_neg (nt hc)] at hGc
      have hf := hf.lit 6 rfl hc
      refine pRun_ok (tb := tab) (n := 16) tabOk 10 _ _ hf rfl rfl fun a hf => ?_
      obtain rfl := Option.some.inj hGc
      have hf := hf.prune [2] rfl
      have H := H.let [false] [] [] []
      exact wl_end ⟨hf, H⟩
  rintro a w ⟨hf, H⟩
  refine then_n ?_
  refine wp_ret (?_)
  obtain rfl := Option.some.inj hF
  refine ret_1 (fn := Try.f139) (r := .tmp 2) hf rfl (rv_tmp hf rfl) ?_
  exact ⟨_, rfl, H.bel, mk_bool⟩

/- loop.example/g00897/spec.l22Loss -/
set_option maxHeartbeats 1000000 in
theorem spec_l22Loss_ok {fu : Nat} {w0 : World} {S : Nat → Prop} {v0_ : Value} {s' : Span} {r : Int} (h0 : VR w0 S v0_ s') (hF : spec_l22Loss fu s' = some r) :
    Calls Try.prog 100 [v0_].toArray w0 fun e w' => ∃ v, e = .returned v ∧ (Below w0.heap.size w0 w' ∧ VR w' (St ⟨w0, []⟩ S [] [] [] true) v r) := by
  obtain rfl := Span_open h0
  have H := Mem.start ⟨w0, []⟩ S
  refine enter Try.func100 rfl rfl (nle rfl) rfl fun a hf => ?_
  rw [spec_l22Loss] at hF
  refine sq ?_
  refine reg ?_
  refine wl0 rfl (op_box hf H rfl rfl (by decide) fun b' a w hf H => ?_)
  refine pRun_ok (tb := tab) (n := 14) tabOk 1 _ _ hf rfl rfl fun a hf => ?_
  refine wl_end ?_
  refine then_n ?_
  refine sq ?_
  refine reg ?_
  refine pRun_ok (tb := tab) (n := 14) tabOk 1 _ _ hf rfl rfl fun a hf => ?_
  refine wl0 rfl (op_q hf (rq_loadB hf H TF.ls3 0 rfl rfl rfl) rfl (by decide) fun a hf => ?_)
  refine pRun_ok (tb := tab) (n := 14) tabOk 1 _ _ hf rfl rfl fun a hf => ?_
  refine wl0 rfl (op_q hf (rq_loadB hf H TF.ls3 0 rfl rfl rfl) rfl (by decide) fun a hf => ?_)
  refine pRun_ok (tb := tab) (n := 14) tabOk 2 _ _ hf rfl rfl fun a hf => ?_
  obtain ⟨q, hq, hF⟩ := bind_some hF
  refine wl0 rfl (op_q hf (rq_quo hf rfl rfl hq) rfl (by decide) fun a hf => ?_)
  refine pRun_ok (tb := tab) (n := 14) tabOk 1 _ _ hf rfl rfl fun a hf => ?_
  refine wl0 rfl (op_q hf (rq_loadB hf H TF.ls3 0 rfl rfl rfl) rfl (by decide) fun a hf => ?_)
  refine pRun_ok (tb := tab) (n := 14) tabOk 3 _ _ hf rfl rfl fun a hf => ?_
  have hf := hf.prune [2] rfl
  refine wl_end ?_
  refine then_n ?_
  refine wp_ret (?_)
  obtain rfl := Option.some.inj hF
  refine ret_1 (fn := Try.f100) (r := .tmp 2) hf rfl (rv_tmp hf rfl) ?_
  exact ⟨_, rfl, H.bel, mk_int⟩

/- loop.example/g00897/spec.l1Least -/
set_option maxHeartbeats 1000000 in
theorem spec_l1Least_ok {fu : Nat} {w0 : World} {S : Nat → Prop} {v0_ : Value} {v1_ : Value} {a' : Int} {b' : Int} {r : Int} (h0 : VR w0 S v0_ a') (h1 : VR w0 S v1_ b') (hF : spec_l1Least fu a' b' = some r) :
    Calls Try.prog 162 [v0_, v1_].toArray w0 fun e w' => ∃ v, e = .returned v ∧ (Below w0.heap.size w0 w' ∧ VR w' (St ⟨w0, []⟩ S [] [] [] true) v r) := by
  obtain rfl := VR_int h0
  obtain rfl := VR_int h1
  have H := Mem.start ⟨w0, []⟩ S
  refine enter Try.func162 rfl rfl (nle rfl) rfl fun a hf => ?_
  rw [spec_l1Least] at hF
  refine sq ?_
  refine reg ?_
  refine pRun_ok (tb := tab) (n := 10) tabOk 1 _ _ hf rfl rfl fun a hf => ?_
  refine wl_end ?_
  refine then_n ?_
  refine sq ?_
  refine sq ?_
  refine reg ?_
  refine pRun_ok (tb := tab) (n := 10) tabOk 3 _ _ hf rfl rfl fun a hf => ?_
  refine wl_end ?_
  refine then_n ?_
  refine (Bool.eq_false_or_eq_true (decide (a' < b'))).elim (fun hc => ?_) (fun hc => ?_)
  · rw [if_pos hc] at hF
    refine cd_t hf rfl hc ?_
    refine sq ?_
    refine reg ?_
    refine pRun_ok (tb := tab) (n := 10) tabOk 2 _ _ hf rfl rfl fun a hf => ?_
    refine wl_end ?_
    refine then_n ?_
    refine wp_ret (then_r (?_))
    obtain rfl := Option.some.inj hF
    refine ret_1 (fn := Try.f162) (r := .tmp 4) hf rfl (rv_tmp hf rfl) ?_
    exact ⟨_, rfl, H.bel, mk_int⟩
  · rw [if_neg (nt hc)] at hF
    refine cd_f hf rfl hc ?_
    refine wp_skip ?_
    refine then_n ?_
    refine sq ?_
    refine reg ?_
    refine pRun_ok (tb := tab) (n := 10) tabOk 2 _ _ hf rfl rfl fun a hf => ?_
    refine wl_end ?_
    refine then_n ?_
    refine wp_ret (?_)
    obtain rfl := Option.some.inj hF
    refine ret_1 (fn := Try.f162) (r := .tmp 4) hf rfl (rv_tmp hf rfl) ?_
    exact ⟨_, rfl, H.bel, mk_int⟩

/- loop.example/g00897/spec.l1Most -/
set_option maxHeartbeats 1000000 in
theorem spec_l1Most_ok {fu : Nat} {w0 : World} {S : Nat → Prop} {v0_ : Value} {v1_ : Value} {a' : Int} {b' : Int} {r : Int} (h0 : VR w0 S v0_ a') (h1 : VR w0 S v1_ b') (hF : spec_l1Most fu a' b' = some r) :
    Calls Try.prog 161 [v0_, v1_].toArray w0 fun e w' => ∃ v, e = .returned v ∧ (Below w0.heap.size w0 w' ∧ VR w' (St ⟨w0, []⟩ S [] [] [] true) v r) := by
  obtain rfl := VR_int h0
  obtain rfl := VR_int h1
  have H := Mem.start ⟨w0, []⟩ S
  refine enter Try.func161 rfl rfl (nle rfl) rfl fun a hf => ?_
  rw [spec_l1Most] at hF
  refine sq ?_
  refine reg ?_
  refine pRun_ok (tb := tab) (n := 10) tabOk 1 _ _ hf rfl rfl fun a hf => ?_
  refine wl_end ?_
  refine then_n ?_
  refine sq ?_
  refine sq ?_
  refine reg ?_
  refine pRun_ok (tb := tab) (n := 10) tabOk 3 _ _ hf rfl rfl fun a hf => ?_
  refine wl_end ?_
  refine then_n ?_
  refine (Bool.eq_false_or_eq_true (decide (a' > b'))).elim (fun hc => ?_) (fun hc => ?_)
  · rw [if_pos hc] at hF
    refine cd_t hf rfl hc ?_
    refine sq ?_
    refine reg ?_
    refine pRun_ok (tb := tab) (n := 10) tabOk 2 _ _ hf rfl rfl fun a hf => ?_
    refine wl_end ?_
    refine then_n ?_
    refine wp_ret (then_r (?_))
    obtain rfl := Option.some.inj hF
    refine ret_1 (fn := Try.f161) (r := .tmp 4) hf rfl (rv_tmp hf rfl) ?_
    exact ⟨_, rfl, H.bel, mk_int⟩
  · rw [if_neg (nt hc)] at hF
    refine cd_f hf rfl hc ?_
    refine wp_skip ?_
    refine then_n ?_
    refine sq ?_
    refine reg ?_
    refine pRun_ok (tb := tab) (n := 10) tabOk 2 _ _ hf rfl rfl fun a hf => ?_
    refine wl_end ?_
    refine then_n ?_
    refine wp_ret (?_)
    obtain rfl := Option.some.inj hF
    refine ret_1 (fn := Try.f161) (r := .tmp 4) hf rfl (rv_tmp hf rfl) ?_
    exact ⟨_, rfl, H.bel, mk_int⟩

/- loop.example/g00897/spec.l22Raise -/
set_option maxHeartbeats 1000000 in
theorem spec_l22Raise_ok {fu : Nat} {w0 : World} {S : Nat → Prop} {v0_ : Value} {v1_ : Value} {a' : Amplifier} {level : Int} {r : Int} (h0 : VR w0 S v0_ a') (h1 : VR w0 S v1_ level) (hF : spec_l22Raise fu a' level = some r) :
    Calls Try.prog 140 [v0_, v1_].toArray w0 fun e w' => ∃ v, e = .returned v ∧ (Below w0.heap.size w0 w' ∧ VR w' (St ⟨w0, []⟩ S [] [] [] true) v r) := by
  obtain rfl := Amplifier_open h0
  obtain rfl := VR_int h1
  have H := Mem.start ⟨w0, []⟩ S
  refine enter Try.func140 rfl rfl (nle rfl) rfl fun a hf => ?_
  rw [spec_l22Raise] at hF
  refine sq ?_
  refine reg ?_
  refine wl0 rfl (op_box hf H rfl rfl (by decide) fun b' a w hf H => ?_)
  refine pRun_ok (tb := tab) (n := 14) tabOk 1 _ _ hf rfl rfl fun a hf => ?_
  refine wl_end ?_
  refine then_n ?_
  refine sq ?_
  refine reg ?_
  refine pRun_ok (tb := tab) (n := 14) tabOk 3 _ _ hf rfl rfl fun a hf => ?_
  refine wl0 rfl (op_q hf (rq_loadB hf H TF.ls3 0 rfl rfl rfl) rfl (by decide) fun a hf => ?_)
  refine pRun_ok (tb := tab) (n := 14) tabOk 2 _ _ hf rfl rfl fun a hf => ?_
  refine wl0 rfl (op_q hf (rq_loadB hf H TF.ls3 0 rfl rfl rfl) rfl (by decide) fun a hf => ?_)
  obtain ⟨y, hy, hF⟩ := bind_some hF
  refine wl0 rfl (op_call hf TF.cl162 rfl (by decide) (spec_l1Least_ok (S := fun _ => True) mk_int mk_int hy) fun v w a hp hf => ?_)
  obtain ⟨hb, hp⟩ := hp
  obtain rfl := VR_int hp
  have H := H.keep hb
  obtain ⟨y2, hy2, hF⟩ := bind_some hF
  refine wl0 rfl (op_call hf TF.cl161 rfl (by decide) (spec_l1Most_ok (S := fun _ => True) mk_int mk_int hy2) fun v2 w a hp2 hf => ?_)
  obtain ⟨hb2, hp2⟩ := hp2
  obtain rfl := VR_int hp2
  have H := H.keep hb2
  refine pRun_ok (tb := tab) (n := 14) tabOk 1 _ _ hf rfl rfl fun a hf => ?_
  refine wl_end ?_
  refine then_n ?_
  refine wp_ret (?_)
  obtain rfl := Option.some.inj hF
  refine ret_1 (fn := Try.f140) (r := .tmp 4) hf rfl (rv_tmp hf rfl) ?_
  exact ⟨_, rfl, H.bel, mk_int⟩

/- loop.example/g00897/spec.PlaceAmplifiers -/
set_option maxHeartbeats 1000000 in
theorem spec_PlaceAmplifiers_ok {fu : Nat} {w0 : World} {S : Nat → Prop} {v0_ : Value} {v1_ : Value} {v2_ : Value} {v3_ : Value} {line : List Span} {a' : Amplifier} {launch : Int} {need : Int} {r : List Amplifier × Bool} (h0 : VR w0 S v0_ line) (h1 : VR w0 S v1_ a') (h2 : VR w0 S v2_ launch) (h3 : VR w0 S v3_ need) (hF : spec_PlaceAmplifiers fu line a' launch need = some r) :
    Calls Try.prog 81 [v0_, v1_, v2_, v3_].toArray w0 fun e w' => ∃ v, e = .returned v ∧ (Below w0.heap.size w0 w' ∧ ∃ F0, ∃ u0 u1, v = .tuple #[u0, u1] ∧ VO w' F0 u0 r.1 ∧ VR w' (St ⟨w0, []⟩ S [] [] [] true) u1 r.2 ∧ New w0 w' F0) := by
  obtain ⟨A, c, rfl, hl⟩ := VR_list h0
  obtain rfl := Amplifier_open h1
  obtain rfl := VR_int h2
  obtain rfl := VR_int h3
  have H := Mem.start ⟨w0, []⟩ S
  have H := H.pushArg (MP.val [(.slice A line.length c)] line) hl
  refine enter Try.func81 rfl rfl (nle rfl) rfl fun a hf => ?_
  rw [spec_PlaceAmplifiers] at hF
  refine sq ?_
  refine reg ?_
  refine wl0 rfl (op_box hf H rfl rfl (by decide) fun b' a w hf H => ?_)
  refine pRun_ok (tb := tab) (n := 85) tabOk 2 _ _ hf rfl rfl fun a hf => ?_
  refine wl_end ?_
  refine then_n ?_
  refine sq ?_
  refine reg ?_
  refine wl0 rfl (op_bslice hf H (.sh true) rfl 88 ([] : List Amplifier) [] rfl (fun w => by kernel_rfl) rfl (by decide) rfl trivial el0 (by decide) fun A2 a w hf H => ?_)
  refine pRun_ok (tb := tab) (n := 85) tabOk 1 _ _ hf rfl rfl fun a hf => ?_
  refine wl_end ?_
  refine then_n ?_
  refine sq ?_
  refine sq ?_
  obtain ⟨c2, hGc2, hF⟩ := bind_some hF
  refine mid (fun a w => Fr a 85 [(0, (.slice A line.length c)), (2, (.int .i64 launch)), (3, (.int .i64 need)), (5, (.pointer (some ⟨b', 0, none⟩))), (10, (.slice A2 0 0)), (32, (.bool c2))] ∧ Mem ⟨w0, []⟩ S [⟨b', 88, [(.int .i64 a'.After), (.int .i64 a'.Gain), (.int .i64 a'.Output), (.int .i64 a'.Noise)]⟩] [⟨.sh true, 88, A2, 0, (([] : List Amplifier) : List Amplifier)⟩] [] [(false, MP.val [(.slice A line.length c)] (line : List Span))] w) ?_ ?_
  · refine reg ?_
    refine pRun_ok (tb := tab) (n := 85) tabOk 1 _ _ hf rfl rfl fun a hf => ?_
    obtain ⟨y, hy, hGc2⟩ := bind_some hGc2
    refine wl0 rfl (op_call hf TF.cl138 rfl (by decide) (spec_l22Line_ok (S := fun _ => True) (mk_list (rep_true (α := List Span) (H.get 0 rfl))) hy) fun v w a hp hf => ?_)
    obtain ⟨hb, hp⟩ := hp
    obtain rfl := VR_bool hp
    have H := H.keep hb
    refine pRun_ok (tb := tab) (n := 85) tabOk 2 _ _ hf rfl rfl fun a hf => ?_
    refine (Bool.eq_false_or_eq_true (!y)).elim (fun hc => ?_) (fun hc => ?_)
    · rw [if_pos hc] at hGc2
      have hf := hf.lit 18 rfl hc
      refine pRun_ok (tb := tab) (n := 85) tabOk 14 _ _ hf rfl rfl fun a hf => ?_
      obtain rfl := Option.some.inj hGc2
      have hf := hf.prune [0, 2, 3, 5, 10, 32] rfl
      have H := H.let [true] [true] [] [0]
      exact wl_end ⟨hf, H⟩
    · rw [if_neg (nt hc)] at hGc2
      have hf := hf.lit 18 rfl hc
      refine wlg hf rfl rfl rfl (op_q hf (rq_loadBN hf H TF.la88 0 rfl rfl rfl rfl) rfl (by decide) fun a hf => ?_)
      obtain ⟨y2, hy2, hGc2⟩ := bind_some hGc2
      refine wlg hf rfl rfl rfl (op_call hf TF.cl139 rfl (by decide) (spec_l22Kind_ok (S := fun _ => True) Amplifier_mkv hy2) fun v2 w a hp2 hf => ?_)
      obtain ⟨hb2, hp2⟩ := hp2
      obtain rfl := VR_bool hp2
      have H := H.keep hb2
      refine pRun_ok (tb := tab) (n := 85) tabOk 3 _ _ hf rfl rfl fun a hf => ?_
      refine (Bool.eq_false_or_eq_true (!y2)).elim (fun hc2 => ?_) (fun hc2 => ?_)
      · rw [if_pos hc2] at hGc2
        have hf := hf.lit 23 rfl hc2
        refine pRun_ok (tb := tab) (n := 85) tabOk 9 _ _ hf rfl rfl fun a hf => ?_
        obtain rfl := Option.some.inj hGc2
        have hf := hf.prune [0, 2, 3, 5, 10, 32] rfl
        have H := H.let [true] [true] [] [0]
        exact wl_end ⟨hf, H⟩
      · rw [if_neg (nt hc2)] at hGc2
        have hf := hf.lit 23 rfl hc2
        refine pRun_ok (tb := tab) (n := 85) tabOk 1 _ _ hf rfl rfl fun a hf => ?_
        obtain ⟨y3, hy3, hGc2⟩ := bind_some hGc2
        refine wlg hf rfl rfl rfl (op_call hf TF.cl106 rfl (by decide) (spec_l22Level_ok (S := fun _ => True) mk_int hy3) fun v3 w a hp3 hf => ?_)
        obtain ⟨hb3, hp3⟩ := hp3
        obtain rfl := VR_bool hp3
        have H := H.keep hb3
        refine pRun_ok (tb := tab) (n := 85) tabOk 3 _ _ hf rfl rfl fun a hf => ?_
        refine (Bool.eq_false_or_eq_true (!y3)).elim (fun hc3 => ?_) (fun hc3 => ?_)
        · rw [if_pos hc3] at hGc2
          have hf := hf.lit 28 rfl hc3
          refine pRun_ok (tb := tab) (n := 85) tabOk 4 _ _ hf rfl rfl fun a hf => ?_
          obtain rfl := Option.some.inj hGc2
          have hf := hf.prune [0, 2, 3, 5, 10, 32] rfl
          have H := H.let [true] [true] [] [0]
          exact wl_end ⟨hf, H⟩
        · rw [if_neg (nt hc3)] at hGc2
          have hf := hf.lit 28 rfl hc3
          refine pRun_ok (tb := tab) (n := 85) tabOk 1 _ _ hf rfl rfl fun a hf => ?_
          obtain ⟨y4, hy4, hGc2⟩ := bind_some hGc2
          refine wlg hf rfl rfl rfl (op_call hf TF.cl106 rfl (by decide) (spec_l22Level_ok (S := fun _ => True) mk_int hy4) fun v4 w a hp4 hf => ?_)
          obtain ⟨hb4, hp4⟩ := hp4
          obtain rfl := VR_bool hp4
          have H := H.keep hb4
          refine pRun_ok (tb := tab) (n := 85) tabOk 2 _ _ hf rfl rfl fun a hf => ?_
          obtain rfl := Option.some.inj hGc2
          have hf := hf.prune [0, 2, 3, 5, 10, 32] rfl
          have H := H.let [true] [true] [] [0]
          exact wl_end ⟨hf, H⟩
  rintro a w ⟨hf, H⟩
  refine then_n ?_
  refine (Bool.eq_false_or_eq_true (c2)).elim (fun hc4 => ?_) (fun hc4 => ?_)
  · rw [if_pos hc4] at hF
    refine cd_t hf rfl hc4 ?_
    refine sq ?_
    refine reg ?_
    refine pRun_ok (tb := tab) (n := 85) tabOk 3 _ _ hf rfl rfl fun a hf => ?_
    refine wl_end ?_
    refine then_n ?_
    refine wp_ret (then_r (?_))
    have H := H.rowOwn 0 rfl rfl
    obtain ⟨F, H⟩ := H.freezeOwn 0 rfl
    have H := H.lend 0 rfl
    obtain rfl := Option.some.inj hF
    refine ret_2 (fn := Try.f81) (r := .tmp 8) (s := .tmp 9) hf rfl (rv_tmp hf rfl) (rv_tmp hf rfl) ?_
    have hN : New w0 w F := by simpa using H.ends (X := [(⟨F, MP.own F [(.slice A2 0 0)] (([] : List Amplifier) : List Amplifier)⟩ : DI)])
    exact ⟨_, rfl, H.bel, F, _, _, rfl, (mko_list (H.ownAt 0 rfl)), mk_bool, hN⟩
  · rw [if_neg (nt hc4)] at hF
    refine cd_f hf rfl hc4 ?_
    refine wp_skip ?_
    refine then_n ?_
    refine sq ?_
    refine reg ?_
    refine pRun_ok (tb := tab) (n := 85) tabOk 2 _ _ hf rfl rfl fun a hf => ?_
    refine wl_end ?_
    refine then_n ?_
    refine sq ?_
    refine sq ?_
    refine reg ?_
    refine pRun_ok (tb := tab) (n := 85) tabOk 1 _ _ hf rfl rfl fun a hf => ?_
    refine wl_end ?_
    refine then_n ?_
    obtain ⟨out2, hB1, hF⟩ := bind_some hF
    have hf := hf.prune [0, 3, 5, 10, 11, 12] rfl
    have H := H.let [true] [true] [] [0]
    have hI : (fun (s : List Amplifier × Int × Int) (a : Act) (w : World) => match s with | (out', now, i) => ∃ (A3 : Option Addr) (c3 : Nat), Fr a 85 [(0, (.slice A line.length c)), (3, (.int .i64 need)), (5, (.pointer (some ⟨b', 0, none⟩))), (10, (.slice A3 out'.length c3)), (11, (.int .i64 now)), (12, (.int .i64 i))] ∧ Mem ⟨w0, []⟩ S [⟨b', 88, [(.int .i64 a'.After), (.int .i64 a'.Gain), (.int .i64 a'.Output), (.int .i64 a'.Noise)]⟩] [⟨.sh true, 88, A3, c3, (out' : List Amplifier)⟩] [] [(false, MP.val [(.slice A line.length c)] (line : List Span))] w) (([] : List Amplifier), launch, 0) a w := ⟨A2, 0, hf, H⟩
    refine mid (fun a w => ∃ s : List Amplifier × Int × Int, out2 = Out.next s ∧ (fun (s : List Amplifier × Int × Int) (a : Act) (w : World) => match s with | (out', now, i) => ∃ (A3 : Option Addr) (c3 : Nat), Fr a 85 [(0, (.slice A line.length c)), (3, (.int .i64 need)), (5, (.pointer (some ⟨b', 0, none⟩))), (10, (.slice A3 out'.length c3)), (11, (.int .i64 now)), (12, (.int .i64 i))] ∧ Mem ⟨w0, []⟩ S [⟨b', 88, [(.int .i64 a'.After), (.int .i64 a'.Gain), (.int .i64 a'.Output), (.int .i64 a'.Noise)]⟩] [⟨.sh true, 88, A3, c3, (out' : List Amplifier)⟩] [] [(false, MP.val [(.slice A line.length c)] (line : List Span))] w) s a w) ?_ ?_
    · refine wp_block ?_
      refine loop_rule (fun k (s : List Amplifier × Int × Int) => spec_PlaceAmplifiers_L1 fu line a' need k s.1 s.2.1 s.2.2 = some out2) (fun (s : List Amplifier × Int × Int) (a : Act) (w : World) => match s with | (out', now, i) => ∃ (A3 : Option Addr) (c3 : Nat), Fr a 85 [(0, (.slice A line.length c)), (3, (.int .i64 need)), (5, (.pointer (some ⟨b', 0, none⟩))), (10, (.slice A3 out'.length c3)), (11, (.int .i64 now)), (12, (.int .i64 i))] ∧ Mem ⟨w0, []⟩ S [⟨b', 88, [(.int .i64 a'.After), (.int .i64 a'.Gain), (.int .i64 a'.Output), (.int .i64 a'.Noise)]⟩] [⟨.sh true, 88, A3, c3, (out' : List Amplifier)⟩] [] [(false, MP.val [(.slice A line.length c)] (line : List Span))] w) (fun s h => by cases h) ?_ fu (([] : List Amplifier), launch, 0) a w hB1 hI
      rintro fk ⟨out', now, i⟩ a w hR1 hI
      replace hR1 : spec_PlaceAmplifiers_L1 fu line a' need (fk + 1) out' now i = some out2 := hR1
      rw [spec_PlaceAmplifiers_L1] at hR1
      obtain ⟨A3, c3, hf, H⟩ := hI
      refine sq ?_
      refine sq ?_
      refine reg ?_
      refine pRun_ok (tb := tab) (n := 85) tabOk 4 _ _ hf rfl rfl fun a hf => ?_
      refine wl_end ?_
      refine then_n ?_
      refine (Bool.eq_false_or_eq_true (decide (i < (line.length : Int)))).elim (fun hc5 => ?_) (fun hc5 => ?_)
      · rw [if_pos hc5] at hR1
        refine cd_t hf rfl hc5 ?_
        refine wp_skip ?_
        refine then_n ?_
        refine sq ?_
        refine wp_block ?_
        refine sq ?_
        refine reg ?_
        refine pRun_ok (tb := tab) (n := 85) tabOk 3 _ _ hf rfl rfl fun a hf => ?_
        obtain ⟨e, he, hR1⟩ := bind_some hR1
        refine wl0 rfl (op_iaddr hf H Try.underlying96 TF.sz28 0 rfl rfl rfl he (by decide) fun p o cs a hf hr H => ?_)
        obtain rfl := Span_cells hr
        refine wl0 rfl (op_q hf (rq_loadIN hf H TF.la28 0 0 rfl rfl rfl rfl) rfl (by decide) fun a hf => ?_)
        obtain ⟨y5, hy5, hR1⟩ := bind_some hR1
        refine wl0 rfl (op_call hf TF.cl100 rfl (by decide) (spec_l22Loss_ok (S := fun _ => True) Span_mkv hy5) fun v5 w a hp5 hf => ?_)
        obtain ⟨hb5, hp5⟩ := hp5
        obtain rfl := VR_int hp5
        have H := H.keep hb5
        refine pRun_ok (tb := tab) (n := 85) tabOk 2 _ _ hf rfl rfl fun a hf => ?_
        refine wl_end ?_
        refine then_n ?_
        refine sq ?_
        refine sq ?_
        obtain ⟨c4, hGc4, hR1⟩ := bind_some hR1
        refine mid (fun a w => Fr a 85 [(0, (.slice A line.length c)), (3, (.int .i64 need)), (5, (.pointer (some ⟨b', 0, none⟩))), (10, (.slice A3 out'.length c3)), (11, (.int .i64 (w64 (now - y5)))), (12, (.int .i64 i)), (55, (.bool c4))] ∧ Mem ⟨w0, []⟩ S [⟨b', 88, [(.int .i64 a'.After), (.int .i64 a'.Gain), (.int .i64 a'.Output), (.int .i64 a'.Noise)]⟩] [⟨.sh true, 88, A3, c3, (out' : List Amplifier)⟩] [] [(false, MP.val [(.slice A line.length c)] (line : List Span))] w) ?_ ?_
        · refine reg ?_
          refine pRun_ok (tb := tab) (n := 85) tabOk 1 _ _ hf rfl rfl fun a hf => ?_
          obtain ⟨y6, hy6, hGc4⟩ := bind_some hGc4
          refine wl0 rfl (op_call hf TF.cl106 rfl (by decide) (spec_l22Level_ok (S := fun _ => True) mk_int hy6) fun v6 w a hp6 hf => ?_)
          obtain ⟨hb6, hp6⟩ := hp6
          obtain rfl := VR_bool hp6
          have H := H.keep hb6
          refine pRun_ok (tb := tab) (n := 85) tabOk 2 _ _ hf rfl rfl fun a hf => ?_
          refine (Bool.eq_false_or_eq_true (!y6)).elim (fun hc6 => ?_) (fun hc6 => ?_)
          · rw [if_pos hc6] at hGc4
            have hf := hf.lit 51 rfl hc6
            refine pRun_ok (tb := tab) (n := 85) tabOk 4 _ _ hf rfl rfl fun a hf => ?_
            obtain rfl := Option.some.inj hGc4
            have hf := hf.prune [0, 3, 5, 10, 11, 12, 55] rfl
            have H := H.let [true] [true] [] [1]
            exact wl_end ⟨hf, H⟩
          · rw [if_neg (nt hc6)] at hGc4
            have hf := hf.lit 51 rfl hc6
            refine pRun_ok (tb := tab) (n := 85) tabOk 4 _ _ hf rfl rfl fun a hf => ?_
            obtain rfl := Option.some.inj hGc4
            have hf := hf.prune [0, 3, 5, 10, 11, 12, 55] rfl
            have H := H.let [true] [true] [] [1]
            exact wl_end ⟨hf, H⟩
        rintro a w ⟨hf, H⟩
        refine then_n ?_
        refine (Bool.eq_false_or_eq_true (c4)).elim (fun hc7 => ?_) (fun hc7 => ?_)
        · rw [if_pos hc7] at hR1
          refine cd_t hf rfl hc7 ?_
          refine sq ?_
          refine reg ?_
          refine wl0 rfl (op_bslice hf H (.sh true) rfl 88 ([] : List Amplifier) [] rfl (fun w => by kernel_rfl) rfl (by decide) rfl trivial el0 (by decide) fun A4 a w hf H => ?_)
          refine pRun_ok (tb := tab) (n := 85) tabOk 2 _ _ hf rfl rfl fun a hf => ?_
          refine wl_end ?_
          refine then_n ?_
          refine wp_ret (then_r (blk_r (then_r (then_r (blk_r (then_r (then_r (?_))))))))
          have H := H.rowOwn 0 rfl rfl
          obtain ⟨F2, H⟩ := H.freezeOwn 0 rfl
          have H := H.lend 0 rfl
          obtain rfl := Option.some.inj hR1
          replace hF := on_ret hF
          obtain rfl := Option.some.inj hF
          refine ret_2 (fn := Try.f81) (r := .tmp 8) (s := .tmp 9) hf rfl (rv_tmp hf rfl) (rv_tmp hf rfl) ?_
          have hN : New w0 w F2 := by simpa using H.ends (X := [(⟨F2, MP.own F2 [(.slice A4 0 0)] (([] : List Amplifier) : List Amplifier)⟩ : DI)])
          exact ⟨_, rfl, H.bel, F2, _, _, rfl, (mko_list (H.ownAt 0 rfl)), mk_bool, hN⟩
        · rw [if_neg (nt hc7)] at hR1
          refine cd_f hf rfl hc7 ?_
          refine wp_skip ?_
          refine then_n ?_
          refine sq ?_
          obtain ⟨c5, hGc5, hR1⟩ := bind_some hR1
          refine mid (fun a w => Fr a 85 [(0, (.slice A line.length c)), (3, (.int .i64 need)), (5, (.pointer (some ⟨b', 0, none⟩))), (10, (.slice A3 out'.length c3)), (11, (.int .i64 (w64 (now - y5)))), (12, (.int .i64 i)), (73, (.bool c5))] ∧ Mem ⟨w0, []⟩ S [⟨b', 88, [(.int .i64 a'.After), (.int .i64 a'.Gain), (.int .i64 a'.Output), (.int .i64 a'.Noise)]⟩] [⟨.sh true, 88, A3, c3, (out' : List Amplifier)⟩] [] [(false, MP.val [(.slice A line.length c)] (line : List Span))] w) ?_ ?_
          · refine reg ?_
            refine pRun_ok (tb := tab) (n := 85) tabOk 6 _ _ hf rfl rfl fun a hf => ?_
            refine (Bool.eq_false_or_eq_true (decide ((w64 (i + 1)) < (line.length : Int)))).elim (fun hc8 => ?_) (fun hc8 => ?_)
            · rw [if_pos hc8] at hGc5
              have hf := hf.lit 62 rfl hc8
              refine pRun_ok (tb := tab) (n := 85) tabOk 4 _ _ hf rfl rfl fun a hf => ?_
              obtain ⟨e2, he2, hGc5⟩ := bind_some hGc5
              refine wlg hf rfl rfl rfl (op_iaddr hf H Try.underlying96 TF.sz28 0 rfl rfl rfl he2 (by decide) fun p2 o2 cs2 a hf hr2 H => ?_)
              obtain rfl := Span_cells hr2
              refine wlg hf rfl rfl rfl (op_q hf (rq_loadIN hf H TF.la28 0 0 rfl rfl rfl rfl) rfl (by decide) fun a hf => ?_)
              obtain ⟨y7, hy7, hGc5⟩ := bind_some hGc5
              refine wlg hf rfl rfl rfl (op_call hf TF.cl100 rfl (by decide) (spec_l22Loss_ok (S := fun _ => True) Span_mkv hy7) fun v7 w a hp7 hf => ?_)
              obtain ⟨hb7, hp7⟩ := hp7
              obtain rfl := VR_int hp7
              have H := H.keep hb7
              refine pRun_ok (tb := tab) (n := 85) tabOk 4 _ _ hf rfl rfl fun a hf => ?_
              obtain rfl := Option.some.inj hGc5
              have hf := hf.prune [0, 3, 5, 10, 11, 12, 73] rfl
              have H := H.let [true] [true] [] [1]
              exact wl_end ⟨hf, H⟩
            · rw [if_neg (nt hc8)] at hGc5
              have hf := hf.lit 62 rfl hc8
              refine pRun_ok (tb := tab) (n := 85) tabOk 11 _ _ hf rfl rfl fun a hf => ?_
              obtain rfl := Option.some.inj hGc5
              have hf := hf.prune [0, 3, 5, 10, 11, 12, 73] rfl
              have H := H.let [true] [true] [] [0]
              exact wl_end ⟨hf, H⟩
          rintro a w ⟨hf, H⟩
          refine then_n ?_
          refine (Bool.eq_false_or_eq_true (c5)).elim (fun hc9 => ?_) (fun hc9 => ?_)
          · rw [if_pos hc9] at hR1
            refine cd_t hf rfl hc9 ?_
            refine sq ?_
            refine reg ?_
            refine wl0 rfl (op_q hf (rq_loadBN hf H TF.la88 0 rfl rfl rfl rfl) rfl (by decide) fun a hf => ?_)
            refine wl0 rfl (op_alloc hf H TF.zv88 rfl (by decide) fun b2 a w hf H => ?_)
            refine wl0 rfl (op_storeB hf H 0 TF.sz88 rfl rfl rfl rfl rfl rfl (nle rfl) fun w H => ?_)
            refine wl_end ?_
            refine then_n ?_
            refine sq ?_
            refine reg ?_
            refine pRun_ok (tb := tab) (n := 85) tabOk 2 _ _ hf rfl rfl fun a hf => ?_
            refine wl0 rfl (op_storeB hf H 0 TF.sz3 rfl rfl rfl rfl rfl rfl (nle rfl) fun w H => ?_)
            refine wl_end ?_
            refine then_n ?_
            refine sq ?_
            refine reg ?_
            refine pRun_ok (tb := tab) (n := 85) tabOk 1 _ _ hf rfl rfl fun a hf => ?_
            refine wl0 rfl (op_q hf (rq_loadBN hf H TF.la88 0 rfl rfl rfl rfl) rfl (by decide) fun a hf => ?_)
            refine wl0 rfl (op_bslice hf H (.sh true) rfl 88 ([({ After := i, Gain := a'.Gain, Output := a'.Output, Noise := a'.Noise } : Amplifier)] : List Amplifier) [(.int .i64 i), (.int .i64 a'.Gain), (.int .i64 a'.Output), (.int .i64 a'.Noise)] rfl (fun w => by kernel_rfl) rfl (by decide) rfl trivial (el1 (y := ({ After := i, Gain := a'.Gain, Output := a'.Output, Noise := a'.Noise } : Amplifier)) (Amplifier_mk (x := ({ After := i, Gain := a'.Gain, Output := a'.Output, Noise := a'.Noise } : Amplifier)))) (by decide) fun A5 a w hf H => ?_)
            obtain ⟨l, hl, hR1⟩ := bind_some hR1
            refine wl0 rfl (op_appR hf H Try.underlying63 TF.ai88 rfl (by decide) 1 0 rfl rfl rfl rfl (.inr rfl) hl (by decide) fun A6 c6 a w hf H => ?_)
            refine pRun_ok (tb := tab) (n := 85) tabOk 1 _ _ hf rfl rfl fun a hf => ?_
            refine wl_end ?_
            refine then_n ?_
            refine reg ?_
            refine wl0 rfl (op_q hf (rq_loadBN hf H TF.la88 1 rfl rfl rfl rfl) rfl (by decide) fun a hf => ?_)
            refine pRun_ok (tb := tab) (n := 85) tabOk 1 _ _ hf rfl rfl fun a hf => ?_
            obtain ⟨y8, hy8, hR1⟩ := bind_some hR1
            refine wl0 rfl (op_call hf TF.cl140 rfl (by decide) (spec_l22Raise_ok (S := fun _ => True) Amplifier_mkv mk_int hy8) fun v8 w a hp8 hf => ?_)
            obtain ⟨hb8, hp8⟩ := hp8
            obtain rfl := VR_int hp8
            have H := H.keep hb8
            refine pRun_ok (tb := tab) (n := 85) tabOk 1 _ _ hf rfl rfl fun a hf => ?_
            refine wl_end ?_
            refine blk_n ?_
            refine then_n ?_
            refine reg ?_
            refine pRun_ok (tb := tab) (n := 85) tabOk 3 _ _ hf rfl rfl fun a hf => ?_
            have hf := hf.prune [0, 3, 5, 10, 11, 12] rfl
            refine wl_end ?_
            have hf := hf.prune [0, 3, 5, 10, 11, 12] rfl
            have H := H.let [false, true] [false, true] [] [0]
            exact then_n ⟨(l, y8, w64 (i + 1)), hR1, A6, c6, hf, H⟩
          · rw [if_neg (nt hc9)] at hR1
            refine cd_f hf rfl hc9 ?_
            refine wp_skip ?_
            refine blk_n ?_
            refine then_n ?_
            refine reg ?_
            refine pRun_ok (tb := tab) (n := 85) tabOk 3 _ _ hf rfl rfl fun a hf => ?_
            refine wl_end ?_
            have hf := hf.prune [0, 3, 5, 10, 11, 12] rfl
            have H := H.let [true] [true] [] [0]
            exact then_n ⟨(out', w64 (now - y5), w64 (i + 1)), hR1, A3, c3, hf, H⟩
      · rw [if_neg (nt hc5)] at hR1
        refine cd_f hf rfl hc5 ?_
        refine wp_exit (then_x (then_x (blk_e (?_))))
        have hf := hf.prune [0, 3, 5, 10, 11, 12] rfl
        have H := H.let [true] [true] [] [0]
        exact ⟨(out', now, i), (Option.some.inj hR1).symm, A3, c3, hf, H⟩
    rintro a w ⟨⟨out3, now2, i2⟩, rfl, A7, c7, hf, H⟩
    replace hF := on_next hF
    dsimp only at hF
    refine then_n ?_
    refine sq ?_
    refine reg ?_
    refine pRun_ok (tb := tab) (n := 85) tabOk 3 _ _ hf rfl rfl fun a hf => ?_
    refine wl_end ?_
    refine then_n ?_
    refine wp_ret (?_)
    have H := H.rowOwn 0 rfl rfl
    obtain ⟨F3, H⟩ := H.freezeOwn 0 rfl
    have H := H.lend 0 rfl
    obtain rfl := Option.some.inj hF
    refine ret_2 (fn := Try.f81) (r := .tmp 8) (s := .tmp 9) hf rfl (rv_tmp hf rfl) (rv_tmp hf rfl) ?_
    have hN : New w0 w F3 := by simpa using H.ends (X := [(⟨F3, MP.own F3 [(.slice A7 out3.length c7)] (out3 : List Amplifier)⟩ : DI)])
    exact ⟨_, rfl, H.bel, F3, _, _, rfl, (mko_list (H.ownAt 0 rfl)), mk_bool, hN⟩

/- loop.example/g00897/impl.within -/
set_option maxHeartbeats 1000000 in
theorem impl_within_ok {fu : Nat} {w0 : World} {S : Nat → Prop} {v0_ : Value} {v1_ : Value} {v2_ : Value} {n' : Int} {low : Int} {high : Int} {r : Bool} (h0 : VR w0 S v0_ n') (h1 : VR w0 S v1_ low) (h2 : VR w0 S v2_ high) (hF : impl_within fu n' low high = some r) :
    Calls Try.prog 98 [v0_, v1_, v2_].toArray w0 fun e w' => ∃ v, e = .returned v ∧ (Below w0.heap.size w0 w' ∧ VR w' (St ⟨w0, []⟩ S [] [] [] true) v r) := by
  obtain rfl := VR_int h0
  obtain rfl := VR_int h1
  obtain rfl := VR_int h2
  have H := Mem.start ⟨w0, []⟩ S
  refine enter Try.func98 rfl rfl (nle rfl) rfl fun a hf => ?_
  rw [impl_within] at hF
  refine sq ?_
  refine reg ?_
  refine pRun_ok (tb := tab) (n := 15) tabOk 1 _ _ hf rfl rfl fun a hf => ?_
  refine wl_end ?_
  refine then_n ?_
  refine sq ?_
  obtain ⟨c, hGc, hF⟩ := bind_some hF
  refine mid (fun a w => Fr a 15 [(6, (.bool c))] ∧ Mem ⟨w0, []⟩ S [] [] [] [] w) ?_ ?_
  · refine reg ?_
    refine pRun_ok (tb := tab) (n := 15) tabOk 4 _ _ hf rfl rfl fun a hf => ?_
    refine (Bool.eq_false_or_eq_true (decide (low ≤ n'))).elim (fun hc => ?_) (fun hc => ?_)
    · rw [if_pos hc] at hGc
      have hf := hf.lit 10 rfl hc
      refine pRun_ok (tb := tab) (n := 15) tabOk 5 _ _ hf rfl rfl fun a hf => ?_
      obtain rfl := Option.some.inj hGc
      have hf := hf.prune [6] rfl
      have H := H.let [] [] [] []
      exact wl_end ⟨hf, H⟩
    · rw [if_neg (nt hc)] at hGc
      have hf := hf.lit 10 rfl hc
      refine pRun_ok (tb := tab) (n := 15) tabOk 5 _ _ hf rfl rfl fun a hf => ?_
      obtain rfl := Option.some.inj hGc
      have hf := hf.prune [6] rfl
      have H := H.let [] [] [] []
      exact wl_end ⟨hf, H⟩
  rintro a w ⟨hf, H⟩
  refine then_n ?_
  refine wp_ret (?_)
  obtain rfl := Option.some.inj hF
  refine ret_1 (fn := Try.f98) (r := .tmp 6) hf rfl (rv_tmp hf rfl) ?_
  exact ⟨_, rfl, H.bel, mk_bool⟩

/- loop.example/g00897/impl.isSpan -/
set_option maxHeartbeats 1000000 in
theorem impl_isSpan_ok {fu : Nat} {w0 : World} {S : Nat → Prop} {v0_ : Value} {s' : Span} {r : Bool} (h0 : VR w0 S v0_ s') (hF : impl_isSpan fu s' = some r) :
    Calls Try.prog 101 [v0_].toArray w0 fun e w' => ∃ v, e = .returned v ∧ (Below w0.heap.size w0 w' ∧ VR w' (St ⟨w0, []⟩ S [] [] [] true) v r) := by
  obtain rfl := Span_open h0
  have H := Mem.start ⟨w0, []⟩ S
  refine enter Try.func101 rfl rfl (nle rfl) rfl fun a hf => ?_
  rw [impl_isSpan] at hF
  refine sq ?_
  refine reg ?_
  refine wl0 rfl (op_box hf H rfl rfl (by decide) fun b' a w hf H => ?_)
  refine pRun_ok (tb := tab) (n := 16) tabOk 1 _ _ hf rfl rfl fun a hf => ?_
  refine wl_end ?_
  refine then_n ?_
  refine sq ?_
  obtain ⟨c, hGc, hF⟩ := bind_some hF
  refine mid (fun a w => Fr a 16 [(2, (.bool c))] ∧ Mem ⟨w0, []⟩ S [] [] [] [] w) ?_ ?_
  · refine reg ?_
    refine pRun_ok (tb := tab) (n := 16) tabOk 1 _ _ hf rfl rfl fun a hf => ?_
    refine wl0 rfl (op_q hf (rq_loadB hf H TF.ls3 0 rfl rfl rfl) rfl (by decide) fun a hf => ?_)
    obtain ⟨y, hy, hGc⟩ := bind_some hGc
    refine wl0 rfl (op_call hf TF.cl98 rfl (by decide) (impl_within_ok (S := fun _ => True) mk_int mk_int mk_int hy) fun v w a hp hf => ?_)
    obtain ⟨hb, hp⟩ := hp
    obtain rfl := VR_bool hp
    have H := H.keep hb
    refine pRun_ok (tb := tab) (n := 16) tabOk 1 _ _ hf rfl rfl fun a hf => ?_
    refine (Bool.eq_false_or_eq_true (y)).elim (fun hc => ?_) (fun hc => ?_)
    · rw [if_pos hc] at hGc
      have hf := hf.lit 6 rfl hc
      refine pRun_ok (tb := tab) (n := 16) tabOk 1 _ _ hf rfl rfl fun a hf => ?_
      refine wlg hf rfl rfl rfl (op_q hf (rq_loadB hf H TF.ls3 0 rfl rfl rfl) rfl (by decide) fun a hf => ?_)
      obtain ⟨y2, hy2, hGc⟩ := bind_some hGc
      refine wlg hf rfl rfl rfl (op_call hf TF.cl98 rfl (by decide) (impl_within_ok (S := fun _ => True) mk_int mk_int mk_int hy2) fun v2 w a hp2 hf => ?_)
      obtain ⟨hb2, hp2⟩ := hp2
      obtain rfl := VR_bool hp2
      have H := H.keep hb2
      refine pRun_ok (tb := tab) (n := 16) tabOk 2 _ _ hf rfl rfl fun a hf => ?_
      refine (Bool.eq_false_or_eq_true (y2)).elim (fun hc2 => ?_) (fun hc2 => ?_)
      · rw [if_pos hc2] at hGc
        have hf := hf.lit 11 rfl hc2
        refine pRun_ok (tb := tab) (n := 16) tabOk 1 _ _ hf rfl rfl fun a hf => ?_
        refine wlg hf rfl rfl rfl (op_q hf (rq_loadB hf H TF.ls3 0 rfl rfl rfl) rfl (by decide) fun a hf => ?_)
        obtain ⟨y3, hy3, hGc⟩ := bind_some hGc
        refine wlg hf rfl rfl rfl (op_call hf TF.cl98 rfl (by decide) (impl_within_ok (S := fun _ => True) mk_int mk_int mk_int hy3) fun v3 w a hp3 hf => ?_)
        obtain ⟨hb3, hp3⟩ := hp3
        obtain rfl := VR_bool hp3
        have H := H.keep hb3
        refine pRun_ok (tb := tab) (n := 16) tabOk 2 _ _ hf rfl rfl fun a hf => ?_
        obtain rfl := Option.some.inj hGc
        have hf := hf.prune [2] rfl
        have H := H.let [false] [] [] []
        exact wl_end ⟨hf, H⟩
      · rw [if_neg (nt hc2)] at hGc
        have hf := hf.lit 11 rfl hc2
        refine pRun_ok (tb := tab) (n := 16) tabOk 5 _ _ hf rfl rfl fun a hf => ?_
        obtain rfl := Option.some.inj hGc
        have hf := hf.prune [2] rfl
        have H := H.let [false] [] [] []
        exact wl_end ⟨hf, H⟩
    · rw [if_neg (nt hc)] at hGc
      have hf := hf.lit 6 rfl hc
      refine pRun_ok (tb := tab) (n := 16) tabOk 10 _ _ hf rfl rfl fun a hf => ?_
      obtain rfl := Option.some.inj hGc
      have hf := hf.prune [2] rfl
      have H := H.let [false] [] [] []
      exact wl_end ⟨hf, H⟩
  rintro a w ⟨hf, H⟩
  refine then_n ?_
  refine wp_ret (?_)
  obtain rfl := Option.some.inj hF
  refine ret_1 (fn := Try.f101) (r := .tmp 2) hf rfl (rv_tmp hf rfl) ?_
  exact ⟨_, rfl, H.bel, mk_bool⟩

/- loop.example/g00897/impl.isLine$1 -/
set_option maxHeartbeats 1000000 in
theorem impl_isLine_c1_ok {fu : Nat} {w0 : World} {S : Nat → Prop} {v0_ : Value} {s' : Span} {r : Bool} (h0 : VR w0 S v0_ s') (hF : impl_isLine_c1 fu s' = some r) :
    Calls Try.prog 164 [v0_].toArray w0 fun e w' => ∃ v, e = .returned v ∧ (Below w0.heap.size w0 w' ∧ VR w' (St ⟨w0, []⟩ S [] [] [] true) v r) := by
  obtain rfl := Span_open h0
  have H := Mem.start ⟨w0, []⟩ S
  refine enter Try.func164 rfl rfl (nle rfl) rfl fun a hf => ?_
  rw [impl_isLine_c1] at hF
  refine sq ?_
  refine reg ?_
  refine wl0 rfl (op_box hf H rfl rfl (by decide) fun b' a w hf H => ?_)
  refine pRun_ok (tb := tab) (n := 6) tabOk 1 _ _ hf rfl rfl fun a hf => ?_
  refine wl_end ?_
  refine then_n ?_
  refine sq ?_
  refine reg ?_
  refine wl0 rfl (op_q hf (rq_loadBN hf H TF.la28 0 rfl rfl rfl rfl) rfl (by decide) fun a hf => ?_)
  obtain ⟨y, hy, hF⟩ := bind_some hF
  refine wl0 rfl (op_call hf TF.cl101 rfl (by decide) (impl_isSpan_ok (S := fun _ => True) Span_mkv hy) fun v w a hp hf => ?_)
  obtain ⟨hb, hp⟩ := hp
  obtain rfl := VR_bool hp
  have H := H.keep hb
  refine pRun_ok (tb := tab) (n := 6) tabOk 2 _ _ hf rfl rfl fun a hf => ?_
  refine wl_end ?_
  refine then_n ?_
  refine wp_ret (?_)
  obtain rfl := Option.some.inj hF
  refine ret_1 (fn := Try.f164) (r := .tmp 2) hf rfl (rv_tmp hf rfl) ?_
  exact ⟨_, rfl, H.bel, mk_bool⟩

/- slices.IndexFunc[[]loop.example/g00897/impl.Span,loop.example/g00897/impl.Span] -/
set_option maxHeartbeats 1000000 in
theorem slices_IndexFunc_impl_Span_impl_Span_of_isLine_c1_ok {fu : Nat} {w0 : World} {S : Nat → Prop} {v0_ : Value} {s' : List Span} {r : Int} (h0 : VR w0 S v0_ s') (hF : slices_IndexFunc_impl_Span_impl_Span_of_isLine_c1 fu s' = some r) :
    Calls Try.prog 166 [v0_, (.func (.func 164) #[] #[])].toArray w0 fun e w' => ∃ v, e = .returned v ∧ (Below w0.heap.size w0 w' ∧ VR w' (St ⟨w0, []⟩ S [] [] [] true) v r) := by
  obtain ⟨A, c, rfl, hl⟩ := VR_list h0
  have H := Mem.start ⟨w0, []⟩ S
  have H := H.pushArg (MP.val [(.slice A s'.length c)] s') hl
  refine enter Try.func166 rfl rfl (nle rfl) rfl fun a hf => ?_
  rw [slices_IndexFunc_impl_Span_impl_Span_of_isLine_c1] at hF
  refine sq ?_
  refine reg ?_
  refine pRun_ok (tb := tab) (n := 19) tabOk 1 _ _ hf rfl rfl fun a hf => ?_
  refine wl_end ?_
  refine then_n ?_
  refine sq ?_
  refine sq ?_
  refine reg ?_
  refine pRun_ok (tb := tab) (n := 19) tabOk 3 _ _ hf rfl rfl fun a hf => ?_
  refine wl_end ?_
  refine then_n ?_
  obtain ⟨out', hB1, hF⟩ := bind_some hF
  have hf := hf.prune [0, 1, 7, 8] rfl
  have H := H.let [] [] [] [0]
  have hI : (fun (s : Int) (a : Act) (w : World) => match s with | i => Fr a 19 [(0, (.slice A s'.length c)), (1, (.func (.func 164) #[] #[])), (7, (.int .i64 (s'.length : Int))), (8, (.int .i64 i))] ∧ Mem ⟨w0, []⟩ S [] [] [] [(false, MP.val [(.slice A s'.length c)] (s' : List Span))] w) 0 a w0 := ⟨hf, H⟩
  refine mid (fun a w => ∃ s : Int, out' = Out.next s ∧ (fun (s : Int) (a : Act) (w : World) => match s with | i => Fr a 19 [(0, (.slice A s'.length c)), (1, (.func (.func 164) #[] #[])), (7, (.int .i64 (s'.length : Int))), (8, (.int .i64 i))] ∧ Mem ⟨w0, []⟩ S [] [] [] [(false, MP.val [(.slice A s'.length c)] (s' : List Span))] w) s a w) ?_ ?_
  · refine wp_block ?_
    refine loop_rule (fun k (s : Int) => slices_IndexFunc_impl_Span_impl_Span_of_isLine_c1_L1 fu s' k s = some out') (fun (s : Int) (a : Act) (w : World) => match s with | i => Fr a 19 [(0, (.slice A s'.length c)), (1, (.func (.func 164) #[] #[])), (7, (.int .i64 (s'.length : Int))), (8, (.int .i64 i))] ∧ Mem ⟨w0, []⟩ S [] [] [] [(false, MP.val [(.slice A s'.length c)] (s' : List Span))] w) (fun s h => by cases h) ?_ fu 0 a w0 hB1 hI
    rintro fk i a w hR1 hI
    replace hR1 : slices_IndexFunc_impl_Span_impl_Span_of_isLine_c1_L1 fu s' (fk + 1) i = some out' := hR1
    rw [slices_IndexFunc_impl_Span_impl_Span_of_isLine_c1_L1] at hR1
    obtain ⟨hf, H⟩ := hI
    refine sq ?_
    refine reg ?_
    refine pRun_ok (tb := tab) (n := 19) tabOk 1 _ _ hf rfl rfl fun a hf => ?_
    refine wl_end ?_
    refine then_n ?_
    refine sq ?_
    refine (Bool.eq_false_or_eq_true (decide (i < (s'.length : Int)))).elim (fun hc => ?_) (fun hc => ?_)
    · rw [if_pos hc] at hR1
      refine cd_t hf rfl hc ?_
      refine wp_skip ?_
      refine then_n ?_
      refine sq ?_
      refine wp_block ?_
      refine sq ?_
      refine reg ?_
      refine pRun_ok (tb := tab) (n := 19) tabOk 2 _ _ hf rfl rfl fun a hf => ?_
      refine wl_end ?_
      refine then_n ?_
      refine sq ?_
      refine reg ?_
      refine pRun_ok (tb := tab) (n := 19) tabOk 3 _ _ hf rfl rfl fun a hf => ?_
      obtain ⟨e, he, hR1⟩ := bind_some hR1
      refine wl0 rfl (op_iaddr hf H Try.underlying96 TF.sz28 0 rfl rfl rfl he (by decide) fun p o cs a hf hr H => ?_)
      obtain rfl := Span_cells hr
      refine wl0 rfl (op_q hf (rq_loadIN hf H TF.la28 0 0 rfl rfl rfl rfl) rfl (by decide) fun a hf => ?_)
      obtain ⟨y, hy, hR1⟩ := bind_some hR1
      refine wl0 rfl (op_callV hf TF.cl164 rfl rfl (by decide) (impl_isLine_c1_ok (S := fun _ => True) Span_mkv hy) fun v w a hp hf => ?_)
      obtain ⟨hb, hp⟩ := hp
      obtain rfl := VR_bool hp
      have H := H.keep hb
      refine wl_end ?_
      refine then_n ?_
      refine (Bool.eq_false_or_eq_true (y)).elim (fun hc2 => ?_) (fun hc2 => ?_)
      · rw [if_pos hc2] at hR1
        refine cd_t hf rfl hc2 ?_
        refine sq ?_
        refine reg ?_
        refine pRun_ok (tb := tab) (n := 19) tabOk 2 _ _ hf rfl rfl fun a hf => ?_
        have hf := hf.prune [4] rfl
        refine wl_end ?_
        refine then_n ?_
        refine wp_ret (blk_r (then_r (then_r (blk_r (then_r (then_r (?_)))))))
        obtain rfl := Option.some.inj hR1
        replace hF := on_ret hF
        obtain rfl := Option.some.inj hF
        refine ret_1 (fn := Try.f166) (r := .tmp 4) hf rfl (rv_tmp hf rfl) ?_
        exact ⟨_, rfl, H.bel, mk_int⟩
      · rw [if_neg (nt hc2)] at hR1
        refine cd_f hf rfl hc2 ?_
        refine wp_skip ?_
        refine blk_n ?_
        refine then_n ?_
        refine reg ?_
        refine pRun_ok (tb := tab) (n := 19) tabOk 2 _ _ hf rfl rfl fun a hf => ?_
        refine wl_end ?_
        have hf := hf.prune [0, 1, 7, 8] rfl
        have H := H.let [] [] [] [1]
        exact then_n ⟨w64 (i + 1), hR1, hf, H⟩
    · rw [if_neg (nt hc)] at hR1
      refine cd_f hf rfl hc ?_
      refine wp_exit (then_x (then_x (blk_e (?_))))
      have hf := hf.prune [0, 1, 7, 8] rfl
      have H := H.let [] [] [] [0]
      exact ⟨i, (Option.some.inj hR1).symm, hf, H⟩
  rintro a w ⟨i2, rfl, hf, H⟩
  replace hF := on_next hF
  refine then_n ?_
  refine sq ?_
  refine reg ?_
  refine pRun_ok (tb := tab) (n := 19) tabOk 1 _ _ hf rfl rfl fun a hf => ?_
  refine wl_end ?_
  refine then_n ?_
  refine wp_ret (?_)
  obtain rfl := Option.some.inj hF
  refine ret_1 (fn := Try.f166) (r := .tmp 4) hf rfl (rv_tmp hf rfl) ?_
  exact ⟨_, rfl, H.bel, mk_int⟩

/- slices.ContainsFunc[[]loop.example/g00897/impl.Span,loop.example/g00897/impl.Span] -/
set_option maxHeartbeats 1000000 in
theorem slices_ContainsFunc_impl_Span_impl_Span_of_isLine_c1_ok {fu : Nat} {w0 : World} {S : Nat → Prop} {v0_ : Value} {s' : List Span} {r : Bool} (h0 : VR w0 S v0_ s') (hF : slices_ContainsFunc_impl_Span_impl_Span_of_isLine_c1 fu s' = some r) :
    Calls Try.prog 163 [v0_, (.func (.func 164) #[] #[])].toArray w0 fun e w' => ∃ v, e = .returned v ∧ (Below w0.heap.size w0 w' ∧ VR w' (St ⟨w0, []⟩ S [] [] [] true) v r) := by
  obtain ⟨A, c, rfl, hl⟩ := VR_list h0
  have H := Mem.start ⟨w0, []⟩ S
  have H := H.pushArg (MP.val [(.slice A s'.length c)] s') hl
  refine enter Try.func163 rfl rfl (nle rfl) rfl fun a hf => ?_
  rw [slices_ContainsFunc_impl_Span_impl_Span_of_isLine_c1] at hF
  refine sq ?_
  refine reg ?_
  refine pRun_ok (tb := tab) (n := 9) tabOk 1 _ _ hf rfl rfl fun a hf => ?_
  refine wl_end ?_
  refine then_n ?_
  refine sq ?_
  refine reg ?_
  refine pRun_ok (tb := tab) (n := 9) tabOk 2 _ _ hf rfl rfl fun a hf => ?_
  obtain ⟨y, hy, hF⟩ := bind_some hF
  refine wl0 rfl (op_call hf TF.cl166 rfl (by decide) (slices_IndexFunc_impl_Span_impl_Span_of_isLine_c1_ok (S := fun _ => True) (mk_list (rep_true (α := List Span) (H.get 0 rfl))) hy) fun v w a hp hf => ?_)
  obtain ⟨hb, hp⟩ := hp
  obtain rfl := VR_int hp
  have H := H.keep hb
  refine pRun_ok (tb := tab) (n := 9) tabOk 2 _ _ hf rfl rfl fun a hf => ?_
  refine wl_end ?_
  refine then_n ?_
  refine wp_ret (?_)
  obtain rfl := Option.some.inj hF
  refine ret_1 (fn := Try.f163) (r := .tmp 4) hf rfl (rv_tmp hf rfl) ?_
  exact ⟨_, rfl, H.bel, mk_bool⟩

/- loop.example/g00897/impl.isLine -/
set_option maxHeartbeats 1000000 in
theorem impl_isLine_ok {fu : Nat} {w0 : World} {S : Nat → Prop} {v0_ : Value} {line : List Span} {r : Bool} (h0 : VR w0 S v0_ line) (hF : impl_isLine fu line = some r) :
    Calls Try.prog 141 [v0_].toArray w0 fun e w' => ∃ v, e = .returned v ∧ (Below w0.heap.size w0 w' ∧ VR w' (St ⟨w0, []⟩ S [] [] [] true) v r) := by
  obtain ⟨A, c, rfl, hl⟩ := VR_list h0
  have H := Mem.start ⟨w0, []⟩ S
  have H := H.pushArg (MP.val [(.slice A line.length c)] line) hl
  refine enter Try.func141 rfl rfl (nle rfl) rfl fun a hf => ?_
  rw [impl_isLine] at hF
  refine sq ?_
  refine reg ?_
  refine pRun_ok (tb := tab) (n := 11) tabOk 1 _ _ hf rfl rfl fun a hf => ?_
  refine wl_end ?_
  refine then_n ?_
  refine sq ?_
  obtain ⟨c2, hGc2, hF⟩ := bind_some hF
  refine mid (fun a w => Fr a 11 [(2, (.bool c2))] ∧ Mem ⟨w0, []⟩ S [] [] [] [] w) ?_ ?_
  · refine reg ?_
    refine pRun_ok (tb := tab) (n := 11) tabOk 2 _ _ hf rfl rfl fun a hf => ?_
    obtain ⟨y, hy, hGc2⟩ := bind_some hGc2
    refine wl0 rfl (op_call hf TF.cl98 rfl (by decide) (impl_within_ok (S := fun _ => True) mk_int mk_int mk_int hy) fun v w a hp hf => ?_)
    obtain ⟨hb, hp⟩ := hp
    obtain rfl := VR_bool hp
    have H := H.keep hb
    refine pRun_ok (tb := tab) (n := 11) tabOk 1 _ _ hf rfl rfl fun a hf => ?_
    refine (Bool.eq_false_or_eq_true (y)).elim (fun hc => ?_) (fun hc => ?_)
    · rw [if_pos hc] at hGc2
      have hf := hf.lit 6 rfl hc
      refine pRun_ok (tb := tab) (n := 11) tabOk 1 _ _ hf rfl rfl fun a hf => ?_
      obtain ⟨y2, hy2, hGc2⟩ := bind_some hGc2
      refine wlg hf rfl rfl rfl (op_call hf TF.cl163 rfl (by decide) (slices_ContainsFunc_impl_Span_impl_Span_of_isLine_c1_ok (S := fun _ => True) (mk_list (rep_true (α := List Span) (H.get 0 rfl))) hy2) fun v2 w a hp2 hf => ?_)
      obtain ⟨hb2, hp2⟩ := hp2
      obtain rfl := VR_bool hp2
      have H := H.keep hb2
      refine pRun_ok (tb := tab) (n := 11) tabOk 3 _ _ hf rfl rfl fun a hf => ?_
      obtain rfl := Option.some.inj hGc2
      have hf := hf.prune [2] rfl
      have H := H.let [] [] [] []
      exact wl_end ⟨hf, H⟩
    · rw [if_neg (nt hc)] at hGc2
      have hf := hf.lit 6 rfl hc
      refine pRun_ok (tb := tab) (n := 11) tabOk 5 _ _ hf rfl rfl fun a hf => ?_
      obtain rfl := Option.some.inj hGc2
      have hf := hf.prune [2] rfl
      have H := H.let [] [] [] []
      exact wl_end ⟨hf, H⟩
  rintro a w ⟨hf, H⟩
  refine then_n ?_
  refine wp_ret (?_)
  obtain rfl := Option.some.inj hF
  refine ret_1 (fn := Try.f141) (r := .tmp 2) hf rfl (rv_tmp hf rfl) ?_
  exact ⟨_, rfl, H.bel, mk_bool⟩

/- loop.example/g00897/impl.isLevel -/
set_option maxHeartbeats 1000000 in
theorem impl_isLevel_ok {fu : Nat} {w0 : World} {S : Nat → Prop} {v0_ : Value} {level : Int} {r : Bool} (h0 : VR w0 S v0_ level) (hF : impl_isLevel fu level = some r) :
    Calls Try.prog 107 [v0_].toArray w0 fun e w' => ∃ v, e = .returned v ∧ (Below w0.heap.size w0 w' ∧ VR w' (St ⟨w0, []⟩ S [] [] [] true) v r) := by
  obtain rfl := VR_int h0
  have H := Mem.start ⟨w0, []⟩ S
  refine enter Try.func107 rfl rfl (nle rfl) rfl fun a hf => ?_
  rw [impl_isLevel] at hF
  refine sq ?_
  refine reg ?_
  refine pRun_ok (tb := tab) (n := 5) tabOk 1 _ _ hf rfl rfl fun a hf => ?_
  refine wl_end ?_
  refine then_n ?_
  refine sq ?_
  refine reg ?_
  refine pRun_ok (tb := tab) (n := 5) tabOk 1 _ _ hf rfl rfl fun a hf => ?_
  obtain ⟨y, hy, hF⟩ := bind_some hF
  refine wl0 rfl (op_call hf TF.cl98 rfl (by decide) (impl_within_ok (S := fun _ => True) mk_int mk_int mk_int hy) fun v w a hp hf => ?_)
  obtain ⟨hb, hp⟩ := hp
  obtain rfl := VR_bool hp
  have H := H.keep hb
  refine pRun_ok (tb := tab) (n := 5) tabOk 1 _ _ hf rfl rfl fun a hf => ?_
  refine wl_end ?_
  refine then_n ?_
  refine wp_ret (?_)
  obtain rfl := Option.some.inj hF
  refine ret_1 (fn := Try.f107) (r := .tmp 2) hf rfl (rv_tmp hf rfl) ?_
  exact ⟨_, rfl, H.bel, mk_bool⟩

/- loop.example/g00897/impl.isAmplifier -/
set_option maxHeartbeats 1000000 in
theorem impl_isAmplifier_ok {fu : Nat} {w0 : World} {S : Nat → Prop} {v0_ : Value} {a' : Amplifier} {r : Bool} (h0 : VR w0 S v0_ a') (hF : impl_isAmplifier fu a' = some r) :
    Calls Try.prog 142 [v0_].toArray w0 fun e w' => ∃ v, e = .returned v ∧ (Below w0.heap.size w0 w' ∧ VR w' (St ⟨w0, []⟩ S [] [] [] true) v r) := by
  obtain rfl := Amplifier_open h0
  have H := Mem.start ⟨w0, []⟩ S
  refine enter Try.func142 rfl rfl (nle rfl) rfl fun a hf => ?_
  rw [impl_isAmplifier] at hF
  refine sq ?_
  refine reg ?_
  refine wl0 rfl (op_box hf H rfl rfl (by decide) fun b' a w hf H => ?_)
  refine pRun_ok (tb := tab) (n := 16) tabOk 1 _ _ hf rfl rfl fun a hf => ?_
  refine wl_end ?_
  refine then_n ?_
  refine sq ?_
  obtain ⟨c, hGc, hF⟩ := bind_some hF
  refine mid (fun a w => Fr a 16 [(2, (.bool c))] ∧ Mem ⟨w0, []⟩ S [] [] [] [] w) ?_ ?_
  · refine reg ?_
    refine pRun_ok (tb := tab) (n := 16) tabOk 1 _ _ hf rfl rfl fun a hf => ?_
    refine wl0 rfl (op_q hf (rq_loadB hf H TF.ls3 0 rfl rfl rfl) rfl (by decide) fun a hf => ?_)
    obtain ⟨y, hy, hGc⟩ := bind_some hGc
    refine wl0 rfl (op_call hf TF.cl98 rfl (by decide) (impl_within_ok (S := fun _ => True) mk_int mk_int mk_int hy) fun v w a hp hf => ?_)
    obtain ⟨hb, hp⟩ := hp
    obtain rfl := VR_bool hp
    have H := H.keep hb
    refine pRun_ok (tb := tab) (n := 16) tabOk 1 _ _ hf rfl rfl fun a hf => ?_
    refine (Bool.eq_false_or_eq_true (y)).elim (fun hc => ?_) (fun hc => ?_)
    · rw [if_pos hc] at hGc
      have hf := hf.lit 6 rfl hc
      refine pRun_ok (tb := tab) (n := 16) tabOk 1 _ _ hf rfl rfl fun a hf => ?_
      refine wlg hf rfl rfl rfl (op_q hf (rq_loadB hf H TF.ls3 0 rfl rfl rfl) rfl (by decide) fun a hf => ?_)
      obtain ⟨y2, hy2, hGc⟩ := bind_some hGc
      refine wlg hf rfl rfl rfl (op_call hf TF.cl107 rfl (by decide) (impl_isLevel_ok (S := fun _ => True) mk_int hy2) fun v2 w a hp2 hf => ?_)
      obtain ⟨hb2, hp2⟩ := hp2
      obtain rfl := VR_bool hp2
      have H := H.keep hb2
      refine pRun_ok (tb := tab) (n := 16) tabOk 2 _ _ hf rfl rfl fun a hf => ?_
      refine (Bool.eq_false_or_eq_true (y2)).elim (fun hc2 => ?_) (fun hc2 => ?_)
      · rw [if_pos hc2] at hGc
        have hf := hf.lit 11 rfl hc2
        refine pRun_ok (tb := tab) (n := 16) tabOk 1 _ _ hf rfl rfl fun a hf => ?_
        refine wlg hf rfl rfl rfl (op_q hf (rq_loadB hf H TF.ls3 0 rfl rfl rfl) rfl (by decide) fun a hf => ?_)
        obtain ⟨y3, hy3, hGc⟩ := bind_some hGc
        refine wlg hf rfl rfl rfl (op_call hf TF.cl98 rfl (by decide) (impl_within_ok (S := fun _ => True) mk_int mk_int mk_int hy3) fun v3 w a hp3 hf => ?_)
        obtain ⟨hb3, hp3⟩ := hp3
        obtain rfl := VR_bool hp3
        have H := H.keep hb3
        refine pRun_ok (tb := tab) (n := 16) tabOk 2 _ _ hf rfl rfl fun a hf => ?_
        obtain rfl := Option.some.inj hGc
        have hf := hf.prune [2] rfl
        have H := H.let [false] [] [] []
        exact wl_end ⟨hf, H⟩
      · rw [if_neg (nt hc2)] at hGc
        have hf := hf.lit 11 rfl hc2
        refine pRun_ok (tb := tab) (n := 16) tabOk 5 _ _ hf rfl rfl fun a hf => ?_
        obtain rfl := Option.some.inj hGc
        have hf := hf.prune [2] rfl
        have H := H.let [false] [] [] []
        exact wl_end ⟨hf, H⟩
    · rw [if_neg (nt hc)] at hGc
      have hf := hf.lit 6 rfl hc
      refine pRun_ok (tb := tab) (n := 16) tabOk 10 _ _ hf rfl rfl fun a hf => ?_
      obtain rfl := Option.some.inj hGc
      have hf := hf.prune [2] rfl
      have H := H.let [false] [] [] []
      exact wl_end ⟨hf, H⟩
  rintro a w ⟨hf, H⟩
  refine then_n ?_
  refine wp_ret (?_)
  obtain rfl := Option.some.inj hF
  refine ret_1 (fn := Try.f142) (r := .tmp 2) hf rfl (rv_tmp hf rfl) ?_
  exact ⟨_, rfl, H.bel, mk_bool⟩

/- loop.example/g00897/impl.lossOf -/
set_option maxHeartbeats 1000000 in
theorem impl_lossOf_ok {fu : Nat} {w0 : World} {S : Nat → Prop} {v0_ : Value} {s' : Span} {r : Int} (h0 : VR w0 S v0_ s') (hF : impl_lossOf fu s' = some r) :
    Calls Try.prog 102 [v0_].toArray w0 fun e w' => ∃ v, e = .returned v ∧ (Below w0.heap.size w0 w' ∧ VR w' (St ⟨w0, []⟩ S [] [] [] true) v r) := by
  obtain rfl := Span_open h0
  have H := Mem.start ⟨w0, []⟩ S
  refine enter Try.func102 rfl rfl (nle rfl) rfl fun a hf => ?_
  rw [impl_lossOf] at hF
  refine sq ?_
  refine reg ?_
  refine wl0 rfl (op_box hf H rfl rfl (by decide) fun b' a w hf H => ?_)
  refine pRun_ok (tb := tab) (n := 14) tabOk 1 _ _ hf rfl rfl fun a hf => ?_
  refine wl_end ?_
  refine then_n ?_
  refine sq ?_
  refine reg ?_
  refine pRun_ok (tb := tab) (n := 14) tabOk 1 _ _ hf rfl rfl fun a hf => ?_
  refine wl0 rfl (op_q hf (rq_loadB hf H TF.ls3 0 rfl rfl rfl) rfl (by decide) fun a hf => ?_)
  refine pRun_ok (tb := tab) (n := 14) tabOk 1 _ _ hf rfl rfl fun a hf => ?_
  refine wl0 rfl (op_q hf (rq_loadB hf H TF.ls3 0 rfl rfl rfl) rfl (by decide) fun a hf => ?_)
  refine pRun_ok (tb := tab) (n := 14) tabOk 2 _ _ hf rfl rfl fun a hf => ?_
  obtain ⟨q, hq, hF⟩ := bind_some hF
  refine wl0 rfl (op_q hf (rq_quo hf rfl rfl hq) rfl (by decide) fun a hf => ?_)
  refine pRun_ok (tb := tab) (n := 14) tabOk 1 _ _ hf rfl rfl fun a hf => ?_
  refine wl0 rfl (op_q hf (rq_loadB hf H TF.ls3 0 rfl rfl rfl) rfl (by decide) fun a hf => ?_)
  refine pRun_ok (tb := tab) (n := 14) tabOk 3 _ _ hf rfl rfl fun a hf => ?_
  have hf := hf.prune [2] rfl
  refine wl_end ?_
  refine then_n ?_
  refine wp_ret (?_)
  obtain rfl := Option.some.inj hF
  refine ret_1 (fn := Try.f102) (r := .tmp 2) hf rfl (rv_tmp hf rfl) ?_
  exact ⟨_, rfl, H.bel, mk_int⟩

/- loop.example/g00897/impl.amplified -/
set_option maxHeartbeats 1000000 in
theorem impl_amplified_ok {fu : Nat} {w0 : World} {S : Nat → Prop} {v0_ : Value} {v1_ : Value} {level : Int} {a' : Amplifier} {r : Int} (h0 : VR w0 S v0_ level) (h1 : VR w0 S v1_ a') (hF : impl_amplified fu level a' = some r) :
    Calls Try.prog 143 [v0_, v1_].toArray w0 fun e w' => ∃ v, e = .returned v ∧ (Below w0.heap.size w0 w' ∧ VR w' (St ⟨w0, []⟩ S [] [] [] true) v r) := by
  obtain rfl := VR_int h0
  obtain rfl := Amplifier_open h1
  have H := Mem.start ⟨w0, []⟩ S
  refine enter Try.func143 rfl rfl (nle rfl) rfl fun a hf => ?_
  rw [impl_amplified] at hF
  refine sq ?_
  refine reg ?_
  refine wl0 rfl (op_box hf H rfl rfl (by decide) fun b' a w hf H => ?_)
  refine pRun_ok (tb := tab) (n := 14) tabOk 1 _ _ hf rfl rfl fun a hf => ?_
  refine wl_end ?_
  refine then_n ?_
  refine sq ?_
  refine reg ?_
  refine pRun_ok (tb := tab) (n := 14) tabOk 3 _ _ hf rfl rfl fun a hf => ?_
  refine wl0 rfl (op_q hf (rq_loadB hf H TF.ls3 0 rfl rfl rfl) rfl (by decide) fun a hf => ?_)
  refine pRun_ok (tb := tab) (n := 14) tabOk 2 _ _ hf rfl rfl fun a hf => ?_
  refine wl0 rfl (op_q hf (rq_loadB hf H TF.ls3 0 rfl rfl rfl) rfl (by decide) fun a hf => ?_)
  refine pRun_ok (tb := tab) (n := 14) tabOk 3 _ _ hf rfl rfl fun a hf => ?_
  refine wl_end ?_
  refine then_n ?_
  refine wp_ret (?_)
  obtain rfl := Option.some.inj hF
  refine ret_1 (fn := Try.f143) (r := .tmp 4) hf rfl (rv_tmp hf rfl) ?_
  exact ⟨_, rfl, H.bel, mk_int⟩

/- loop.example/g00897/impl.PlaceAmplifiers -/
set_option maxHeartbeats 1000000 in
theorem impl_PlaceAmplifiers_ok {fu : Nat} {w0 : World} {S : Nat → Prop} {v0_ : Value} {v1_ : Value} {v2_ : Value} {v3_ : Value} {line : List Span} {a' : Amplifier} {launch : Int} {need : Int} {r : List Amplifier × Bool} (h0 : VR w0 S v0_ line) (h1 : VR w0 S v1_ a') (h2 : VR w0 S v2_ launch) (h3 : VR w0 S v3_ need) (hF : impl_PlaceAmplifiers fu line a' launch need = some r) :
    Calls Try.prog 84 [v0_, v1_, v2_, v3_].toArray w0 fun e w' => ∃ v, e = .returned v ∧ (Below w0.heap.size w0 w' ∧ ∃ F0, ∃ u0 u1, v = .tuple #[u0, u1] ∧ VO w' F0 u0 r.1 ∧ VR w' (St ⟨w0, []⟩ S [] [] [] true) u1 r.2 ∧ New w0 w' F0) := by
  obtain ⟨A, c, rfl, hl⟩ := VR_list h0
  obtain rfl := Amplifier_open h1
  obtain rfl := VR_int h2
  obtain rfl := VR_int h3
  have H := Mem.start ⟨w0, []⟩ S
  have H := H.pushArg (MP.val [(.slice A line.length c)] line) hl
  refine enter Try.func84 rfl rfl (nle rfl) rfl fun a hf => ?_
  rw [impl_PlaceAmplifiers] at hF
  refine sq ?_
  refine reg ?_
  refine wl0 rfl (op_box hf H rfl rfl (by decide) fun b' a w hf H => ?_)
  refine pRun_ok (tb := tab) (n := 81) tabOk 2 _ _ hf rfl rfl fun a hf => ?_
  refine wl_end ?_
  refine then_n ?_
  refine sq ?_
  refine sq ?_
  obtain ⟨c2, hGc2, hF⟩ := bind_some hF
  refine mid (fun a w => Fr a 81 [(0, (.slice A line.length c)), (2, (.int .i64 launch)), (3, (.int .i64 need)), (5, (.pointer (some ⟨b', 0, none⟩))), (31, (.bool c2))] ∧ Mem ⟨w0, []⟩ S [⟨b', 88, [(.int .i64 a'.After), (.int .i64 a'.Gain), (.int .i64 a'.Output), (.int .i64 a'.Noise)]⟩] [] [] [(false, MP.val [(.slice A line.length c)] (line : List Span))] w) ?_ ?_
  · refine reg ?_
    refine pRun_ok (tb := tab) (n := 81) tabOk 1 _ _ hf rfl rfl fun a hf => ?_
    obtain ⟨y, hy, hGc2⟩ := bind_some hGc2
    refine wl0 rfl (op_call hf TF.cl141 rfl (by decide) (impl_isLine_ok (S := fun _ => True) (mk_list (rep_true (α := List Span) (H.get 0 rfl))) hy) fun v w a hp hf => ?_)
    obtain ⟨hb, hp⟩ := hp
    obtain rfl := VR_bool hp
    have H := H.keep hb
    refine pRun_ok (tb := tab) (n := 81) tabOk 2 _ _ hf rfl rfl fun a hf => ?_
    refine (Bool.eq_false_or_eq_true (!y)).elim (fun hc => ?_) (fun hc => ?_)
    · rw [if_pos hc] at hGc2
      have hf := hf.lit 17 rfl hc
      refine pRun_ok (tb := tab) (n := 81) tabOk 14 _ _ hf rfl rfl fun a hf => ?_
      obtain rfl := Option.some.inj hGc2
      have hf := hf.prune [0, 2, 3, 5, 31] rfl
      have H := H.let [true] [] [] [0]
      exact wl_end ⟨hf, H⟩
    · rw [if_neg (nt hc)] at hGc2
      have hf := hf.lit 17 rfl hc
      refine wlg hf rfl rfl rfl (op_q hf (rq_loadBN hf H TF.la88 0 rfl rfl rfl rfl) rfl (by decide) fun a hf => ?_)
      obtain ⟨y2, hy2, hGc2⟩ := bind_some hGc2
      refine wlg hf rfl rfl rfl (op_call hf TF.cl142 rfl (by decide) (impl_isAmplifier_ok (S := fun _ => True) Amplifier_mkv hy2) fun v2 w a hp2 hf => ?_)
      obtain ⟨hb2, hp2⟩ := hp2
      obtain rfl := VR_bool hp2
      have H := H.keep hb2
      refine pRun_ok (tb := tab) (n := 81) tabOk 3 _ _ hf rfl rfl fun a hf => ?_
      refine (Bool.eq_false_or_eq_true (!y2)).elim (fun hc2 => ?_) (fun hc2 => ?_)
      · rw [if_pos hc2] at hGc2
        have hf := hf.lit 22 rfl hc2
        refine pRun_ok (tb := tab) (n := 81) tabOk 9 _ _ hf rfl rfl fun a hf => ?_
        obtain rfl := Option.some.inj hGc2
        have hf := hf.prune [0, 2, 3, 5, 31] rfl
        have H := H.let [true] [] [] [0]
        exact wl_end ⟨hf, H⟩
      · rw [if_neg (nt hc2)] at hGc2
        have hf := hf.lit 22 rfl hc2
        refine pRun_ok (tb := tab) (n := 81) tabOk 1 _ _ hf rfl rfl fun a hf => ?_
        obtain ⟨y3, hy3, hGc2⟩ := bind_some hGc2
        refine wlg hf rfl rfl rfl (op_call hf TF.cl107 rfl (by decide) (impl_isLevel_ok (S := fun _ => True) mk_int hy3) fun v3 w a hp3 hf => ?_)
        obtain ⟨hb3, hp3⟩ := hp3
        obtain rfl := VR_bool hp3
        have H := H.keep hb3
        refine pRun_ok (tb := tab) (n := 81) tabOk 3 _ _ hf rfl rfl fun a hf => ?_
        refine (Bool.eq_false_or_eq_true (!y3)).elim (fun hc3 => ?_) (fun hc3 => ?_)
        · rw [if_pos hc3] at hGc2
          have hf := hf.lit 27 rfl hc3
          refine pRun_ok (tb := tab) (n := 81) tabOk 4 _ _ hf rfl rfl fun a hf => ?_
          obtain rfl := Option.some.inj hGc2
          have hf := hf.prune [0, 2, 3, 5, 31] rfl
          have H := H.let [true] [] [] [0]
          exact wl_end ⟨hf, H⟩
        · rw [if_neg (nt hc3)] at hGc2
          have hf := hf.lit 27 rfl hc3
          refine pRun_ok (tb := tab) (n := 81) tabOk 1 _ _ hf rfl rfl fun a hf => ?_
          obtain ⟨y4, hy4, hGc2⟩ := bind_some hGc2
          refine wlg hf rfl rfl rfl (op_call hf TF.cl107 rfl (by decide) (impl_isLevel_ok (S := fun _ => True) mk_int hy4) fun v4 w a hp4 hf => ?_)
          obtain ⟨hb4, hp4⟩ := hp4
          obtain rfl := VR_bool hp4
          have H := H.keep hb4
          refine pRun_ok (tb := tab) (n := 81) tabOk 2 _ _ hf rfl rfl fun a hf => ?_
          obtain rfl := Option.some.inj hGc2
          have hf := hf.prune [0, 2, 3, 5, 31] rfl
          have H := H.let [true] [] [] [0]
          exact wl_end ⟨hf, H⟩
  rintro a w ⟨hf, H⟩
  refine then_n ?_
  refine (Bool.eq_false_or_eq_true (c2)).elim (fun hc4 => ?_) (fun hc4 => ?_)
  · rw [if_pos hc4] at hF
    refine cd_t hf rfl hc4 ?_
    refine sq ?_
    refine reg ?_
    refine pRun_ok (tb := tab) (n := 81) tabOk 2 _ _ hf rfl rfl fun a hf => ?_
    refine wl_end ?_
    refine then_n ?_
    refine wp_ret (then_r (?_))
    have H := H.ownNil (Amplifier)
    have H := H.lend 0 rfl
    obtain rfl := Option.some.inj hF
    refine ret_2 (fn := Try.f84) (r := .tmp 8) (s := .tmp 9) hf rfl (rv_tmp hf rfl) (rv_tmp hf rfl) ?_
    have hN : New w0 w [] := by simpa using H.ends (X := [(⟨[], MP.own [] [(.slice none 0 0)] ([] : List Amplifier)⟩ : DI)])
    exact ⟨_, rfl, H.bel, [], _, _, rfl, (mko_list (H.ownAt 0 rfl)), mk_bool, hN⟩
  · rw [if_neg (nt hc4)] at hF
    refine cd_f hf rfl hc4 ?_
    refine wp_skip ?_
    refine then_n ?_
    refine sq ?_
    refine reg ?_
    refine wl0 rfl (op_bslice hf H (.sh true) rfl 88 ([] : List Amplifier) [] rfl (fun w => by kernel_rfl) rfl (by decide) rfl trivial el0 (by decide) fun A2 a w hf H => ?_)
    refine pRun_ok (tb := tab) (n := 81) tabOk 3 _ _ hf rfl rfl fun a hf => ?_
    refine wl_end ?_
    refine then_n ?_
    refine sq ?_
    refine sq ?_
    refine reg ?_
    refine pRun_ok (tb := tab) (n := 81) tabOk 3 _ _ hf rfl rfl fun a hf => ?_
    refine wl_end ?_
    refine then_n ?_
    obtain ⟨out2, hB1, hF⟩ := bind_some hF
    have hf := hf.prune [0, 3, 5, 10, 11, 34, 35, 36] rfl
    have H := H.let [true] [true] [] [0]
    have hI : (fun (s : List Amplifier × Int × Int × Int) (a : Act) (w : World) => match s with | (out', level, i, m) => ∃ (A3 : Option Addr) (c3 : Nat), Fr a 81 [(0, (.slice A line.length c)), (3, (.int .i64 need)), (5, (.pointer (some ⟨b', 0, none⟩))), (10, (.slice A3 out'.length c3)), (11, (.int .i64 level)), (34, (.slice A line.length c)), (35, (.int .i64 (line.length : Int))), (36, (.int .i64 i))] ∧ Mem ⟨w0, []⟩ S [⟨b', 88, [(.int .i64 m), (.int .i64 a'.Gain), (.int .i64 a'.Output), (.int .i64 a'.Noise)]⟩] [⟨.sh true, 88, A3, c3, (out' : List Amplifier)⟩] [] [(false, MP.val [(.slice A line.length c)] (line : List Span))] w) (([] : List Amplifier), launch, 0, a'.After) a w := ⟨A2, 0, hf, H⟩
    refine mid (fun a w => ∃ s : List Amplifier × Int × Int × Int, out2 = Out.next s ∧ (fun (s : List Amplifier × Int × Int × Int) (a : Act) (w : World) => match s with | (out', level, i, m) => ∃ (A3 : Option Addr) (c3 : Nat), Fr a 81 [(0, (.slice A line.length c)), (3, (.int .i64 need)), (5, (.pointer (some ⟨b', 0, none⟩))), (10, (.slice A3 out'.length c3)), (11, (.int .i64 level)), (34, (.slice A line.length c)), (35, (.int .i64 (line.length : Int))), (36, (.int .i64 i))] ∧ Mem ⟨w0, []⟩ S [⟨b', 88, [(.int .i64 m), (.int .i64 a'.Gain), (.int .i64 a'.Output), (.int .i64 a'.Noise)]⟩] [⟨.sh true, 88, A3, c3, (out' : List Amplifier)⟩] [] [(false, MP.val [(.slice A line.length c)] (line : List Span))] w) s a w) ?_ ?_
    · refine wp_block ?_
      refine loop_rule (fun k (s : List Amplifier × Int × Int × Int) => impl_PlaceAmplifiers_L1 fu line a' need k s.1 s.2.1 s.2.2.1 s.2.2.2 = some out2) (fun (s : List Amplifier × Int × Int × Int) (a : Act) (w : World) => match s with | (out', level, i, m) => ∃ (A3 : Option Addr) (c3 : Nat), Fr a 81 [(0, (.slice A line.length c)), (3, (.int .i64 need)), (5, (.pointer (some ⟨b', 0, none⟩))), (10, (.slice A3 out'.length c3)), (11, (.int .i64 level)), (34, (.slice A line.length c)), (35, (.int .i64 (line.length : Int))), (36, (.int .i64 i))] ∧ Mem ⟨w0, []⟩ S [⟨b', 88, [(.int .i64 m), (.int .i64 a'.Gain), (.int .i64 a'.Output), (.int .i64 a'.Noise)]⟩] [⟨.sh true, 88, A3, c3, (out' : List Amplifier)⟩] [] [(false, MP.val [(.slice A line.length c)] (line : List Span))] w) (fun s h => by cases h) ?_ fu (([] : List Amplifier), launch, 0, a'.After) a w hB1 hI
      rintro fk ⟨out', level, i, m⟩ a w hR1 hI
      replace hR1 : impl_PlaceAmplifiers_L1 fu line a' need (fk + 1) out' level i m = some out2 := hR1
      rw [impl_PlaceAmplifiers_L1] at hR1
      obtain ⟨A3, c3, hf, H⟩ := hI
      refine sq ?_
      refine reg ?_
      refine pRun_ok (tb := tab) (n := 81) tabOk 1 _ _ hf rfl rfl fun a hf => ?_
      refine wl_end ?_
      refine then_n ?_
      refine sq ?_
      refine (Bool.eq_false_or_eq_true (decide (i < (line.length : Int)))).elim (fun hc5 => ?_) (fun hc5 => ?_)
      · rw [if_pos hc5] at hR1
        refine cd_t hf rfl hc5 ?_
        refine wp_skip ?_
        refine then_n ?_
        refine sq ?_
        refine wp_block ?_
        refine sq ?_
        refine reg ?_
        refine pRun_ok (tb := tab) (n := 81) tabOk 1 _ _ hf rfl rfl fun a hf => ?_
        obtain ⟨e, he, hR1⟩ := bind_some hR1
        refine wl0 rfl (op_iaddr hf H Try.underlying96 TF.sz28 0 rfl rfl rfl he (by decide) fun p o cs a hf hr H => ?_)
        obtain rfl := Span_cells hr
        refine wl0 rfl (op_q hf (rq_loadIN hf H TF.la28 0 0 rfl rfl rfl rfl) rfl (by decide) fun a hf => ?_)
        refine wl0 rfl (op_alloc hf H TF.zv28 rfl (by decide) fun b2 a w hf H => ?_)
        refine pRun_ok (tb := tab) (n := 81) tabOk 1 _ _ hf rfl rfl fun a hf => ?_
        refine wl0 rfl (op_storeB hf H 0 TF.sz28 rfl rfl rfl rfl rfl rfl (nle rfl) fun w H => ?_)
        refine wl_end ?_
        refine then_n ?_
        refine sq ?_
        refine reg ?_
        refine pRun_ok (tb := tab) (n := 81) tabOk 1 _ _ hf rfl rfl fun a hf => ?_
        refine wl0 rfl (op_q hf (rq_loadBN hf H TF.la28 0 rfl rfl rfl rfl) rfl (by decide) fun a hf => ?_)
        obtain ⟨y5, hy5, hR1⟩ := bind_some hR1
        refine wl0 rfl (op_call hf TF.cl102 rfl (by decide) (impl_lossOf_ok (S := fun _ => True) Span_mkv hy5) fun v5 w a hp5 hf => ?_)
        obtain ⟨hb5, hp5⟩ := hp5
        obtain rfl := VR_int hp5
        have H := H.keep hb5
        refine pRun_ok (tb := tab) (n := 81) tabOk 2 _ _ hf rfl rfl fun a hf => ?_
        refine wl_end ?_
        refine then_n ?_
        refine sq ?_
        refine sq ?_
        obtain ⟨c4, hGc4, hR1⟩ := bind_some hR1
        refine mid (fun a w => Fr a 81 [(0, (.slice A line.length c)), (3, (.int .i64 need)), (5, (.pointer (some ⟨b', 0, none⟩))), (10, (.slice A3 out'.length c3)), (11, (.int .i64 (w64 (level - y5)))), (12, (.int .i64 i)), (34, (.slice A line.length c)), (35, (.int .i64 (line.length : Int))), (36, (.int .i64 i)), (52, (.bool c4))] ∧ Mem ⟨w0, []⟩ S [⟨b', 88, [(.int .i64 m), (.int .i64 a'.Gain), (.int .i64 a'.Output), (.int .i64 a'.Noise)]⟩] [⟨.sh true, 88, A3, c3, (out' : List Amplifier)⟩] [] [(false, MP.val [(.slice A line.length c)] (line : List Span))] w) ?_ ?_
        · refine reg ?_
          refine pRun_ok (tb := tab) (n := 81) tabOk 4 _ _ hf rfl rfl fun a hf => ?_
          refine (Bool.eq_false_or_eq_true (decide ((w64 (level - y5)) < need))).elim (fun hc6 => ?_) (fun hc6 => ?_)
          · rw [if_pos hc6] at hGc4
            have hf := hf.lit 48 rfl hc6
            refine pRun_ok (tb := tab) (n := 81) tabOk 4 _ _ hf rfl rfl fun a hf => ?_
            obtain rfl := Option.some.inj hGc4
            have hf := hf.prune [0, 3, 5, 10, 11, 12, 34, 35, 36, 52] rfl
            have H := H.let [false, true] [true] [] [1]
            exact wl_end ⟨hf, H⟩
          · rw [if_neg (nt hc6)] at hGc4
            have hf := hf.lit 48 rfl hc6
            refine pRun_ok (tb := tab) (n := 81) tabOk 1 _ _ hf rfl rfl fun a hf => ?_
            obtain ⟨y6, hy6, hGc4⟩ := bind_some hGc4
            refine wlg hf rfl rfl rfl (op_call hf TF.cl107 rfl (by decide) (impl_isLevel_ok (S := fun _ => True) mk_int hy6) fun v6 w a hp6 hf => ?_)
            obtain ⟨hb6, hp6⟩ := hp6
            obtain rfl := VR_bool hp6
            have H := H.keep hb6
            refine pRun_ok (tb := tab) (n := 81) tabOk 2 _ _ hf rfl rfl fun a hf => ?_
            obtain rfl := Option.some.inj hGc4
            have hf := hf.prune [0, 3, 5, 10, 11, 12, 34, 35, 36, 52] rfl
            have H := H.let [false, true] [true] [] [1]
            exact wl_end ⟨hf, H⟩
        rintro a w ⟨hf, H⟩
        refine then_n ?_
        refine (Bool.eq_false_or_eq_true (c4)).elim (fun hc7 => ?_) (fun hc7 => ?_)
        · rw [if_pos hc7] at hR1
          refine cd_t hf rfl hc7 ?_
          refine sq ?_
          refine reg ?_
          refine pRun_ok (tb := tab) (n := 81) tabOk 2 _ _ hf rfl rfl fun a hf => ?_
          refine wl_end ?_
          refine then_n ?_
          refine wp_ret (then_r (blk_r (then_r (then_r (blk_r (then_r (then_r (?_))))))))
          have H := H.ownNil (Amplifier)
          have H := H.lend 0 rfl
          obtain rfl := Option.some.inj hR1
          replace hF := on_ret hF
          obtain rfl := Option.some.inj hF
          refine ret_2 (fn := Try.f84) (r := .tmp 8) (s := .tmp 9) hf rfl (rv_tmp hf rfl) (rv_tmp hf rfl) ?_
          have hN : New w0 w [] := by simpa using H.ends (X := [(⟨[], MP.own [] [(.slice none 0 0)] ([] : List Amplifier)⟩ : DI)])
          exact ⟨_, rfl, H.bel, [], _, _, rfl, (mko_list (H.ownAt 0 rfl)), mk_bool, hN⟩
        · rw [if_neg (nt hc7)] at hR1
          refine cd_f hf rfl hc7 ?_
          refine wp_skip ?_
          refine then_n ?_
          refine sq ?_
          obtain ⟨c5, hGc5, hR1⟩ := bind_some hR1
          refine mid (fun a w => Fr a 81 [(0, (.slice A line.length c)), (3, (.int .i64 need)), (5, (.pointer (some ⟨b', 0, none⟩))), (10, (.slice A3 out'.length c3)), (11, (.int .i64 (w64 (level - y5)))), (12, (.int .i64 i)), (34, (.slice A line.length c)), (35, (.int .i64 (line.length : Int))), (36, (.int .i64 i)), (69, (.bool c5))] ∧ Mem ⟨w0, []⟩ S [⟨b', 88, [(.int .i64 m), (.int .i64 a'.Gain), (.int .i64 a'.Output), (.int .i64 a'.Noise)]⟩] [⟨.sh true, 88, A3, c3, (out' : List Amplifier)⟩] [] [(false, MP.val [(.slice A line.length c)] (line : List Span))] w) ?_ ?_
          · refine reg ?_
            refine pRun_ok (tb := tab) (n := 81) tabOk 6 _ _ hf rfl rfl fun a hf => ?_
            refine (Bool.eq_false_or_eq_true (decide ((w64 (i + 1)) < (line.length : Int)))).elim (fun hc8 => ?_) (fun hc8 => ?_)
            · rw [if_pos hc8] at hGc5
              have hf := hf.lit 58 rfl hc8
              refine pRun_ok (tb := tab) (n := 81) tabOk 4 _ _ hf rfl rfl fun a hf => ?_
              obtain ⟨e2, he2, hGc5⟩ := bind_some hGc5
              refine wlg hf rfl rfl rfl (op_iaddr hf H Try.underlying96 TF.sz28 0 rfl rfl rfl he2 (by decide) fun p2 o2 cs2 a hf hr2 H => ?_)
              obtain rfl := Span_cells hr2
              refine wlg hf rfl rfl rfl (op_q hf (rq_loadIN hf H TF.la28 0 0 rfl rfl rfl rfl) rfl (by decide) fun a hf => ?_)
              obtain ⟨y7, hy7, hGc5⟩ := bind_some hGc5
              refine wlg hf rfl rfl rfl (op_call hf TF.cl102 rfl (by decide) (impl_lossOf_ok (S := fun _ => True) Span_mkv hy7) fun v7 w a hp7 hf => ?_)
              obtain ⟨hb7, hp7⟩ := hp7
              obtain rfl := VR_int hp7
              have H := H.keep hb7
              refine pRun_ok (tb := tab) (n := 81) tabOk 4 _ _ hf rfl rfl fun a hf => ?_
              obtain rfl := Option.some.inj hGc5
              have hf := hf.prune [0, 3, 5, 10, 11, 12, 34, 35, 36, 69] rfl
              have H := H.let [true] [true] [] [1]
              exact wl_end ⟨hf, H⟩
            · rw [if_neg (nt hc8)] at hGc5
              have hf := hf.lit 58 rfl hc8
              refine pRun_ok (tb := tab) (n := 81) tabOk 11 _ _ hf rfl rfl fun a hf => ?_
              obtain rfl := Option.some.inj hGc5
              have hf := hf.prune [0, 3, 5, 10, 11, 12, 34, 35, 36, 69] rfl
              have H := H.let [true] [true] [] [0]
              exact wl_end ⟨hf, H⟩
          rintro a w ⟨hf, H⟩
          refine then_n ?_
          refine (Bool.eq_false_or_eq_true (c5)).elim (fun hc9 => ?_) (fun hc9 => ?_)
          · rw [if_pos hc9] at hR1
            refine cd_t hf rfl hc9 ?_
            refine sq ?_
            refine reg ?_
            refine pRun_ok (tb := tab) (n := 81) tabOk 2 _ _ hf rfl rfl fun a hf => ?_
            refine wl0 rfl (op_storeB hf H 0 TF.sz3 rfl rfl rfl rfl rfl rfl (nle rfl) fun w H => ?_)
            refine wl_end ?_
            refine then_n ?_
            refine drawn [] (bs := [false, false, false, false, false, false, false, false, false]) (fuel := 9) (Checked.mixed Try.checked) rfl rfl fun w hb => ?_
            have H := H.keep hb
            refine tkP (i := 0) (bs' := [true, false, false, false, false, false, false, false, false]) rfl rfl rfl (by decide) hf (by kernel_rfl) (fun _ => trivial) (fun w => pOp_ok (tb := tab) tabOk hf rfl) rfl fun a hf => ?_
            refine str (fun w => Mem ⟨w0, []⟩ S [⟨b', 88, [(.int .i64 i), (.int .i64 a'.Gain), (.int .i64 a'.Output), (.int .i64 a'.Noise)]⟩] [] [] [(false, MP.val [(.slice A line.length c)] (line : List Span))] w) (fun w H => trivial) ?_
            have hS : Mem ⟨w0, []⟩ S [⟨b', 88, [(.int .i64 i), (.int .i64 a'.Gain), (.int .i64 a'.Output), (.int .i64 a'.Noise)]⟩] [] [] [(false, MP.val [(.slice A line.length c)] (line : List Span))] w := H.let [true] [false] [] [0]
            refine tkS (i := 1) (bs' := [true, true, false, false, false, false, false, false, false]) [] rfl rfl rfl (by decide) hf (by kernel_rfl) (by kernel_rfl) hS (fun w H => rq_loadBN hf H TF.la88 0 rfl rfl rfl rfl) rfl fun a hf => ?_
            refine tkP (i := 4) (bs' := [true, true, false, false, true, false, false, false, false]) rfl rfl rfl (by decide) hf (by kernel_rfl) (fun _ => hS) (fun w => pOp_ok (tb := tab) tabOk hf rfl) rfl fun a hf => ?_
            refine tkS (i := 5) (bs' := [true, true, false, false, true, true, false, false, false]) [] rfl rfl rfl (by decide) hf (by kernel_rfl) (by kernel_rfl) hS (fun w H => rq_loadBN hf H TF.la88 0 rfl rfl rfl rfl) rfl fun a hf => ?_
            refine on1 (i := 2) (bs' := [true, true, true, false, true, true, false, false, false]) (by kernel_rfl) rfl rfl rfl (op_bslice hf H (.sh true) rfl 88 ([({ After := i, Gain := a'.Gain, Output := a'.Output, Noise := a'.Noise } : Amplifier)] : List Amplifier) [(.int .i64 i), (.int .i64 a'.Gain), (.int .i64 a'.Output), (.int .i64 a'.Noise)] rfl (fun w => by kernel_rfl) rfl (by decide) rfl trivial (el1 (y := ({ After := i, Gain := a'.Gain, Output := a'.Output, Noise := a'.Noise } : Amplifier)) (Amplifier_mk (x := ({ After := i, Gain := a'.Gain, Output := a'.Output, Noise := a'.Noise } : Amplifier)))) (by decide) fun A4 a w hf H => ?_)
            have hS : Mem ⟨w0, []⟩ S [⟨b', 88, [(.int .i64 i), (.int .i64 a'.Gain), (.int .i64 a'.Output), (.int .i64 a'.Noise)]⟩] [] [] [(false, MP.val [(.slice A line.length c)] (line : List Span))] w := H.let [true] [false, false] [] [0]
            refine ⟨fun _ => hS, ?_⟩
            obtain ⟨l, hl, hR1⟩ := bind_some hR1
            refine on1 (i := 3) (bs' := [true, true, true, true, true, true, false, false, false]) (by kernel_rfl) rfl rfl rfl (op_appR hf H Try.underlying63 TF.ai88 rfl (by decide) 1 0 rfl rfl rfl rfl (.inr rfl) hl (by decide) fun A5 c6 a w hf H => ?_)
            have hS : Mem ⟨w0, []⟩ S [⟨b', 88, [(.int .i64 i), (.int .i64 a'.Gain), (.int .i64 a'.Output), (.int .i64 a'.Noise)]⟩] [] [] [(false, MP.val [(.slice A line.length c)] (line : List Span))] w := H.let [true] [false, false] [] [0]
            refine ⟨fun _ => hS, ?_⟩
            obtain ⟨y8, hy8, hR1⟩ := bind_some hR1
            refine on1 (i := 6) (bs' := [true, true, true, true, true, true, true, false, false]) (by kernel_rfl) rfl rfl rfl (op_call hf TF.cl143 rfl (by decide) (impl_amplified_ok (S := fun _ => True) mk_int Amplifier_mkv hy8) fun v8 w a hp8 hf => ?_)
            obtain ⟨hb8, hp8⟩ := hp8
            obtain rfl := VR_int hp8
            have H := H.keep hb8
            have hS : Mem ⟨w0, []⟩ S [⟨b', 88, [(.int .i64 i), (.int .i64 a'.Gain), (.int .i64 a'.Output), (.int .i64 a'.Noise)]⟩] [] [] [(false, MP.val [(.slice A line.length c)] (line : List Span))] w := H.let [true] [false, false] [] [0]
            refine ⟨fun _ => hS, ?_⟩
            refine tkP (i := 7) (bs' := [true, true, true, true, true, true, true, true, false]) rfl rfl rfl (by decide) hf (by kernel_rfl) (fun _ => hS) (fun w => pOp_ok (tb := tab) tabOk hf rfl) rfl fun a hf => ?_
            refine tkP (i := 8) (bs' := [true, true, true, true, true, true, true, true, true]) rfl rfl rfl (by decide) hf (by kernel_rfl) (fun _ => hS) (fun w => pOp_ok (tb := tab) tabOk hf rfl) rfl fun a hf => ?_
            refine dn (by kernel_rfl) ?_
            refine blk_n ?_
            refine then_n ?_
            refine reg ?_
            refine pRun_ok (tb := tab) (n := 81) tabOk 2 _ _ hf rfl rfl fun a hf => ?_
            refine wl_end ?_
            have hf := hf.prune [0, 3, 5, 10, 11, 34, 35, 36] rfl
            have H := H.let [true] [false, true] [] [0]
            exact then_n ⟨(l, y8, w64 (i + 1), i), hR1, A5, c6, hf, H⟩
          · rw [if_neg (nt hc9)] at hR1
            refine cd_f hf rfl hc9 ?_
            refine wp_skip ?_
            refine blk_n ?_
            refine then_n ?_
            refine reg ?_
            refine pRun_ok (tb := tab) (n := 81) tabOk 2 _ _ hf rfl rfl fun a hf => ?_
            refine wl_end ?_
            have hf := hf.prune [0, 3, 5, 10, 11, 34, 35, 36] rfl
            have H := H.let [true] [true] [] [0]
            exact then_n ⟨(out', w64 (level - y5), w64 (i + 1), m), hR1, A3, c3, hf, H⟩
      · rw [if_neg (nt hc5)] at hR1
        refine cd_f hf rfl hc5 ?_
        refine wp_exit (then_x (then_x (blk_e (?_))))
        have hf := hf.prune [0, 3, 5, 10, 11, 34, 35, 36] rfl
        have H := H.let [true] [true] [] [0]
        exact ⟨(out', level, i, m), (Option.some.inj hR1).symm, A3, c3, hf, H⟩
    rintro a w ⟨⟨out3, level2, i2, m2⟩, rfl, A6, c7, hf, H⟩
    replace hF := on_next hF
    dsimp only at hF
    refine then_n ?_
    refine sq ?_
    refine reg ?_
    refine pRun_ok (tb := tab) (n := 81) tabOk 3 _ _ hf rfl rfl fun a hf => ?_
    refine wl_end ?_
    refine then_n ?_
    refine wp_ret (?_)
    have H := H.rowOwn 0 rfl rfl
    obtain ⟨F, H⟩ := H.freezeOwn 0 rfl
    have H := H.lend 0 rfl
    obtain rfl := Option.some.inj hF
    refine ret_2 (fn := Try.f84) (r := .tmp 8) (s := .tmp 9) hf rfl (rv_tmp hf rfl) (rv_tmp hf rfl) ?_
    have hN : New w0 w F := by simpa using H.ends (X := [(⟨F, MP.own F [(.slice A6 out3.length c7)] (out3 : List Amplifier)⟩ : DI)])
    exact ⟨_, rfl, H.bel, F, _, _, rfl, (mko_list (H.ownAt 0 rfl)), mk_bool, hN⟩

/- loop.example/g00897/laws.eqAmplifier -/
set_option maxHeartbeats 1000000 in
theorem laws_eqAmplifier_ok {fu : Nat} {w0 : World} {S : Nat → Prop} {v0_ : Value} {v1_ : Value} {a' : Amplifier} {b' : Amplifier} {r : Bool} (h0 : VR w0 S v0_ a') (h1 : VR w0 S v1_ b') (hF : laws_eqAmplifier fu a' b' = some r) :
    Calls Try.prog 122 [v0_, v1_].toArray w0 fun e w' => ∃ v, e = .returned v ∧ (Below w0.heap.size w0 w' ∧ VR w' (St ⟨w0, []⟩ S [] [] [] true) v r) := by
  obtain rfl := Amplifier_open h0
  obtain rfl := Amplifier_open h1
  have H := Mem.start ⟨w0, []⟩ S
  refine enter Try.func122 rfl rfl (nle rfl) rfl fun a hf => ?_
  rw [laws_eqAmplifier] at hF
  refine sq ?_
  refine reg ?_
  refine wl0 rfl (op_box hf H rfl rfl (by decide) fun b2 a w hf H => ?_)
  refine wl0 rfl (op_box hf H rfl rfl (by decide) fun b3 a w hf H => ?_)
  refine pRun_ok (tb := tab) (n := 25) tabOk 1 _ _ hf rfl rfl fun a hf => ?_
  refine wl_end ?_
  refine then_n ?_
  refine sq ?_
  refine sq ?_
  refine reg ?_
  refine pRun_ok (tb := tab) (n := 25) tabOk 1 _ _ hf rfl rfl fun a hf => ?_
  refine wl0 rfl (op_q hf (rq_loadB hf H TF.ls3 1 rfl rfl rfl) rfl (by decide) fun a hf => ?_)
  refine pRun_ok (tb := tab) (n := 25) tabOk 1 _ _ hf rfl rfl fun a hf => ?_
  refine wl0 rfl (op_q hf (rq_loadB hf H TF.ls3 0 rfl rfl rfl) rfl (by decide) fun a hf => ?_)
  refine pRun_ok (tb := tab) (n := 25) tabOk 1 _ _ hf rfl rfl fun a hf => ?_
  refine wl_end ?_
  refine then_n ?_
  refine (Bool.eq_false_or_eq_true (a'.After != b'.After)).elim (fun hc => ?_) (fun hc => ?_)
  · rw [if_pos hc] at hF
    refine cd_t hf rfl hc ?_
    refine sq ?_
    refine reg ?_
    refine pRun_ok (tb := tab) (n := 25) tabOk 1 _ _ hf rfl rfl fun a hf => ?_
    refine wl_end ?_
    refine then_n ?_
    refine wp_ret (then_r (?_))
    obtain rfl := Option.some.inj hF
    refine ret_1 (fn := Try.f122) (r := .tmp 4) hf rfl (rv_tmp hf rfl) ?_
    exact ⟨_, rfl, H.bel, mk_bool⟩
  · rw [if_neg (nt hc)] at hF
    refine cd_f hf rfl hc ?_
    refine wp_skip ?_
    refine then_n ?_
    refine sq ?_
    refine sq ?_
    refine reg ?_
    refine pRun_ok (tb := tab) (n := 25) tabOk 1 _ _ hf rfl rfl fun a hf => ?_
    refine wl0 rfl (op_q hf (rq_loadB hf H TF.ls3 1 rfl rfl rfl) rfl (by decide) fun a hf => ?_)
    refine pRun_ok (tb := tab) (n := 25) tabOk 1 _ _ hf rfl rfl fun a hf => ?_
    refine wl0 rfl (op_q hf (rq_loadB hf H TF.ls3 0 rfl rfl rfl) rfl (by decide) fun a hf => ?_)
    refine pRun_ok (tb := tab) (n := 25) tabOk 1 _ _ hf rfl rfl fun a hf => ?_
    refine wl_end ?_
    refine then_n ?_
    refine (Bool.eq_false_or_eq_true (a'.Gain != b'.Gain)).elim (fun hc2 => ?_) (fun hc2 => ?_)
    · rw [if_pos hc2] at hF
      refine cd_t hf rfl hc2 ?_
      refine sq ?_
      refine reg ?_
      refine pRun_ok (tb := tab) (n := 25) tabOk 1 _ _ hf rfl rfl fun a hf => ?_
      have hf := hf.prune [4] rfl
      refine wl_end ?_
      refine then_n ?_
      refine wp_ret (then_r (?_))
      obtain rfl := Option.some.inj hF
      refine ret_1 (fn := Try.f122) (r := .tmp 4) hf rfl (rv_tmp hf rfl) ?_
      exact ⟨_, rfl, H.bel, mk_bool⟩
    · rw [if_neg (nt hc2)] at hF
      refine cd_f hf rfl hc2 ?_
      refine wp_skip ?_
      refine then_n ?_
      refine sq ?_
      refine sq ?_
      refine reg ?_
      refine pRun_ok (tb := tab) (n := 25) tabOk 1 _ _ hf rfl rfl fun a hf => ?_
      refine wl0 rfl (op_q hf (rq_loadB hf H TF.ls3 1 rfl rfl rfl) rfl (by decide) fun a hf => ?_)
      refine pRun_ok (tb := tab) (n := 25) tabOk 1 _ _ hf rfl rfl fun a hf => ?_
      refine wl0 rfl (op_q hf (rq_loadB hf H TF.ls3 0 rfl rfl rfl) rfl (by decide) fun a hf => ?_)
      refine pRun_ok (tb := tab) (n := 25) tabOk 1 _ _ hf rfl rfl fun a hf => ?_
      have hf := hf.prune [2, 3, 19] rfl
      refine wl_end ?_
      refine then_n ?_
      refine (Bool.eq_false_or_eq_true (a'.Output != b'.Output)).elim (fun hc3 => ?_) (fun hc3 => ?_)
      · rw [if_pos hc3] at hF
        refine cd_t hf rfl hc3 ?_
        refine sq ?_
        refine reg ?_
        refine pRun_ok (tb := tab) (n := 25) tabOk 1 _ _ hf rfl rfl fun a hf => ?_
        refine wl_end ?_
        refine then_n ?_
        refine wp_ret (then_r (?_))
        obtain rfl := Option.some.inj hF
        refine ret_1 (fn := Try.f122) (r := .tmp 4) hf rfl (rv_tmp hf rfl) ?_
        exact ⟨_, rfl, H.bel, mk_bool⟩
      · rw [if_neg (nt hc3)] at hF
        refine cd_f hf rfl hc3 ?_
        refine wp_skip ?_
        refine then_n ?_
        refine sq ?_
        refine sq ?_
        refine reg ?_
        refine pRun_ok (tb := tab) (n := 25) tabOk 1 _ _ hf rfl rfl fun a hf => ?_
        refine wl0 rfl (op_q hf (rq_loadB hf H TF.ls3 1 rfl rfl rfl) rfl (by decide) fun a hf => ?_)
        refine pRun_ok (tb := tab) (n := 25) tabOk 1 _ _ hf rfl rfl fun a hf => ?_
        refine wl0 rfl (op_q hf (rq_loadB hf H TF.ls3 0 rfl rfl rfl) rfl (by decide) fun a hf => ?_)
        refine pRun_ok (tb := tab) (n := 25) tabOk 1 _ _ hf rfl rfl fun a hf => ?_
        refine wl_end ?_
        refine then_n ?_
        refine (Bool.eq_false_or_eq_true (a'.Noise != b'.Noise)).elim (fun hc4 => ?_) (fun hc4 => ?_)
        · rw [if_pos hc4] at hF
          refine cd_t hf rfl hc4 ?_
          refine sq ?_
          refine reg ?_
          refine pRun_ok (tb := tab) (n := 25) tabOk 1 _ _ hf rfl rfl fun a hf => ?_
          refine wl_end ?_
          refine then_n ?_
          refine wp_ret (then_r (?_))
          obtain rfl := Option.some.inj hF
          refine ret_1 (fn := Try.f122) (r := .tmp 4) hf rfl (rv_tmp hf rfl) ?_
          exact ⟨_, rfl, H.bel, mk_bool⟩
        · rw [if_neg (nt hc4)] at hF
          refine cd_f hf rfl hc4 ?_
          refine wp_skip ?_
          refine then_n ?_
          refine sq ?_
          refine reg ?_
          refine pRun_ok (tb := tab) (n := 25) tabOk 1 _ _ hf rfl rfl fun a hf => ?_
          refine wl_end ?_
          refine then_n ?_
          refine wp_ret (?_)
          obtain rfl := Option.some.inj hF
          refine ret_1 (fn := Try.f122) (r := .tmp 4) hf rfl (rv_tmp hf rfl) ?_
          exact ⟨_, rfl, H.bel, mk_bool⟩

/- loop.example/g00897/laws.eqAmplifierS -/
set_option maxHeartbeats 1000000 in
theorem laws_eqAmplifierS_ok {fu : Nat} {w0 : World} {S : Nat → Prop} {v0_ : Value} {v1_ : Value} {a' : List Amplifier} {b' : List Amplifier} {r : Bool} (h0 : VR w0 S v0_ a') (h1 : VR w0 S v1_ b') (hF : laws_eqAmplifierS fu a' b' = some r) :
    Calls Try.prog 58 [v0_, v1_].toArray w0 fun e w' => ∃ v, e = .returned v ∧ (Below w0.heap.size w0 w' ∧ VR w' (St ⟨w0, []⟩ S [] [] [] true) v r) := by
  obtain ⟨A, c, rfl, hl⟩ := VR_list h0
  obtain ⟨A2, c2, rfl, hl2⟩ := VR_list h1
  have H := Mem.start ⟨w0, []⟩ S
  have H := H.pushArg (MP.val [(.slice A a'.length c)] a') hl
  have H := H.pushArg (MP.val [(.slice A2 b'.length c2)] b') hl2
  refine enter Try.func58 rfl rfl (nle rfl) rfl fun a hf => ?_
  rw [laws_eqAmplifierS] at hF
  refine sq ?_
  refine reg ?_
  refine pRun_ok (tb := tab) (n := 27) tabOk 1 _ _ hf rfl rfl fun a hf => ?_
  refine wl_end ?_
  refine then_n ?_
  refine sq ?_
  refine sq ?_
  refine reg ?_
  refine pRun_ok (tb := tab) (n := 27) tabOk 5 _ _ hf rfl rfl fun a hf => ?_
  refine wl_end ?_
  refine then_n ?_
  refine (Bool.eq_false_or_eq_true ((a'.length : Int) != (b'.length : Int))).elim (fun hc => ?_) (fun hc => ?_)
  · rw [if_pos hc] at hF
    refine cd_t hf rfl hc ?_
    refine sq ?_
    refine reg ?_
    refine pRun_ok (tb := tab) (n := 27) tabOk 1 _ _ hf rfl rfl fun a hf => ?_
    refine wl_end ?_
    refine then_n ?_
    refine wp_ret (then_r (?_))
    obtain rfl := Option.some.inj hF
    refine ret_1 (fn := Try.f58) (r := .tmp 4) hf rfl (rv_tmp hf rfl) ?_
    exact ⟨_, rfl, H.bel, mk_bool⟩
  · rw [if_neg (nt hc)] at hF
    refine cd_f hf rfl hc ?_
    refine wp_skip ?_
    refine then_n ?_
    refine sq ?_
    refine sq ?_
    refine reg ?_
    refine pRun_ok (tb := tab) (n := 27) tabOk 1 _ _ hf rfl rfl fun a hf => ?_
    refine wl_end ?_
    refine then_n ?_
    obtain ⟨out', hB1, hF⟩ := bind_some hF
    have hf := hf.prune [0, 1, 5] rfl
    have H := H.let [] [] [] [0, 1]
    have hI : (fun (s : Int) (a : Act) (w : World) => match s with | i => Fr a 27 [(0, (.slice A a'.length c)), (1, (.slice A2 b'.length c2)), (5, (.int .i64 i))] ∧ Mem ⟨w0, []⟩ S [] [] [] [(false, MP.val [(.slice A2 b'.length c2)] (b' : List Amplifier)), (false, MP.val [(.slice A a'.length c)] (a' : List Amplifier))] w) 0 a w0 := ⟨hf, H⟩
    refine mid (fun a w => ∃ s : Int, out' = Out.next s ∧ (fun (s : Int) (a : Act) (w : World) => match s with | i => Fr a 27 [(0, (.slice A a'.length c)), (1, (.slice A2 b'.length c2)), (5, (.int .i64 i))] ∧ Mem ⟨w0, []⟩ S [] [] [] [(false, MP.val [(.slice A2 b'.length c2)] (b' : List Amplifier)), (false, MP.val [(.slice A a'.length c)] (a' : List Amplifier))] w) s a w) ?_ ?_
    · refine wp_block ?_
      refine loop_rule (fun k (s : Int) => laws_eqAmplifierS_L1 fu a' b' k s = some out') (fun (s : Int) (a : Act) (w : World) => match s with | i => Fr a 27 [(0, (.slice A a'.length c)), (1, (.slice A2 b'.length c2)), (5, (.int .i64 i))] ∧ Mem ⟨w0, []⟩ S [] [] [] [(false, MP.val [(.slice A2 b'.length c2)] (b' : List Amplifier)), (false, MP.val [(.slice A a'.length c)] (a' : List Amplifier))] w) (fun s h => by cases h) ?_ fu 0 a w0 hB1 hI
      rintro fk i a w hR1 hI
      replace hR1 : laws_eqAmplifierS_L1 fu a' b' (fk + 1) i = some out' := hR1
      rw [laws_eqAmplifierS_L1] at hR1
      obtain ⟨hf, H⟩ := hI
      refine sq ?_
      refine sq ?_
      refine reg ?_
      refine pRun_ok (tb := tab) (n := 27) tabOk 4 _ _ hf rfl rfl fun a hf => ?_
      refine wl_end ?_
      refine then_n ?_
      refine (Bool.eq_false_or_eq_true (decide (i < (a'.length : Int)))).elim (fun hc2 => ?_) (fun hc2 => ?_)
      · rw [if_pos hc2] at hR1
        refine cd_t hf rfl hc2 ?_
        refine wp_skip ?_
        refine then_n ?_
        refine sq ?_
        refine wp_block ?_
        refine sq ?_
        refine drawn [] (bs := [false, false, false, false, false, false, false, false, false, false]) (fuel := 10) (Checked.mixed Try.checked) rfl rfl fun w hb => ?_
        have H := H.keep hb
        refine tkP (i := 0) (bs' := [true, false, false, false, false, false, false, false, false, false]) rfl rfl rfl (by decide) hf (by kernel_rfl) (fun _ => trivial) (fun w => pOp_ok (tb := tab) tabOk hf rfl) rfl fun a hf => ?_
        refine tkP (i := 1) (bs' := [true, true, false, false, false, false, false, false, false, false]) rfl rfl rfl (by decide) hf (by kernel_rfl) (fun _ => trivial) (fun w => pOp_ok (tb := tab) tabOk hf rfl) rfl fun a hf => ?_
        obtain ⟨e, he, hR1⟩ := bind_some hR1
        obtain ⟨p, o, cs, hx, hr, H⟩ := pre_iaddr H Try.underlying63 TF.sz88 1 rfl he
        refine tkP (i := 2) (bs' := [true, true, true, false, false, false, false, false, false, false]) rfl rfl rfl (by decide) hf (by kernel_rfl) (fun _ => trivial) (fun w => rq_iaddrE hf rfl rfl rfl hx w) rfl fun a hf => ?_
        obtain rfl := Amplifier_cells hr
        refine str (fun w => Mem ⟨w0, []⟩ S [] [] [] [(false, MP.cells ⟨p, o, none⟩ [(.int .i64 e.After), (.int .i64 e.Gain), (.int .i64 e.Output), (.int .i64 e.Noise)]), (false, MP.val [(.slice A2 b'.length c2)] (b' : List Amplifier)), (false, MP.val [(.slice A a'.length c)] (a' : List Amplifier))] w) (fun w H => trivial) ?_
        have hS : Mem ⟨w0, []⟩ S [] [] [] [(false, MP.cells ⟨p, o, none⟩ [(.int .i64 e.After), (.int .i64 e.Gain), (.int .i64 e.Output), (.int .i64 e.Noise)]), (false, MP.val [(.slice A2 b'.length c2)] (b' : List Amplifier)), (false, MP.val [(.slice A a'.length c)] (a' : List Amplifier))] w := H.let [] [] [] [0, 1, 2]
        refine tkS (i := 3) (bs' := [true, true, true, true, false, false, false, false, false, false]) [] rfl rfl rfl (by decide) hf (by kernel_rfl) (by kernel_rfl) hS (fun w H => rq_loadIN hf H TF.la88 0 0 rfl rfl rfl rfl) rfl fun a hf => ?_
        refine tkP (i := 4) (bs' := [true, true, true, true, true, false, false, false, false, false]) rfl rfl rfl (by decide) hf (by kernel_rfl) (fun _ => hS) (fun w => pOp_ok (tb := tab) tabOk hf rfl) rfl fun a hf => ?_
        refine tkP (i := 5) (bs' := [true, true, true, true, true, true, false, false, false, false]) rfl rfl rfl (by decide) hf (by kernel_rfl) (fun _ => hS) (fun w => pOp_ok (tb := tab) tabOk hf rfl) rfl fun a hf => ?_
        obtain ⟨e2, he2, hR1⟩ := bind_some hR1
        obtain ⟨p2, o2, cs2, hx2, hr2, H⟩ := pre_iaddr H Try.underlying63 TF.sz88 1 rfl he2
        refine tkP (i := 6) (bs' := [true, true, true, true, true, true, true, false, false, false]) rfl rfl rfl (by decide) hf (by kernel_rfl) (fun _ => hS) (fun w => rq_iaddrE hf rfl rfl rfl hx2 w) rfl fun a hf => ?_
        obtain rfl := Amplifier_cells hr2
        refine str (fun w => Mem ⟨w0, []⟩ S [] [] [] [(false, MP.cells ⟨p2, o2, none⟩ [(.int .i64 e2.After), (.int .i64 e2.Gain), (.int .i64 e2.Output), (.int .i64 e2.Noise)]), (false, MP.cells ⟨p, o, none⟩ [(.int .i64 e.After), (.int .i64 e.Gain), (.int .i64 e.Output), (.int .i64 e.Noise)]), (false, MP.val [(.slice A2 b'.length c2)] (b' : List Amplifier)), (false, MP.val [(.slice A a'.length c)] (a' : List Amplifier))] w) (fun w H => H.let [] [] [] [1, 2, 3]) ?_
        have hS : Mem ⟨w0, []⟩ S [] [] [] [(false, MP.cells ⟨p2, o2, none⟩ [(.int .i64 e2.After), (.int .i64 e2.Gain), (.int .i64 e2.Output), (.int .i64 e2.Noise)]), (false, MP.cells ⟨p, o, none⟩ [(.int .i64 e.After), (.int .i64 e.Gain), (.int .i64 e.Output), (.int .i64 e.Noise)]), (false, MP.val [(.slice A2 b'.length c2)] (b' : List Amplifier)), (false, MP.val [(.slice A a'.length c)] (a' : List Amplifier))] w := H.let [] [] [] [0, 1, 2, 3]
        refine tkS (i := 7) (bs' := [true, true, true, true, true, true, true, true, false, false]) [] rfl rfl rfl (by decide) hf (by kernel_rfl) (by kernel_rfl) hS (fun w H => rq_loadIN hf H TF.la88 0 0 rfl rfl rfl rfl) rfl fun a hf => ?_
        obtain ⟨y, hy, hR1⟩ := bind_some hR1
        refine on1 (i := 8) (bs' := [true, true, true, true, true, true, true, true, true, false]) (by kernel_rfl) rfl rfl rfl (op_call hf TF.cl122 rfl (by decide) (laws_eqAmplifier_ok (S := fun _ => True) Amplifier_mkv Amplifier_mkv hy) fun v w a hp hf => ?_)
        obtain ⟨hb, hp⟩ := hp
        obtain rfl := VR_bool hp
        have H := H.keep hb
        have hS : Mem ⟨w0, []⟩ S [] [] [] [(false, MP.cells ⟨p2, o2, none⟩ [(.int .i64 e2.After), (.int .i64 e2.Gain), (.int .i64 e2.Output), (.int .i64 e2.Noise)]), (false, MP.cells ⟨p, o, none⟩ [(.int .i64 e.After), (.int .i64 e.Gain), (.int .i64 e.Output), (.int .i64 e.Noise)]), (false, MP.val [(.slice A2 b'.length c2)] (b' : List Amplifier)), (false, MP.val [(.slice A a'.length c)] (a' : List Amplifier))] w := H.let [] [] [] [0, 1, 2, 3]
        refine ⟨fun _ => hS, ?_⟩
        refine tkP (i := 9) (bs' := [true, true, true, true, true, true, true, true, true, true]) rfl rfl rfl (by decide) hf (by kernel_rfl) (fun _ => hS) (fun w => pOp_ok (tb := tab) tabOk hf rfl) rfl fun a hf => ?_
        refine dn (by kernel_rfl) ?_
        have hf := hf.prune [0, 1, 5, 26] rfl
        refine then_n ?_
        refine (Bool.eq_false_or_eq_true (!y)).elim (fun hc3 => ?_) (fun hc3 => ?_)
        · rw [if_pos hc3] at hR1
          refine cd_t hf rfl hc3 ?_
          refine sq ?_
          refine reg ?_
          refine pRun_ok (tb := tab) (n := 27) tabOk 1 _ _ hf rfl rfl fun a hf => ?_
          refine wl_end ?_
          refine then_n ?_
          refine wp_ret (blk_r (then_r (then_r (blk_r (then_r (then_r (?_)))))))
          obtain rfl := Option.some.inj hR1
          replace hF := on_ret hF
          obtain rfl := Option.some.inj hF
          refine ret_1 (fn := Try.f58) (r := .tmp 4) hf rfl (rv_tmp hf rfl) ?_
          exact ⟨_, rfl, H.bel, mk_bool⟩
        · rw [if_neg (nt hc3)] at hR1
          refine cd_f hf rfl hc3 ?_
          refine wp_skip ?_
          refine blk_n ?_
          refine then_n ?_
          refine reg ?_
          refine pRun_ok (tb := tab) (n := 27) tabOk 3 _ _ hf rfl rfl fun a hf => ?_
          refine wl_end ?_
          have hf := hf.prune [0, 1, 5] rfl
          have H := H.let [] [] [] [2, 3]
          exact then_n ⟨w64 (i + 1), hR1, hf, H⟩
      · rw [if_neg (nt hc2)] at hR1
        refine cd_f hf rfl hc2 ?_
        refine wp_exit (then_x (then_x (blk_e (?_))))
        have hf := hf.prune [0, 1, 5] rfl
        have H := H.let [] [] [] [0, 1]
        exact ⟨i, (Option.some.inj hR1).symm, hf, H⟩
    rintro a w ⟨i2, rfl, hf, H⟩
    replace hF := on_next hF
    refine then_n ?_
    refine sq ?_
    refine reg ?_
    refine pRun_ok (tb := tab) (n := 27) tabOk 1 _ _ hf rfl rfl fun a hf => ?_
    refine wl_end ?_
    refine then_n ?_
    refine wp_ret (?_)
    obtain rfl := Option.some.inj hF
    refine ret_1 (fn := Try.f58) (r := .tmp 4) hf rfl (rv_tmp hf rfl) ?_
    exact ⟨_, rfl, H.bel, mk_bool⟩

/- loop.example/g00897/laws.eqSpan -/
set_option maxHeartbeats 1000000 in
theorem laws_eqSpan_ok {fu : Nat} {w0 : World} {S : Nat → Prop} {v0_ : Value} {v1_ : Value} {a' : Span} {b' : Span} {r : Bool} (h0 : VR w0 S v0_ a') (h1 : VR w0 S v1_ b') (hF : laws_eqSpan fu a' b' = some r) :
    Calls Try.prog 144 [v0_, v1_].toArray w0 fun e w' => ∃ v, e = .returned v ∧ (Below w0.heap.size w0 w' ∧ VR w' (St ⟨w0, []⟩ S [] [] [] true) v r) := by
  obtain rfl := Span_open h0
  obtain rfl := Span_open h1
  have H := Mem.start ⟨w0, []⟩ S
  refine enter Try.func144 rfl rfl (nle rfl) rfl fun a hf => ?_
  rw [laws_eqSpan] at hF
  refine sq ?_
  refine reg ?_
  refine wl0 rfl (op_box hf H rfl rfl (by decide) fun b2 a w hf H => ?_)
  refine wl0 rfl (op_box hf H rfl rfl (by decide) fun b3 a w hf H => ?_)
  refine pRun_ok (tb := tab) (n := 20) tabOk 1 _ _ hf rfl rfl fun a hf => ?_
  refine wl_end ?_
  refine then_n ?_
  refine sq ?_
  refine sq ?_
  refine reg ?_
  refine pRun_ok (tb := tab) (n := 20) tabOk 1 _ _ hf rfl rfl fun a hf => ?_
  refine wl0 rfl (op_q hf (rq_loadB hf H TF.ls3 1 rfl rfl rfl) rfl (by decide) fun a hf => ?_)
  refine pRun_ok (tb := tab) (n := 20) tabOk 1 _ _ hf rfl rfl fun a hf => ?_
  refine wl0 rfl (op_q hf (rq_loadB hf H TF.ls3 0 rfl rfl rfl) rfl (by decide) fun a hf => ?_)
  refine pRun_ok (tb := tab) (n := 20) tabOk 1 _ _ hf rfl rfl fun a hf => ?_
  refine wl_end ?_
  refine then_n ?_
  refine (Bool.eq_false_or_eq_true (a'.Length != b'.Length)).elim (fun hc => ?_) (fun hc => ?_)
  · rw [if_pos hc] at hF
    refine cd_t hf rfl hc ?_
    refine sq ?_
    refine reg ?_
    refine pRun_ok (tb := tab) (n := 20) tabOk 1 _ _ hf rfl rfl fun a hf => ?_
    refine wl_end ?_
    refine then_n ?_
    refine wp_ret (then_r (?_))
    obtain rfl := Option.some.inj hF
    refine ret_1 (fn := Try.f144) (r := .tmp 4) hf rfl (rv_tmp hf rfl) ?_
    exact ⟨_, rfl, H.bel, mk_bool⟩
  · rw [if_neg (nt hc)] at hF
    refine cd_f hf rfl hc ?_
    refine wp_skip ?_
    refine then_n ?_
    refine sq ?_
    refine sq ?_
    refine reg ?_
    refine pRun_ok (tb := tab) (n := 20) tabOk 1 _ _ hf rfl rfl fun a hf => ?_
    refine wl0 rfl (op_q hf (rq_loadB hf H TF.ls3 1 rfl rfl rfl) rfl (by decide) fun a hf => ?_)
    refine pRun_ok (tb := tab) (n := 20) tabOk 1 _ _ hf rfl rfl fun a hf => ?_
    refine wl0 rfl (op_q hf (rq_loadB hf H TF.ls3 0 rfl rfl rfl) rfl (by decide) fun a hf => ?_)
    refine pRun_ok (tb := tab) (n := 20) tabOk 1 _ _ hf rfl rfl fun a hf => ?_
    refine wl_end ?_
    refine then_n ?_
    refine (Bool.eq_false_or_eq_true (a'.Loss != b'.Loss)).elim (fun hc2 => ?_) (fun hc2 => ?_)
    · rw [if_pos hc2] at hF
      refine cd_t hf rfl hc2 ?_
      refine sq ?_
      refine reg ?_
      refine pRun_ok (tb := tab) (n := 20) tabOk 1 _ _ hf rfl rfl fun a hf => ?_
      have hf := hf.prune [4] rfl
      refine wl_end ?_
      refine then_n ?_
      refine wp_ret (then_r (?_))
      obtain rfl := Option.some.inj hF
      refine ret_1 (fn := Try.f144) (r := .tmp 4) hf rfl (rv_tmp hf rfl) ?_
      exact ⟨_, rfl, H.bel, mk_bool⟩
    · rw [if_neg (nt hc2)] at hF
      refine cd_f hf rfl hc2 ?_
      refine wp_skip ?_
      refine then_n ?_
      refine sq ?_
      refine sq ?_
      refine reg ?_
      refine pRun_ok (tb := tab) (n := 20) tabOk 1 _ _ hf rfl rfl fun a hf => ?_
      refine wl0 rfl (op_q hf (rq_loadB hf H TF.ls3 1 rfl rfl rfl) rfl (by decide) fun a hf => ?_)
      refine pRun_ok (tb := tab) (n := 20) tabOk 1 _ _ hf rfl rfl fun a hf => ?_
      refine wl0 rfl (op_q hf (rq_loadB hf H TF.ls3 0 rfl rfl rfl) rfl (by decide) fun a hf => ?_)
      refine pRun_ok (tb := tab) (n := 20) tabOk 1 _ _ hf rfl rfl fun a hf => ?_
      have hf := hf.prune [19] rfl
      refine wl_end ?_
      refine then_n ?_
      refine (Bool.eq_false_or_eq_true (a'.Splices != b'.Splices)).elim (fun hc3 => ?_) (fun hc3 => ?_)
      · rw [if_pos hc3] at hF
        refine cd_t hf rfl hc3 ?_
        refine sq ?_
        refine reg ?_
        refine pRun_ok (tb := tab) (n := 20) tabOk 1 _ _ hf rfl rfl fun a hf => ?_
        refine wl_end ?_
        refine then_n ?_
        refine wp_ret (then_r (?_))
        obtain rfl := Option.some.inj hF
        refine ret_1 (fn := Try.f144) (r := .tmp 4) hf rfl (rv_tmp hf rfl) ?_
        exact ⟨_, rfl, H.bel, mk_bool⟩
      · rw [if_neg (nt hc3)] at hF
        refine cd_f hf rfl hc3 ?_
        refine wp_skip ?_
        refine then_n ?_
        refine sq ?_
        refine reg ?_
        refine pRun_ok (tb := tab) (n := 20) tabOk 1 _ _ hf rfl rfl fun a hf => ?_
        refine wl_end ?_
        refine then_n ?_
        refine wp_ret (?_)
        obtain rfl := Option.some.inj hF
        refine ret_1 (fn := Try.f144) (r := .tmp 4) hf rfl (rv_tmp hf rfl) ?_
        exact ⟨_, rfl, H.bel, mk_bool⟩

/- loop.example/g00897/laws.eqSpanS -/
set_option maxHeartbeats 1000000 in
theorem laws_eqSpanS_ok {fu : Nat} {w0 : World} {S : Nat → Prop} {v0_ : Value} {v1_ : Value} {a' : List Span} {b' : List Span} {r : Bool} (h0 : VR w0 S v0_ a') (h1 : VR w0 S v1_ b') (hF : laws_eqSpanS fu a' b' = some r) :
    Calls Try.prog 85 [v0_, v1_].toArray w0 fun e w' => ∃ v, e = .returned v ∧ (Below w0.heap.size w0 w' ∧ VR w' (St ⟨w0, []⟩ S [] [] [] true) v r) := by
  obtain ⟨A, c, rfl, hl⟩ := VR_list h0
  obtain ⟨A2, c2, rfl, hl2⟩ := VR_list h1
  have H := Mem.start ⟨w0, []⟩ S
  have H := H.pushArg (MP.val [(.slice A a'.length c)] a') hl
  have H := H.pushArg (MP.val [(.slice A2 b'.length c2)] b') hl2
  refine enter Try.func85 rfl rfl (nle rfl) rfl fun a hf => ?_
  rw [laws_eqSpanS] at hF
  refine sq ?_
  refine reg ?_
  refine pRun_ok (tb := tab) (n := 27) tabOk 1 _ _ hf rfl rfl fun a hf => ?_
  refine wl_end ?_
  refine then_n ?_
  refine sq ?_
  refine sq ?_
  refine reg ?_
  refine pRun_ok (tb := tab) (n := 27) tabOk 5 _ _ hf rfl rfl fun a hf => ?_
  refine wl_end ?_
  refine then_n ?_
  refine (Bool.eq_false_or_eq_true ((a'.length : Int) != (b'.length : Int))).elim (fun hc => ?_) (fun hc => ?_)
  · rw [if_pos hc] at hF
    refine cd_t hf rfl hc ?_
    refine sq ?_
    refine reg ?_
    refine pRun_ok (tb := tab) (n := 27) tabOk 1 _ _ hf rfl rfl fun a hf => ?_
    refine wl_end ?_
    refine then_n ?_
    refine wp_ret (then_r (?_))
    obtain rfl := Option.some.inj hF
    refine ret_1 (fn := Try.f85) (r := .tmp 4) hf rfl (rv_tmp hf rfl) ?_
    exact ⟨_, rfl, H.bel, mk_bool⟩
  · rw [if_neg (nt hc)] at hF
    refine cd_f hf rfl hc ?_
    refine wp_skip ?_
    refine then_n ?_
    refine sq ?_
    refine sq ?_
    refine reg ?_
    refine pRun_ok (tb := tab) (n := 27) tabOk 1 _ _ hf rfl rfl fun a hf => ?_
    refine wl_end ?_
    refine then_n ?_
    obtain ⟨out', hB1, hF⟩ := bind_some hF
    have hf := hf.prune [0, 1, 5] rfl
    have H := H.let [] [] [] [0, 1]
    have hI : (fun (s : Int) (a : Act) (w : World) => match s with | i => Fr a 27 [(0, (.slice A a'.length c)), (1, (.slice A2 b'.length c2)), (5, (.int .i64 i))] ∧ Mem ⟨w0, []⟩ S [] [] [] [(false, MP.val [(.slice A2 b'.length c2)] (b' : List Span)), (false, MP.val [(.slice A a'.length c)] (a' : List Span))] w) 0 a w0 := ⟨hf, H⟩
    refine mid (fun a w => ∃ s : Int, out' = Out.next s ∧ (fun (s : Int) (a : Act) (w : World) => match s with | i => Fr a 27 [(0, (.slice A a'.length c)), (1, (.slice A2 b'.length c2)), (5, (.int .i64 i))] ∧ Mem ⟨w0, []⟩ S [] [] [] [(false, MP.val [(.slice A2 b'.length c2)] (b' : List Span)), (false, MP.val [(.slice A a'.length c)] (a' : List Span))] w) s a w) ?_ ?_
    · refine wp_block ?_
      refine loop_rule (fun k (s : Int) => laws_eqSpanS_L1 fu a' b' k s = some out') (fun (s : Int) (a : Act) (w : World) => match s with | i => Fr a 27 [(0, (.slice A a'.length c)), (1, (.slice A2 b'.length c2)), (5, (.int .i64 i))] ∧ Mem ⟨w0, []⟩ S [] [] [] [(false, MP.val [(.slice A2 b'.length c2)] (b' : List Span)), (false, MP.val [(.slice A a'.length c)] (a' : List Span))] w) (fun s h => by cases h) ?_ fu 0 a w0 hB1 hI
      rintro fk i a w hR1 hI
      replace hR1 : laws_eqSpanS_L1 fu a' b' (fk + 1) i = some out' := hR1
      rw [laws_eqSpanS_L1] at hR1
      obtain ⟨hf, H⟩ := hI
      refine sq ?_
      refine sq ?_
      refine reg ?_
      refine pRun_ok (tb := tab) (n := 27) tabOk 4 _ _ hf rfl rfl fun a hf => ?_
      refine wl_end ?_
      refine then_n ?_
      refine (Bool.eq_false_or_eq_true (decide (i < (a'.length : Int)))).elim (fun hc2 => ?_) (fun hc2 => ?_)
      · rw [if_pos hc2] at hR1
        refine cd_t hf rfl hc2 ?_
        refine wp_skip ?_
        refine then_n ?_
        refine sq ?_
        refine wp_block ?_
        refine sq ?_
        refine drawn [] (bs := [false, false, false, false, false, false, false, false, false, false]) (fuel := 10) (Checked.mixed Try.checked) rfl rfl fun w hb => ?_
        have H := H.keep hb
        refine tkP (i := 0) (bs' := [true, false, false, false, false, false, false, false, false, false]) rfl rfl rfl (by decide) hf (by kernel_rfl) (fun _ => trivial) (fun w => pOp_ok (tb := tab) tabOk hf rfl) rfl fun a hf => ?_
        refine tkP (i := 1) (bs' := [true, true, false, false, false, false, false, false, false, false]) rfl rfl rfl (by decide) hf (by kernel_rfl) (fun _ => trivial) (fun w => pOp_ok (tb := tab) tabOk hf rfl) rfl fun a hf => ?_
        obtain ⟨e, he, hR1⟩ := bind_some hR1
        obtain ⟨p, o, cs, hx, hr, H⟩ := pre_iaddr H Try.underlying96 TF.sz28 1 rfl he
        refine tkP (i := 2) (bs' := [true, true, true, false, false, false, false, false, false, false]) rfl rfl rfl (by decide) hf (by kernel_rfl) (fun _ => trivial) (fun w => rq_iaddrE hf rfl rfl rfl hx w) rfl fun a hf => ?_
        obtain rfl := Span_cells hr
        refine str (fun w => Mem ⟨w0, []⟩ S [] [] [] [(false, MP.cells ⟨p, o, none⟩ [(.int .i64 e.Length), (.int .i64 e.Loss), (.int .i64 e.Splices)]), (false, MP.val [(.slice A2 b'.length c2)] (b' : List Span)), (false, MP.val [(.slice A a'.length c)] (a' : List Span))] w) (fun w H => trivial) ?_
        have hS : Mem ⟨w0, []⟩ S [] [] [] [(false, MP.cells ⟨p, o, none⟩ [(.int .i64 e.Length), (.int .i64 e.Loss), (.int .i64 e.Splices)]), (false, MP.val [(.slice A2 b'.length c2)] (b' : List Span)), (false, MP.val [(.slice A a'.length c)] (a' : List Span))] w := H.let [] [] [] [0, 1, 2]
        refine tkS (i := 3) (bs' := [true, true, true, true, false, false, false, false, false, false]) [] rfl rfl rfl (by decide) hf (by kernel_rfl) (by kernel_rfl) hS (fun w H => rq_loadIN hf H TF.la28 0 0 rfl rfl rfl rfl) rfl fun a hf => ?_
        refine tkP (i := 4) (bs' := [true, true, true, true, true, false, false, false, false, false]) rfl rfl rfl (by decide) hf (by kernel_rfl) (fun _ => hS) (fun w => pOp_ok (tb := tab) tabOk hf rfl) rfl fun a hf => ?_
        refine tkP (i := 5) (bs' := [true, true, true, true, true, true, false, false, false, false]) rfl rfl rfl (by decide) hf (by kernel_rfl) (fun _ => hS) (fun w => pOp_ok (tb := tab) tabOk hf rfl) rfl fun a hf => ?_
        obtain ⟨e2, he2, hR1⟩ := bind_some hR1
        obtain ⟨p2, o2, cs2, hx2, hr2, H⟩ := pre_iaddr H Try.underlying96 TF.sz28 1 rfl he2
        refine tkP (i := 6) (bs' := [true, true, true, true, true, true, true, false, false, false]) rfl rfl rfl (by decide) hf (by kernel_rfl) (fun _ => hS) (fun w => rq_iaddrE hf rfl rfl rfl hx2 w) rfl fun a hf => ?_
        obtain rfl := Span_cells hr2
        refine str (fun w => Mem ⟨w0, []⟩ S [] [] [] [(false, MP.cells ⟨p2, o2, none⟩ [(.int .i64 e2.Length), (.int .i64 e2.Loss), (.int .i64 e2.Splices)]), (false, MP.cells ⟨p, o, none⟩ [(.int .i64 e.Length), (.int .i64 e.Loss), (.int .i64 e.Splices)]), (false, MP.val [(.slice A2 b'.length c2)] (b' : List Span)), (false, MP.val [(.slice A a'.length c)] (a' : List Span))] w) (fun w H => H.let [] [] [] [1, 2, 3]) ?_
        have hS : Mem ⟨w0, []⟩ S [] [] [] [(false, MP.cells ⟨p2, o2, none⟩ [(.int .i64 e2.Length), (.int .i64 e2.Loss), (.int .i64 e2.Splices)]), (false, MP.cells ⟨p, o, none⟩ [(.int .i64 e.Length), (.int .i64 e.Loss), (.int .i64 e.Splices)]), (false, MP.val [(.slice A2 b'.length c2)] (b' : List Span)), (false, MP.val [(.slice A a'.length c)] (a' : List Span))] w := H.let [] [] [] [0, 1, 2, 3]
        refine tkS (i := 7) (bs' := [true, true, true, true, true, true, true, true, false, false]) [] rfl rfl rfl (by decide) hf (by kernel_rfl) (by kernel_rfl) hS (fun w H => rq_loadIN hf H TF.la28 0 0 rfl rfl rfl rfl) rfl fun a hf => ?_
        obtain ⟨y, hy, hR1⟩ := bind_some hR1
        refine on1 (i := 8) (bs' := [true, true, true, true, true, true, true, true, true, false]) (by kernel_rfl) rfl rfl rfl (op_call hf TF.cl144 rfl (by decide) (laws_eqSpan_ok (S := fun _ => True) Span_mkv Span_mkv hy) fun v w a hp hf => ?_)
        obtain ⟨hb, hp⟩ := hp
        obtain rfl := VR_bool hp
        have H := H.keep hb
        have hS : Mem ⟨w0, []⟩ S [] [] [] [(false, MP.cells ⟨p2, o2, none⟩ [(.int .i64 e2.Length), (.int .i64 e2.Loss), (.int .i64 e2.Splices)]), (false, MP.cells ⟨p, o, none⟩ [(.int .i64 e.Length), (.int .i64 e.Loss), (.int .i64 e.Splices)]), (false, MP.val [(.slice A2 b'.length c2)] (b' : List Span)), (false, MP.val [(.slice A a'.length c)] (a' : List Span))] w := H.let [] [] [] [0, 1, 2, 3]
        refine ⟨fun _ => hS, ?_⟩
        refine tkP (i := 9) (bs' := [true, true, true, true, true, true, true, true, true, true]) rfl rfl rfl (by decide) hf (by kernel_rfl) (fun _ => hS) (fun w => pOp_ok (tb := tab) tabOk hf rfl) rfl fun a hf => ?_
        refine dn (by kernel_rfl) ?_
        have hf := hf.prune [0, 1, 5, 26] rfl
        refine then_n ?_
        refine (Bool.eq_false_or_eq_true (!y)).elim (fun hc3 => ?_) (fun hc3 => ?_)
        · rw [if_pos hc3] at hR1
          refine cd_t hf rfl hc3 ?_
          refine sq ?_
          refine reg ?_
          refine pRun_ok (tb := tab) (n := 27) tabOk 1 _ _ hf rfl rfl fun a hf => ?_
          refine wl_end ?_
          refine then_n ?_
          refine wp_ret (blk_r (then_r (then_r (blk_r (then_r (then_r (?_)))))))
          obtain rfl := Option.some.inj hR1
          replace hF := on_ret hF
          obtain rfl := Option.some.inj hF
          refine ret_1 (fn := Try.f85) (r := .tmp 4) hf rfl (rv_tmp hf rfl) ?_
          exact ⟨_, rfl, H.bel, mk_bool⟩
        · rw [if_neg (nt hc3)] at hR1
          refine cd_f hf rfl hc3 ?_
          refine wp_skip ?_
          refine blk_n ?_
          refine then_n ?_
          refine reg ?_
          refine pRun_ok (tb := tab) (n := 27) tabOk 3 _ _ hf rfl rfl fun a hf => ?_
          refine wl_end ?_
          have hf := hf.prune [0, 1, 5] rfl
          have H := H.let [] [] [] [2, 3]
          exact then_n ⟨w64 (i + 1), hR1, hf, H⟩
      · rw [if_neg (nt hc2)] at hR1
        refine cd_f hf rfl hc2 ?_
        refine wp_exit (then_x (then_x (blk_e (?_))))
        have hf := hf.prune [0, 1, 5] rfl
        have H := H.let [] [] [] [0, 1]
        exact ⟨i, (Option.some.inj hR1).symm, hf, H⟩
    rintro a w ⟨i2, rfl, hf, H⟩
    replace hF := on_next hF
    refine then_n ?_
    refine sq ?_
    refine reg ?_
    refine pRun_ok (tb := tab) (n := 27) tabOk 1 _ _ hf rfl rfl fun a hf => ?_
    refine wl_end ?_
    refine then_n ?_
    refine wp_ret (?_)
    obtain rfl := Option.some.inj hF
    refine ret_1 (fn := Try.f85) (r := .tmp 4) hf rfl (rv_tmp hf rfl) ?_
    exact ⟨_, rfl, H.bel, mk_bool⟩

/- loop.example/g00897/laws.markSpanS -/
set_option maxHeartbeats 1000000 in
theorem laws_markSpanS_ok {fu : Nat} {w0 : World} {S : Nat → Prop} {F : List Nat} {cs : List Value} {v1_ : Value} {a' : List Span} {k' : Int} {r : Int × List Span} (hO : GoTy.own w0 F cs a') (hn : F.Nodup) (h1 : VR w0 S v1_ k') (hF : laws_markSpanS fu a' k' = some r) :
    Calls Try.prog 86 [(bif GoTy.agg (List Span) then .agg cs.toArray else cs.headD undef), v1_].toArray w0 fun e w' => ∃ v, e = .returned v ∧ (Chg w0 w' F ∧ VR w' (fun _ => True) v r.1 ∧ ∃ F', GoTy.own w' F' cs r.2 ∧ Back w0 w' F F') := by
  obtain rfl := VR_int h1
  obtain ⟨A, c, rfl, hO⟩ := own_list hO
  have H := Mem.startG S hO hn
  obtain ⟨Fs, E, H, -⟩ := H.thaw rfl
  have H := H.rowSh 0 rfl
  refine enter Try.func86 rfl rfl (nle rfl) rfl fun a hf => ?_
  rw [laws_markSpanS] at hF
  refine sq ?_
  refine reg ?_
  refine pRun_ok (tb := tab) (n := 34) tabOk 1 _ _ hf rfl rfl fun a hf => ?_
  refine wl_end ?_
  refine then_n ?_
  refine sq ?_
  refine sq ?_
  refine reg ?_
  refine pRun_ok (tb := tab) (n := 34) tabOk 1 _ _ hf rfl rfl fun a hf => ?_
  refine wl_end ?_
  refine then_n ?_
  obtain ⟨out', hB1, hF⟩ := bind_some hF
  have hf := hf.prune [0, 1, 5] rfl
  have hf : Fr a 34 [(0, (.slice A a'.length c)), (1, (.int .i64 k')), (5, (.int .i64 0))] := by first | exact hf | (simp only [List.length_set] at hf; exact hf)
  have H := H.let [] [true] [] []
  have hI : (fun (s : List Span × Int × Int) (a : Act) (w : World) => match s with | (a2, k2, i) => a2.length = a'.length ∧ Fr a 34 [(0, (.slice A a'.length c)), (1, (.int .i64 k2)), (5, (.int .i64 i))] ∧ Mem ⟨w0, F⟩ S [] [⟨.sh true, E, A, c, (a2 : List Span)⟩] [] [] w) (a', k', 0) a w0 := ⟨rfl, hf, H⟩
  refine mid (fun a w => ∃ s : List Span × Int × Int, out' = s ∧ (fun (s : List Span × Int × Int) (a : Act) (w : World) => match s with | (a2, k2, i) => a2.length = a'.length ∧ Fr a 34 [(0, (.slice A a'.length c)), (1, (.int .i64 k2)), (5, (.int .i64 i))] ∧ Mem ⟨w0, F⟩ S [] [⟨.sh true, E, A, c, (a2 : List Span)⟩] [] [] w) s a w) ?_ ?_
  · refine wp_block ?_
    refine loop_rule (fun k (s : List Span × Int × Int) => laws_markSpanS_L1 fu k s.1 s.2.1 s.2.2 = some out') (fun (s : List Span × Int × Int) (a : Act) (w : World) => match s with | (a2, k2, i) => a2.length = a'.length ∧ Fr a 34 [(0, (.slice A a'.length c)), (1, (.int .i64 k2)), (5, (.int .i64 i))] ∧ Mem ⟨w0, F⟩ S [] [⟨.sh true, E, A, c, (a2 : List Span)⟩] [] [] w) (fun s h => by cases h) ?_ fu (a', k', 0) a w0 hB1 hI
    rintro fk ⟨a2, k2, i⟩ a w hR1 hI
    replace hR1 : laws_markSpanS_L1 fu (fk + 1) a2 k2 i = some out' := hR1
    rw [laws_markSpanS_L1] at hR1
    obtain ⟨hlen, hf, H⟩ := hI
    have hf : Fr a 34 [(0, (.slice A a2.length c)), (1, (.int .i64 k2)), (5, (.int .i64 i))] := by rw [hlen]; exact hf
    refine sq ?_
    refine sq ?_
    refine reg ?_
    refine pRun_ok (tb := tab) (n := 34) tabOk 4 _ _ hf rfl rfl fun a hf => ?_
    refine wl_end ?_
    refine then_n ?_
    refine (Bool.eq_false_or_eq_true (decide (i < (a2.length : Int)))).elim (fun hc => ?_) (fun hc => ?_)
    · rw [if_pos hc] at hR1
      refine cd_t hf rfl hc ?_
      refine wp_skip ?_
      refine then_n ?_
      refine sq ?_
      refine wp_block ?_
      refine sq ?_
      refine reg ?_
      refine pRun_ok (tb := tab) (n := 34) tabOk 3 _ _ hf rfl rfl fun a hf => ?_
      obtain ⟨e, he, hR1⟩ := bind_some hR1
      refine wl0 rfl (op_iaddrR hf H Try.underlying96 TF.sz28 0 rfl rfl rfl he (by decide) fun p o cs a hf hA hr hk => ?_)
      obtain rfl := Span_cells hr
      refine pRun_ok (tb := tab) (n := 34) tabOk 1 _ _ hf rfl rfl fun a hf => ?_
      refine wl0 rfl (op_storeR (e' := ({ Length := k2, Loss := e.Loss, Splices := e.Splices } : Span)) hf H TF.sz3 0 rfl rfl rfl rfl rfl (nle rfl) rfl hA he (fun cs h => by obtain rfl := Span_cells h; exact Span_mk (x := ({ Length := k2, Loss := e.Loss, Splices := e.Splices } : Span))) fun w H => ?_)
      replace hf : Fr a 34 [(0, (.slice A a2.length c)), (1, (.int .i64 k2)), (5, (.int .i64 i)), (6, (.int .i64 i)), (7, (.slice A a2.length c)), (8, (.int .i64 (a2.length : Int))), (9, (.bool (decide (i < (a2.length : Int))))), (12, (.slice A a2.length c)), (13, (.int .i64 i)), (14, (.int .i64 k2)), (15, (.pointer (some ⟨p, o + 0, none⟩))), (16, (.pointer (some ⟨p, o + 0, none⟩)))] := hf.prune [0, 1, 5, 6, 7, 8, 9, 12, 13, 14, 15, 16] rfl
      replace hf : Fr a 34 [(0, (.slice A (a2.set (i).toNat ({ Length := k2, Loss := e.Loss, Splices := e.Splices } : Span)).length c)), (1, (.int .i64 k2)), (5, (.int .i64 i)), (6, (.int .i64 i)), (7, (.slice A (a2.set (i).toNat ({ Length := k2, Loss := e.Loss, Splices := e.Splices } : Span)).length c)), (8, (.int .i64 (a2.length : Int))), (9, (.bool (decide (i < (a2.length : Int))))), (12, (.slice A (a2.set (i).toNat ({ Length := k2, Loss := e.Loss, Splices := e.Splices } : Span)).length c)), (13, (.int .i64 i)), (14, (.int .i64 k2)), (15, (.pointer (some ⟨p, o + 0, none⟩))), (16, (.pointer (some ⟨p, o + 0, none⟩)))] := by simpa only [List.length_set, Nat.add_zero] using hf
      refine wl_end ?_
      refine then_n ?_
      refine sq ?_
      refine reg ?_
      refine pRun_ok (tb := tab) (n := 34) tabOk 3 _ _ hf rfl rfl fun a hf => ?_
      refine wl_end ?_
      refine then_n ?_
      refine sq ?_
      refine reg ?_
      refine pRun_ok (tb := tab) (n := 34) tabOk 3 _ _ hf rfl rfl fun a hf => ?_
      obtain ⟨e2, he2, hR1⟩ := bind_some hR1
      refine wl0 rfl (op_iaddrR hf H Try.underlying96 TF.sz28 0 rfl rfl rfl he2 (by decide) fun p2 o2 cs2 a hf hA2 hr2 hk2 => ?_)
      obtain rfl := Span_cells hr2
      refine pRun_ok (tb := tab) (n := 34) tabOk 1 _ _ hf rfl rfl fun a hf => ?_
      refine wl0 rfl (op_storeR (e' := ({ Length := e2.Length, Loss := w64 (k2 + 1), Splices := e2.Splices } : Span)) hf H TF.sz3 0 rfl rfl rfl rfl rfl (nle rfl) rfl hA2 he2 (fun cs h => by obtain rfl := Span_cells h; exact Span_mk (x := ({ Length := e2.Length, Loss := w64 (k2 + 1), Splices := e2.Splices } : Span))) fun w H => ?_)
      replace hf : Fr a 34 [(0, (.slice A (a2.set (i).toNat ({ Length := k2, Loss := e.Loss, Splices := e.Splices } : Span)).length c)), (1, (.int .i64 (w64 (k2 + 1)))), (5, (.int .i64 i)), (6, (.int .i64 i)), (7, (.slice A (a2.set (i).toNat ({ Length := k2, Loss := e.Loss, Splices := e.Splices } : Span)).length c)), (8, (.int .i64 (a2.length : Int))), (9, (.bool (decide (i < (a2.length : Int))))), (12, (.slice A (a2.set (i).toNat ({ Length := k2, Loss := e.Loss, Splices := e.Splices } : Span)).length c)), (13, (.int .i64 i)), (14, (.int .i64 k2)), (15, (.pointer (some ⟨p, o + 0, none⟩))), (16, (.pointer (some ⟨p, o + 0, none⟩))), (17, (.int .i64 k2)), (18, (.int .i64 (w64 (k2 + 1)))), (19, (.slice A (a2.set (i).toNat ({ Length := k2, Loss := e.Loss, Splices := e.Splices } : Span)).length c)), (20, (.int .i64 i)), (21, (.int .i64 (w64 (k2 + 1)))), (22, (.pointer (some ⟨p2, o2 + 0, none⟩))), (23, (.pointer (some ⟨p2, o2 + 1, none⟩)))] := hf.prune [0, 1, 5, 6, 7, 8, 9, 12, 13, 14, 15, 16, 17, 18, 19, 20, 21, 22, 23] rfl
      replace hf : Fr a 34 [(0, (.slice A ((a2.set (i).toNat ({ Length := k2, Loss := e.Loss, Splices := e.Splices } : Span)).set (i).toNat ({ Length := e2.Length, Loss := w64 (k2 + 1), Splices := e2.Splices } : Span)).length c)), (1, (.int .i64 (w64 (k2 + 1)))), (5, (.int .i64 i)), (6, (.int .i64 i)), (7, (.slice A ((a2.set (i).toNat ({ Length := k2, Loss := e.Loss, Splices := e.Splices } : Span)).set (i).toNat ({ Length := e2.Length, Loss := w64 (k2 + 1), Splices := e2.Splices } : Span)).length c)), (8, (.int .i64 (a2.length : Int))), (9, (.bool (decide (i < (a2.length : Int))))), (12, (.slice A ((a2.set (i).toNat ({ Length := k2, Loss := e.Loss, Splices := e.Splices } : Span)).set (i).toNat ({ Length := e2.Length, Loss := w64 (k2 + 1), Splices := e2.Splices } : Span)).length c)), (13, (.int .i64 i)), (14, (.int .i64 k2)), (15, (.pointer (some ⟨p, o + 0, none⟩))), (16, (.pointer (some ⟨p, o + 0, none⟩))), (17, (.int .i64 k2)), (18, (.int .i64 (w64 (k2 + 1)))), (19, (.slice A ((a2.set (i).toNat ({ Length := k2, Loss := e.Loss, Splices := e.Splices } : Span)).set (i).toNat ({ Length := e2.Length, Loss := w64 (k2 + 1), Splices := e2.Splices } : Span)).length c)), (20, (.int .i64 i)), (21, (.int .i64 (w64 (k2 + 1)))), (22, (.pointer (some ⟨p2, o2 + 0, none⟩))), (23, (.pointer (some ⟨p2, o2 + 1, none⟩)))] := by simpa only [List.length_set, Nat.add_zero] using hf
      have hf := hf.prune [0, 1, 5] rfl
      refine wl_end ?_
      refine then_n ?_
      refine sq ?_
      refine reg ?_
      refine pRun_ok (tb := tab) (n := 34) tabOk 3 _ _ hf rfl rfl fun a hf => ?_
      refine wl_end ?_
      refine then_n ?_
      refine sq ?_
      refine reg ?_
      refine pRun_ok (tb := tab) (n := 34) tabOk 3 _ _ hf rfl rfl fun a hf => ?_
      obtain ⟨e3, he3, hR1⟩ := bind_some hR1
      refine wl0 rfl (op_iaddrR hf H Try.underlying96 TF.sz28 0 rfl rfl rfl he3 (by decide) fun p3 o3 cs3 a hf hA3 hr3 hk3 => ?_)
      obtain rfl := Span_cells hr3
      refine pRun_ok (tb := tab) (n := 34) tabOk 1 _ _ hf rfl rfl fun a hf => ?_
      refine wl0 rfl (op_storeR (e' := ({ Length := e3.Length, Loss := e3.Loss, Splices := w64 ((w64 (k2 + 1)) + 1) } : Span)) hf H TF.sz3 0 rfl rfl rfl rfl rfl (nle rfl) rfl hA3 he3 (fun cs h => by obtain rfl := Span_cells h; exact Span_mk (x := ({ Length := e3.Length, Loss := e3.Loss, Splices := w64 ((w64 (k2 + 1)) + 1) } : Span))) fun w H => ?_)
      replace hf : Fr a 34 [(0, (.slice A ((a2.set (i).toNat ({ Length := k2, Loss := e.Loss, Splices := e.Splices } : Span)).set (i).toNat ({ Length := e2.Length, Loss := w64 (k2 + 1), Splices := e2.Splices } : Span)).length c)), (1, (.int .i64 (w64 ((w64 (k2 + 1)) + 1)))), (5, (.int .i64 i)), (24, (.int .i64 (w64 (k2 + 1)))), (25, (.int .i64 (w64 ((w64 (k2 + 1)) + 1)))), (26, (.slice A ((a2.set (i).toNat ({ Length := k2, Loss := e.Loss, Splices := e.Splices } : Span)).set (i).toNat ({ Length := e2.Length, Loss := w64 (k2 + 1), Splices := e2.Splices } : Span)).length c)), (27, (.int .i64 i)), (28, (.int .i64 (w64 ((w64 (k2 + 1)) + 1)))), (29, (.pointer (some ⟨p3, o3 + 0, none⟩))), (30, (.pointer (some ⟨p3, o3 + 2, none⟩)))] := hf.prune [0, 1, 5, 24, 25, 26, 27, 28, 29, 30] rfl
      replace hf : Fr a 34 [(0, (.slice A (((a2.set (i).toNat ({ Length := k2, Loss := e.Loss, Splices := e.Splices } : Span)).set (i).toNat ({ Length := e2.Length, Loss := w64 (k2 + 1), Splices := e2.Splices } : Span)).set (i).toNat ({ Length := e3.Length, Loss := e3.Loss, Splices := w64 ((w64 (k2 + 1)) + 1) } : Span)).length c)), (1, (.int .i64 (w64 ((w64 (k2 + 1)) + 1)))), (5, (.int .i64 i)), (24, (.int .i64 (w64 (k2 + 1)))), (25, (.int .i64 (w64 ((w64 (k2 + 1)) + 1)))), (26, (.slice A (((a2.set (i).toNat ({ Length := k2, Loss := e.Loss, Splices := e.Splices } : Span)).set (i).toNat ({ Length := e2.Length, Loss := w64 (k2 + 1), Splices := e2.Splices } : Span)).set (i).toNat ({ Length := e3.Length, Loss := e3.Loss, Splices := w64 ((w64 (k2 + 1)) + 1) } : Span)).length c)), (27, (.int .i64 i)), (28, (.int .i64 (w64 ((w64 (k2 + 1)) + 1)))), (29, (.pointer (some ⟨p3, o3 + 0, none⟩))), (30, (.pointer (some ⟨p3, o3 + 2, none⟩)))] := by simpa only [List.length_set, Nat.add_zero] using hf
      refine wl_end ?_
      refine then_n ?_
      refine reg ?_
      refine pRun_ok (tb := tab) (n := 34) tabOk 3 _ _ hf rfl rfl fun a hf => ?_
      refine wl_end ?_
      refine blk_n ?_
      refine then_n ?_
      refine reg ?_
      refine pRun_ok (tb := tab) (n := 34) tabOk 3 _ _ hf rfl rfl fun a hf => ?_
      refine wl_end ?_
      have hf := hf.prune [0, 1, 5] rfl
      have hf : Fr a 34 [(0, (.slice A a'.length c)), (1, (.int .i64 (w64 ((w64 ((w64 (k2 + 1)) + 1)) + 1)))), (5, (.int .i64 (w64 (i + 1))))] := by first | exact hf | (simp only [List.length_set, hlen] at hf; exact hf)
      have H := H.let [] [true] [] []
      exact then_n ⟨(((a2.set (i).toNat ({ Length := k2, Loss := e.Loss, Splices := e.Splices } : Span)).set (i).toNat ({ Length := e2.Length, Loss := w64 (k2 + 1), Splices := e2.Splices } : Span)).set (i).toNat ({ Length := e3.Length, Loss := e3.Loss, Splices := w64 ((w64 (k2 + 1)) + 1) } : Span), w64 ((w64 ((w64 (k2 + 1)) + 1)) + 1), w64 (i + 1)), hR1, (by simp only [List.length_set, hlen]), hf, H⟩
    · rw [if_neg (nt hc)] at hR1
      refine cd_f hf rfl hc ?_
      refine wp_exit (then_x (then_x (blk_e (?_))))
      have hf := hf.prune [0, 1, 5] rfl
      have hf : Fr a 34 [(0, (.slice A a'.length c)), (1, (.int .i64 k2)), (5, (.int .i64 i))] := by first | exact hf | (simp only [List.length_set, hlen] at hf; exact hf)
      have H := H.let [] [true] [] []
      exact ⟨(a2, k2, i), (Option.some.inj hR1).symm, (by simp only [List.length_set, hlen]), hf, H⟩
  rintro a w ⟨⟨a3, k3, i2⟩, rfl, hlen, hf, H⟩
  try dsimp only at hlen
  have hf : Fr a 34 [(0, (.slice A a3.length c)), (1, (.int .i64 k3)), (5, (.int .i64 i2))] := by rw [hlen]; exact hf
  dsimp only at hF
  refine then_n ?_
  refine sq ?_
  refine reg ?_
  refine pRun_ok (tb := tab) (n := 34) tabOk 2 _ _ hf rfl rfl fun a hf => ?_
  refine wl_end ?_
  refine then_n ?_
  refine wp_ret (?_)
  have H := H.rowOwn 0 rfl rfl
  obtain ⟨F', H⟩ := H.freezeOwn 0 rfl
  rw [hlen] at H
  obtain rfl := Option.some.inj hF
  refine ret_1 (fn := Try.f86) (r := .tmp 4) hf rfl (rv_tmp hf rfl) ?_
  exact ⟨_, rfl, H.chg, mk_int, _, H.ownAt 0 rfl, H.back⟩

/- loop.example/g00897/laws.markAmplifierS -/
set_option maxHeartbeats 1000000 in
theorem laws_markAmplifierS_ok {fu : Nat} {w0 : World} {S : Nat → Prop} {F : List Nat} {cs : List Value} {v1_ : Value} {a' : List Amplifier} {k' : Int} {r : Int × List Amplifier} (hO : GoTy.own w0 F cs a') (hn : F.Nodup) (h1 : VR w0 S v1_ k') (hF : laws_markAmplifierS fu a' k' = some r) :
    Calls Try.prog 87 [(bif GoTy.agg (List Amplifier) then .agg cs.toArray else cs.headD undef), v1_].toArray w0 fun e w' => ∃ v, e = .returned v ∧ (Chg w0 w' F ∧ VR w' (fun _ => True) v r.1 ∧ ∃ F', GoTy.own w' F' cs r.2 ∧ Back w0 w' F F') := by
  obtain rfl := VR_int h1
  obtain ⟨A, c, rfl, hO⟩ := own_list hO
  have H := Mem.startG S hO hn
  obtain ⟨Fs, E, H, -⟩ := H.thaw rfl
  have H := H.rowSh 0 rfl
  refine enter Try.func87 rfl rfl (nle rfl) rfl fun a hf => ?_
  rw [laws_markAmplifierS] at hF
  refine sq ?_
  refine reg ?_
  refine pRun_ok (tb := tab) (n := 41) tabOk 1 _ _ hf rfl rfl fun a hf => ?_
  refine wl_end ?_
  refine then_n ?_
  refine sq ?_
  refine sq ?_
  refine reg ?_
  refine pRun_ok (tb := tab) (n := 41) tabOk 1 _ _ hf rfl rfl fun a hf => ?_
  refine wl_end ?_
  refine then_n ?_
  obtain ⟨out', hB1, hF⟩ := bind_some hF
  have hf := hf.prune [0, 1, 5] rfl
  have hf : Fr a 41 [(0, (.slice A a'.length c)), (1, (.int .i64 k')), (5, (.int .i64 0))] := by first | exact hf | (simp only [List.length_set] at hf; exact hf)
  have H := H.let [] [true] [] []
  have hI : (fun (s : List Amplifier × Int × Int) (a : Act) (w : World) => match s with | (a2, k2, i) => a2.length = a'.length ∧ Fr a 41 [(0, (.slice A a'.length c)), (1, (.int .i64 k2)), (5, (.int .i64 i))] ∧ Mem ⟨w0, F⟩ S [] [⟨.sh true, E, A, c, (a2 : List Amplifier)⟩] [] [] w) (a', k', 0) a w0 := ⟨rfl, hf, H⟩
  refine mid (fun a w => ∃ s : List Amplifier × Int × Int, out' = s ∧ (fun (s : List Amplifier × Int × Int) (a : Act) (w : World) => match s with | (a2, k2, i) => a2.length = a'.length ∧ Fr a 41 [(0, (.slice A a'.length c)), (1, (.int .i64 k2)), (5, (.int .i64 i))] ∧ Mem ⟨w0, F⟩ S [] [⟨.sh true, E, A, c, (a2 : List Amplifier)⟩] [] [] w) s a w) ?_ ?_
  · refine wp_block ?_
    refine loop_rule (fun k (s : List Amplifier × Int × Int) => laws_markAmplifierS_L1 fu k s.1 s.2.1 s.2.2 = some out') (fun (s : List Amplifier × Int × Int) (a : Act) (w : World) => match s with | (a2, k2, i) => a2.length = a'.length ∧ Fr a 41 [(0, (.slice A a'.length c)), (1, (.int .i64 k2)), (5, (.int .i64 i))] ∧ Mem ⟨w0, F⟩ S [] [⟨.sh true, E, A, c, (a2 : List Amplifier)⟩] [] [] w) (fun s h => by cases h) ?_ fu (a', k', 0) a w0 hB1 hI
    rintro fk ⟨a2, k2, i⟩ a w hR1 hI
    replace hR1 : laws_markAmplifierS_L1 fu (fk + 1) a2 k2 i = some out' := hR1
    rw [laws_markAmplifierS_L1] at hR1
    obtain ⟨hlen, hf, H⟩ := hI
    have hf : Fr a 41 [(0, (.slice A a2.length c)), (1, (.int .i64 k2)), (5, (.int .i64 i))] := by rw [hlen]; exact hf
    refine sq ?_
    refine sq ?_
    refine reg ?_
    refine pRun_ok (tb := tab) (n := 41) tabOk 4 _ _ hf rfl rfl fun a hf => ?_
    refine wl_end ?_
    refine then_n ?_
    refine (Bool.eq_false_or_eq_true (decide (i < (a2.length : Int)))).elim (fun hc => ?_) (fun hc => ?_)
    · rw [if_pos hc] at hR1
      refine cd_t hf rfl hc ?_
      refine wp_skip ?_
      refine then_n ?_
      refine sq ?_
      refine wp_block ?_
      refine sq ?_
      refine reg ?_
      refine pRun_ok (tb := tab) (n := 41) tabOk 3 _ _ hf rfl rfl fun a hf => ?_
      obtain ⟨e, he, hR1⟩ := bind_some hR1
      refine wl0 rfl (op_iaddrR hf H Try.underlying63 TF.sz88 0 rfl rfl rfl he (by decide) fun p o cs a hf hA hr hk => ?_)
      obtain rfl := Amplifier_cells hr
      refine pRun_ok (tb := tab) (n := 41) tabOk 1 _ _ hf rfl rfl fun a hf => ?_
      refine wl0 rfl (op_storeR (e' := ({ After := k2, Gain := e.Gain, Output := e.Output, Noise := e.Noise } : Amplifier)) hf H TF.sz3 0 rfl rfl rfl rfl rfl (nle rfl) rfl hA he (fun cs h => by obtain rfl := Amplifier_cells h; exact Amplifier_mk (x := ({ After := k2, Gain := e.Gain, Output := e.Output, Noise := e.Noise } : Amplifier))) fun w H => ?_)
      replace hf : Fr a 41 [(0, (.slice A a2.length c)), (1, (.int .i64 k2)), (5, (.int .i64 i)), (6, (.int .i64 i)), (7, (.slice A a2.length c)), (8, (.int .i64 (a2.length : Int))), (9, (.bool (decide (i < (a2.length : Int))))), (12, (.slice A a2.length c)), (13, (.int .i64 i)), (14, (.int .i64 k2)), (15, (.pointer (some ⟨p, o + 0, none⟩))), (16, (.pointer (some ⟨p, o + 0, none⟩)))] := hf.prune [0, 1, 5, 6, 7, 8, 9, 12, 13, 14, 15, 16] rfl
      replace hf : Fr a 41 [(0, (.slice A (a2.set (i).toNat ({ After := k2, Gain := e.Gain, Output := e.Output, Noise := e.Noise } : Amplifier)).length c)), (1, (.int .i64 k2)), (5, (.int .i64 i)), (6, (.int .i64 i)), (7, (.slice A (a2.set (i).toNat ({ After := k2, Gain := e.Gain, Output := e.Output, Noise := e.Noise } : Amplifier)).length c)), (8, (.int .i64 (a2.length : Int))), (9, (.bool (decide (i < (a2.length : Int))))), (12, (.slice A (a2.set (i).toNat ({ After := k2, Gain := e.Gain, Output := e.Output, Noise := e.Noise } : Amplifier)).length c)), (13, (.int .i64 i)), (14, (.int .i64 k2)), (15, (.pointer (some ⟨p, o + 0, none⟩))), (16, (.pointer (some ⟨p, o + 0, none⟩)))] := by simpa only [List.length_set, Nat.add_zero] using hf
      refine wl_end ?_
      refine then_n ?_
      refine sq ?_
      refine reg ?_
      refine pRun_ok (tb := tab) (n := 41) tabOk 3 _ _ hf rfl rfl fun a hf => ?_
      refine wl_end ?_
      refine then_n ?_
      refine sq ?_
      refine reg ?_
      refine pRun_ok (tb := tab) (n := 41) tabOk 3 _ _ hf rfl rfl fun a hf => ?_
      obtain ⟨e2, he2, hR1⟩ := bind_some hR1
      refine wl0 rfl (op_iaddrR hf H Try.underlying63 TF.sz88 0 rfl rfl rfl he2 (by decide) fun p2 o2 cs2 a hf hA2 hr2 hk2 => ?_)
      obtain rfl := Amplifier_cells hr2
      refine pRun_ok (tb := tab) (n := 41) tabOk 1 _ _ hf rfl rfl fun a hf => ?_
      refine wl0 rfl (op_storeR (e' := ({ After := e2.After, Gain := w64 (k2 + 1), Output := e2.Output, Noise := e2.Noise } : Amplifier)) hf H TF.sz3 0 rfl rfl rfl rfl rfl (nle rfl) rfl hA2 he2 (fun cs h => by obtain rfl := Amplifier_cells h; exact Amplifier_mk (x := ({ After := e2.After, Gain := w64 (k2 + 1), Output := e2.Output, Noise := e2.Noise } : Amplifier))) fun w H => ?_)
      replace hf : Fr a 41 [(0, (.slice A (a2.set (i).toNat ({ After := k2, Gain := e.Gain, Output := e.Output, Noise := e.Noise } : Amplifier)).length c)), (1, (.int .i64 (w64 (k2 + 1)))), (5, (.int .i64 i)), (6, (.int .i64 i)), (7, (.slice A (a2.set (i).toNat ({ After := k2, Gain := e.Gain, Output := e.Output, Noise := e.Noise } : Amplifier)).length c)), (8, (.int .i64 (a2.length : Int))), (9, (.bool (decide (i < (a2.length : Int))))), (12, (.slice A (a2.set (i).toNat ({ After := k2, Gain := e.Gain, Output := e.Output, Noise := e.Noise } : Amplifier)).length c)), (13, (.int .i64 i)), (14, (.int .i64 k2)), (15, (.pointer (some ⟨p, o + 0, none⟩))), (16, (.pointer (some ⟨p, o + 0, none⟩))), (17, (.int .i64 k2)), (18, (.int .i64 (w64 (k2 + 1)))), (19, (.slice A (a2.set (i).toNat ({ After := k2, Gain := e.Gain, Output := e.Output, Noise := e.Noise } : Amplifier)).length c)), (20, (.int .i64 i)), (21, (.int .i64 (w64 (k2 + 1)))), (22, (.pointer (some ⟨p2, o2 + 0, none⟩))), (23, (.pointer (some ⟨p2, o2 + 1, none⟩)))] := hf.prune [0, 1, 5, 6, 7, 8, 9, 12, 13, 14, 15, 16, 17, 18, 19, 20, 21, 22, 23] rfl
      replace hf : Fr a 41 [(0, (.slice A ((a2.set (i).toNat ({ After := k2, Gain := e.Gain, Output := e.Output, Noise := e.Noise } : Amplifier)).set (i).toNat ({ After := e2.After, Gain := w64 (k2 + 1), Output := e2.Output, Noise := e2.Noise } : Amplifier)).length c)), (1, (.int .i64 (w64 (k2 + 1)))), (5, (.int .i64 i)), (6, (.int .i64 i)), (7, (.slice A ((a2.set (i).toNat ({ After := k2, Gain := e.Gain, Output := e.Output, Noise := e.Noise } : Amplifier)).set (i).toNat ({ After := e2.After, Gain := w64 (k2 + 1), Output := e2.Output, Noise := e2.Noise } : Amplifier)).length c)), (8, (.int .i64 (a2.length : Int))), (9, (.bool (decide (i < (a2.length : Int))))), (12, (.slice A ((a2.set (i).toNat ({ After := k2, Gain := e.Gain, Output := e.Output, Noise := e.Noise } : Amplifier)).set (i).toNat ({ After := e2.After, Gain := w64 (k2 + 1), Output := e2.Output, Noise := e2.Noise } : Amplifier)).length c)), (13, (.int .i64 i)), (14, (.int .i64 k2)), (15, (.pointer (some ⟨p, o + 0, none⟩))), (16, (.pointer (some ⟨p, o + 0, none⟩))), (17, (.int .i64 k2)), (18, (.int .i64 (w64 (k2 + 1)))), (19, (.slice A ((a2.set (i).toNat ({ After := k2, Gain := e.Gain, Output := e.Output, Noise := e.Noise } : Amplifier)).set (i).toNat ({ After := e2.After, Gain := w64 (k2 + 1), Output := e2.Output, Noise := e2.Noise } : Amplifier)).length c)), (20, (.int .i64 i)), (21, (.int .i64 (w64 (k2 + 1)))), (22, (.pointer (some ⟨p2, o2 + 0, none⟩))), (23, (.pointer (some ⟨p2, o2 + 1, none⟩)))] := by simpa only [List.length_set, Nat.add_zero] using hf
      have hf := hf.prune [0, 1, 5] rfl
      refine wl_end ?_
      refine then_n ?_
      refine sq ?_
      refine reg ?_
      refine pRun_ok (tb := tab) (n := 41) tabOk 3 _ _ hf rfl rfl fun a hf => ?_
      refine wl_end ?_
      refine then_n ?_
      refine sq ?_
      refine reg ?_
      refine pRun_ok (tb := tab) (n := 41) tabOk 3 _ _ hf rfl rfl fun a hf => ?_
      obtain ⟨e3, he3, hR1⟩ := bind_some hR1
      refine wl0 rfl (op_iaddrR hf H Try.underlying63 TF.sz88 0 rfl rfl rfl he3 (by decide) fun p3 o3 cs3 a hf hA3 hr3 hk3 => ?_)
      obtain rfl := Amplifier_cells hr3
      refine pRun_ok (tb := tab) (n := 41) tabOk 1 _ _ hf rfl rfl fun a hf => ?_
      refine wl0 rfl (op_storeR (e' := ({ After := e3.After, Gain := e3.Gain, Output := w64 ((w64 (k2 + 1)) + 1), Noise := e3.Noise } : Amplifier)) hf H TF.sz3 0 rfl rfl rfl rfl rfl (nle rfl) rfl hA3 he3 (fun cs h => by obtain rfl := Amplifier_cells h; exact Amplifier_mk (x := ({ After := e3.After, Gain := e3.Gain, Output := w64 ((w64 (k2 + 1)) + 1), Noise := e3.Noise } : Amplifier))) fun w H => ?_)
      replace hf : Fr a 41 [(0, (.slice A ((a2.set (i).toNat ({ After := k2, Gain := e.Gain, Output := e.Output, Noise := e.Noise } : Amplifier)).set (i).toNat ({ After := e2.After, Gain := w64 (k2 + 1), Output := e2.Output, Noise := e2.Noise } : Amplifier)).length c)), (1, (.int .i64 (w64 ((w64 (k2 + 1)) + 1)))), (5, (.int .i64 i)), (24, (.int .i64 (w64 (k2 + 1)))), (25, (.int .i64 (w64 ((w64 (k2 + 1)) + 1)))), (26, (.slice A ((a2.set (i).toNat ({ After := k2, Gain := e.Gain, Output := e.Output, Noise := e.Noise } : Amplifier)).set (i).toNat ({ After := e2.After, Gain := w64 (k2 + 1), Output := e2.Output, Noise := e2.Noise } : Amplifier)).length c)), (27, (.int .i64 i)), (28, (.int .i64 (w64 ((w64 (k2 + 1)) + 1)))), (29, (.pointer (some ⟨p3, o3 + 0, none⟩))), (30, (.pointer (some ⟨p3, o3 + 2, none⟩)))] := hf.prune [0, 1, 5, 24, 25, 26, 27, 28, 29, 30] rfl
      replace hf : Fr a 41 [(0, (.slice A (((a2.set (i).toNat ({ After := k2, Gain := e.Gain, Output := e.Output, Noise := e.Noise } : Amplifier)).set (i).toNat ({ After := e2.After, Gain := w64 (k2 + 1), Output := e2.Output, Noise := e2.Noise } : Amplifier)).set (i).toNat ({ After := e3.After, Gain := e3.Gain, Output := w64 ((w64 (k2 + 1)) + 1), Noise := e3.Noise } : Amplifier)).length c)), (1, (.int .i64 (w64 ((w64 (k2 + 1)) + 1)))), (5, (.int .i64 i)), (24, (.int .i64 (w64 (k2 + 1)))), (25, (.int .i64 (w64 ((w64 (k2 + 1)) + 1)))), (26, (.slice A (((a2.set (i).toNat ({ After := k2, Gain := e.Gain, Output := e.Output, Noise := e.Noise } : Amplifier)).set (i).toNat ({ After := e2.After, Gain := w64 (k2 + 1), Output := e2.Output, Noise := e2.Noise } : Amplifier)).set (i).toNat ({ After := e3.After, Gain := e3.Gain, Output := w64 ((w64 (k2 + 1)) + 1), Noise := e3.Noise } : Amplifier)).length c)), (27, (.int .i64 i)), (28, (.int .i64 (w64 ((w64 (k2 + 1)) + 1)))), (29, (.pointer (some ⟨p3, o3 + 0, none⟩))), (30, (.pointer (some ⟨p3, o3 + 2, none⟩)))] := by simpa only [List.length_set, Nat.add_zero] using hf
      refine wl_end ?_
      refine then_n ?_
      refine sq ?_
      refine reg ?_
      refine pRun_ok (tb := tab) (n := 41) tabOk 3 _ _ hf rfl rfl fun a hf => ?_
      refine wl_end ?_
      refine then_n ?_
      refine sq ?_
      refine reg ?_
      refine pRun_ok (tb := tab) (n := 41) tabOk 3 _ _ hf rfl rfl fun a hf => ?_
      obtain ⟨e4, he4, hR1⟩ := bind_some hR1
      refine wl0 rfl (op_iaddrR hf H Try.underlying63 TF.sz88 0 rfl rfl rfl he4 (by decide) fun p4 o4 cs4 a hf hA4 hr4 hk4 => ?_)
      obtain rfl := Amplifier_cells hr4
      refine pRun_ok (tb := tab) (n := 41) tabOk 1 _ _ hf rfl rfl fun a hf => ?_
      refine wl0 rfl (op_storeR (e' := ({ After := e4.After, Gain := e4.Gain, Output := e4.Output, Noise := w64 ((w64 ((w64 (k2 + 1)) + 1)) + 1) } : Amplifier)) hf H TF.sz3 0 rfl rfl rfl rfl rfl (nle rfl) rfl hA4 he4 (fun cs h => by obtain rfl := Amplifier_cells h; exact Amplifier_mk (x := ({ After := e4.After, Gain := e4.Gain, Output := e4.Output, Noise := w64 ((w64 ((w64 (k2 + 1)) + 1)) + 1) } : Amplifier))) fun w H => ?_)
      replace hf : Fr a 41 [(0, (.slice A (((a2.set (i).toNat ({ After := k2, Gain := e.Gain, Output := e.Output, Noise := e.Noise } : Amplifier)).set (i).toNat ({ After := e2.After, Gain := w64 (k2 + 1), Output := e2.Output, Noise := e2.Noise } : Amplifier)).set (i).toNat ({ After := e3.After, Gain := e3.Gain, Output := w64 ((w64 (k2 + 1)) + 1), Noise := e3.Noise } : Amplifier)).length c)), (1, (.int .i64 (w64 ((w64 ((w64 (k2 + 1)) + 1)) + 1)))), (5, (.int .i64 i)), (24, (.int .i64 (w64 (k2 + 1)))), (25, (.int .i64 (w64 ((w64 (k2 + 1)) + 1)))), (26, (.slice A (((a2.set (i).toNat ({ After := k2, Gain := e.Gain, Output := e.Output, Noise := e.Noise } : Amplifier)).set (i).toNat ({ After := e2.After, Gain := w64 (k2 + 1), Output := e2.Output, Noise := e2.Noise } : Amplifier)).set (i).toNat ({ After := e3.After, Gain := e3.Gain, Output := w64 ((w64 (k2 + 1)) + 1), Noise := e3.Noise } : Amplifier)).length c)), (27, (.int .i64 i)), (28, (.int .i64 (w64 ((w64 (k2 + 1)) + 1)))), (29, (.pointer (some ⟨p3, o3 + 0, none⟩))), (30, (.pointer (some ⟨p3, o3 + 2, none⟩))), (31, (.int .i64 (w64 ((w64 (k2 + 1)) + 1)))), (32, (.int .i64 (w64 ((w64 ((w64 (k2 + 1)) + 1)) + 1)))), (33, (.slice A (((a2.set (i).toNat ({ After := k2, Gain := e.Gain, Output := e.Output, Noise := e.Noise } : Amplifier)).set (i).toNat ({ After := e2.After, Gain := w64 (k2 + 1), Output := e2.Output, Noise := e2.Noise } : Amplifier)).set (i).toNat ({ After := e3.After, Gain := e3.Gain, Output := w64 ((w64 (k2 + 1)) + 1), Noise := e3.Noise } : Amplifier)).length c)), (34, (.int .i64 i)), (35, (.int .i64 (w64 ((w64 ((w64 (k2 + 1)) + 1)) + 1)))), (36, (.pointer (some ⟨p4, o4 + 0, none⟩))), (37, (.pointer (some ⟨p4, o4 + 3, none⟩)))] := hf.prune [0, 1, 5, 24, 25, 26, 27, 28, 29, 30, 31, 32, 33, 34, 35, 36, 37] rfl
      replace hf : Fr a 41 [(0, (.slice A ((((a2.set (i).toNat ({ After := k2, Gain := e.Gain, Output := e.Output, Noise := e.Noise } : Amplifier)).set (i).toNat ({ After := e2.After, Gain := w64 (k2 + 1), Output := e2.Output, Noise := e2.Noise } : Amplifier)).set (i).toNat ({ After := e3.After, Gain := e3.Gain, Output := w64 ((w64 (k2 + 1)) + 1), Noise := e3.Noise } : Amplifier)).set (i).toNat ({ After := e4.After, Gain := e4.Gain, Output := e4.Output, Noise := w64 ((w64 ((w64 (k2 + 1)) + 1)) + 1) } : Amplifier)).length c)), (1, (.int .i64 (w64 ((w64 ((w64 (k2 + 1)) + 1)) + 1)))), (5, (.int .i64 i)), (24, (.int .i64 (w64 (k2 + 1)))), (25, (.int .i64 (w64 ((w64 (k2 + 1)) + 1)))), (26, (.slice A ((((a2.set (i).toNat ({ After := k2, Gain := e.Gain, Output := e.Output, Noise := e.Noise } : Amplifier)).set (i).toNat ({ After := e2.After, Gain := w64 (k2 + 1), Output := e2.Output, Noise := e2.Noise } : Amplifier)).set (i).toNat ({ After := e3.After, Gain := e3.Gain, Output := w64 ((w64 (k2 + 1)) + 1), Noise := e3.Noise } : Amplifier)).set (i).toNat ({ After := e4.After, Gain := e4.Gain, Output := e4.Output, Noise := w64 ((w64 ((w64 (k2 + 1)) + 1)) + 1) } : Amplifier)).length c)), (27, (.int .i64 i)), (28, (.int .i64 (w64 ((w64 (k2 + 1)) + 1)))), (29, (.pointer (some ⟨p3, o3 + 0, none⟩))), (30, (.pointer (some ⟨p3, o3 + 2, none⟩))), (31, (.int .i64 (w64 ((w64 (k2 + 1)) + 1)))), (32, (.int .i64 (w64 ((w64 ((w64 (k2 + 1)) + 1)) + 1)))), (33, (.slice A ((((a2.set (i).toNat ({ After := k2, Gain := e.Gain, Output := e.Output, Noise := e.Noise } : Amplifier)).set (i).toNat ({ After := e2.After, Gain := w64 (k2 + 1), Output := e2.Output, Noise := e2.Noise } : Amplifier)).set (i).toNat ({ After := e3.After, Gain := e3.Gain, Output := w64 ((w64 (k2 + 1)) + 1), Noise := e3.Noise } : Amplifier)).set (i).toNat ({ After := e4.After, Gain := e4.Gain, Output := e4.Output, Noise := w64 ((w64 ((w64 (k2 + 1)) + 1)) + 1) } : Amplifier)).length c)), (34, (.int .i64 i)), (35, (.int .i64 (w64 ((w64 ((w64 (k2 + 1)) + 1)) + 1)))), (36, (.pointer (some ⟨p4, o4 + 0, none⟩))), (37, (.pointer (some ⟨p4, o4 + 3, none⟩)))] := by simpa only [List.length_set, Nat.add_zero] using hf
      have hf := hf.prune [0, 1, 5] rfl
      refine wl_end ?_
      refine then_n ?_
      refine reg ?_
      refine pRun_ok (tb := tab) (n := 41) tabOk 3 _ _ hf rfl rfl fun a hf => ?_
      refine wl_end ?_
      refine blk_n ?_
      refine then_n ?_
      refine reg ?_
      refine pRun_ok (tb := tab) (n := 41) tabOk 3 _ _ hf rfl rfl fun a hf => ?_
      refine wl_end ?_
      have hf := hf.prune [0, 1, 5] rfl
      have hf : Fr a 41 [(0, (.slice A a'.length c)), (1, (.int .i64 (w64 ((w64 ((w64 ((w64 (k2 + 1)) + 1)) + 1)) + 1)))), (5, (.int .i64 (w64 (i + 1))))] := by first | exact hf | (simp only [List.length_set, hlen] at hf; exact hf)
      have H := H.let [] [true] [] []
      exact then_n ⟨((((a2.set (i).toNat ({ After := k2, Gain := e.Gain, Output := e.Output, Noise := e.Noise } : Amplifier)).set (i).toNat ({ After := e2.After, Gain := w64 (k2 + 1), Output := e2.Output, Noise := e2.Noise } : Amplifier)).set (i).toNat ({ After := e3.After, Gain := e3.Gain, Output := w64 ((w64 (k2 + 1)) + 1), Noise := e3.Noise } : Amplifier)).set (i).toNat ({ After := e4.After, Gain := e4.Gain, Output := e4.Output, Noise := w64 ((w64 ((w64 (k2 + 1)) + 1)) + 1) } : Amplifier), w64 ((w64 ((w64 ((w64 (k2 + 1)) + 1)) + 1)) + 1), w64 (i + 1)), hR1, (by simp only [List.length_set, hlen]), hf, H⟩
    · rw [if_neg (nt hc)] at hR1
      refine cd_f hf rfl hc ?_
      refine wp_exit (then_x (then_x (blk_e (?_))))
      have hf := hf.prune [0, 1, 5] rfl
      have hf : Fr a 41 [(0, (.slice A a'.length c)), (1, (.int .i64 k2)), (5, (.int .i64 i))] := by first | exact hf | (simp only [List.length_set, hlen] at hf; exact hf)
      have H := H.let [] [true] [] []
      exact ⟨(a2, k2, i), (Option.some.inj hR1).symm, (by simp only [List.length_set, hlen]), hf, H⟩
  rintro a w ⟨⟨a3, k3, i2⟩, rfl, hlen, hf, H⟩
  try dsimp only at hlen
  have hf : Fr a 41 [(0, (.slice A a3.length c)), (1, (.int .i64 k3)), (5, (.int .i64 i2))] := by rw [hlen]; exact hf
  dsimp only at hF
  refine then_n ?_
  refine sq ?_
  refine reg ?_
  refine pRun_ok (tb := tab) (n := 41) tabOk 2 _ _ hf rfl rfl fun a hf => ?_
  refine wl_end ?_
  refine then_n ?_
  refine wp_ret (?_)
  have H := H.rowOwn 0 rfl rfl
  obtain ⟨F', H⟩ := H.freezeOwn 0 rfl
  rw [hlen] at H
  obtain rfl := Option.some.inj hF
  refine ret_1 (fn := Try.f87) (r := .tmp 4) hf rfl (rv_tmp hf rfl) ?_
  exact ⟨_, rfl, H.chg, mk_int, _, H.ownAt 0 rfl, H.back⟩

/- loop.example/g00897/laws.heldAmplifierS -/
set_option maxHeartbeats 1000000 in
theorem laws_heldAmplifierS_ok {fu : Nat} {w0 : World} {S : Nat → Prop} {v0_ : Value} {v1_ : Value} {a' : List Amplifier} {k' : Int} {r : Int} (h0 : VR w0 S v0_ a') (h1 : VR w0 S v1_ k') (hF : laws_heldAmplifierS fu a' k' = some r) :
    Calls Try.prog 88 [v0_, v1_].toArray w0 fun e w' => ∃ v, e = .returned v ∧ (Below w0.heap.size w0 w' ∧ VR w' (St ⟨w0, []⟩ S [] [] [] true) v r) := by
  obtain ⟨A, c, rfl, hl⟩ := VR_list h0
  obtain rfl := VR_int h1
  have H := Mem.start ⟨w0, []⟩ S
  have H := H.pushArg (MP.val [(.slice A a'.length c)] a') hl
  refine enter Try.func88 rfl rfl (nle rfl) rfl fun a hf => ?_
  rw [laws_heldAmplifierS] at hF
  refine sq ?_
  refine reg ?_
  refine pRun_ok (tb := tab) (n := 49) tabOk 1 _ _ hf rfl rfl fun a hf => ?_
  refine wl_end ?_
  refine then_n ?_
  refine sq ?_
  refine sq ?_
  refine reg ?_
  refine pRun_ok (tb := tab) (n := 49) tabOk 1 _ _ hf rfl rfl fun a hf => ?_
  refine wl_end ?_
  refine then_n ?_
  obtain ⟨out', hB1, hF⟩ := bind_some hF
  have hf := hf.prune [0, 1, 5] rfl
  have H := H.let [] [] [] [0]
  have hI : (fun (s : Int × Int) (a : Act) (w : World) => match s with | (k2, i) => Fr a 49 [(0, (.slice A a'.length c)), (1, (.int .i64 k2)), (5, (.int .i64 i))] ∧ Mem ⟨w0, []⟩ S [] [] [] [(false, MP.val [(.slice A a'.length c)] (a' : List Amplifier))] w) (k', 0) a w0 := ⟨hf, H⟩
  refine mid (fun a w => ∃ s : Int × Int, out' = Out.next s ∧ (fun (s : Int × Int) (a : Act) (w : World) => match s with | (k2, i) => Fr a 49 [(0, (.slice A a'.length c)), (1, (.int .i64 k2)), (5, (.int .i64 i))] ∧ Mem ⟨w0, []⟩ S [] [] [] [(false, MP.val [(.slice A a'.length c)] (a' : List Amplifier))] w) s a w) ?_ ?_
  · refine wp_block ?_
    refine loop_rule (fun k (s : Int × Int) => laws_heldAmplifierS_L1 fu a' k s.1 s.2 = some out') (fun (s : Int × Int) (a : Act) (w : World) => match s with | (k2, i) => Fr a 49 [(0, (.slice A a'.length c)), (1, (.int .i64 k2)), (5, (.int .i64 i))] ∧ Mem ⟨w0, []⟩ S [] [] [] [(false, MP.val [(.slice A a'.length c)] (a' : List Amplifier))] w) (fun s h => by cases h) ?_ fu (k', 0) a w0 hB1 hI
    rintro fk ⟨k2, i⟩ a w hR1 hI
    replace hR1 : laws_heldAmplifierS_L1 fu a' (fk + 1) k2 i = some out' := hR1
    rw [laws_heldAmplifierS_L1] at hR1
    obtain ⟨hf, H⟩ := hI
    refine sq ?_
    refine sq ?_
    refine reg ?_
    refine pRun_ok (tb := tab) (n := 49) tabOk 4 _ _ hf rfl rfl fun a hf => ?_
    refine wl_end ?_
    refine then_n ?_
    refine (Bool.eq_false_or_eq_true (decide (i < (a'.length : Int)))).elim (fun hc => ?_) (fun hc => ?_)
    · rw [if_pos hc] at hR1
      refine cd_t hf rfl hc ?_
      refine wp_skip ?_
      refine then_n ?_
      refine sq ?_
      refine wp_block ?_
      refine sq ?_
      refine sq ?_
      refine reg ?_
      refine pRun_ok (tb := tab) (n := 49) tabOk 2 _ _ hf rfl rfl fun a hf => ?_
      obtain ⟨e, he, hR1⟩ := bind_some hR1
      refine wl0 rfl (op_iaddr hf H Try.underlying63 TF.sz88 0 rfl rfl rfl he (by decide) fun p o cs a hf hr H => ?_)
      obtain rfl := Amplifier_cells hr
      refine pRun_ok (tb := tab) (n := 49) tabOk 1 _ _ hf rfl rfl fun a hf => ?_
      refine wl0 rfl (op_q hf (rq_loadI hf H TF.ls3 0 0 rfl rfl rfl) rfl (by decide) fun a hf => ?_)
      refine pRun_ok (tb := tab) (n := 49) tabOk 2 _ _ hf rfl rfl fun a hf => ?_
      refine wl_end ?_
      refine then_n ?_
      refine (Bool.eq_false_or_eq_true (e.After != k2)).elim (fun hc2 => ?_) (fun hc2 => ?_)
      · rw [if_pos hc2] at hR1
        refine cd_t hf rfl hc2 ?_
        refine sq ?_
        refine reg ?_
        refine pRun_ok (tb := tab) (n := 49) tabOk 1 _ _ hf rfl rfl fun a hf => ?_
        have hf := hf.prune [4] rfl
        refine wl_end ?_
        refine then_n ?_
        refine wp_ret (then_r (blk_r (then_r (then_r (blk_r (then_r (then_r (?_))))))))
        obtain rfl := Option.some.inj hR1
        replace hF := on_ret hF
        obtain rfl := Option.some.inj hF
        refine ret_1 (fn := Try.f88) (r := .tmp 4) hf rfl (rv_tmp hf rfl) ?_
        exact ⟨_, rfl, H.bel, mk_int⟩
      · rw [if_neg (nt hc2)] at hR1
        refine cd_f hf rfl hc2 ?_
        refine wp_skip ?_
        refine then_n ?_
        refine sq ?_
        refine reg ?_
        refine pRun_ok (tb := tab) (n := 49) tabOk 3 _ _ hf rfl rfl fun a hf => ?_
        have hf := hf.prune [0, 1, 5] rfl
        refine wl_end ?_
        refine then_n ?_
        refine sq ?_
        refine sq ?_
        refine reg ?_
        refine pRun_ok (tb := tab) (n := 49) tabOk 2 _ _ hf rfl rfl fun a hf => ?_
        obtain ⟨e2, he2, hR1⟩ := bind_some hR1
        refine wl0 rfl (op_iaddr hf H Try.underlying63 TF.sz88 1 rfl rfl rfl he2 (by decide) fun p2 o2 cs2 a hf hr2 H => ?_)
        obtain rfl := Amplifier_cells hr2
        refine pRun_ok (tb := tab) (n := 49) tabOk 1 _ _ hf rfl rfl fun a hf => ?_
        refine wl0 rfl (op_q hf (rq_loadI hf H TF.ls3 0 1 rfl rfl rfl) rfl (by decide) fun a hf => ?_)
        refine pRun_ok (tb := tab) (n := 49) tabOk 2 _ _ hf rfl rfl fun a hf => ?_
        refine wl_end ?_
        refine then_n ?_
        refine (Bool.eq_false_or_eq_true (e2.Gain != (w64 (k2 + 1)))).elim (fun hc3 => ?_) (fun hc3 => ?_)
        · rw [if_pos hc3] at hR1
          refine cd_t hf rfl hc3 ?_
          refine sq ?_
          refine reg ?_
          refine pRun_ok (tb := tab) (n := 49) tabOk 1 _ _ hf rfl rfl fun a hf => ?_
          refine wl_end ?_
          refine then_n ?_
          refine wp_ret (then_r (blk_r (then_r (then_r (blk_r (then_r (then_r (?_))))))))
          obtain rfl := Option.some.inj hR1
          replace hF := on_ret hF
          obtain rfl := Option.some.inj hF
          refine ret_1 (fn := Try.f88) (r := .tmp 4) hf rfl (rv_tmp hf rfl) ?_
          exact ⟨_, rfl, H.bel, mk_int⟩
        · rw [if_neg (nt hc3)] at hR1
          refine cd_f hf rfl hc3 ?_
          refine wp_skip ?_
          refine then_n ?_
          refine sq ?_
          refine reg ?_
          refine pRun_ok (tb := tab) (n := 49) tabOk 3 _ _ hf rfl rfl fun a hf => ?_
          refine wl_end ?_
          refine then_n ?_
          refine sq ?_
          refine sq ?_
          refine reg ?_
          refine pRun_ok (tb := tab) (n := 49) tabOk 2 _ _ hf rfl rfl fun a hf => ?_
          obtain ⟨e3, he3, hR1⟩ := bind_some hR1
          refine wl0 rfl (op_iaddr hf H Try.underlying63 TF.sz88 2 rfl rfl rfl he3 (by decide) fun p3 o3 cs3 a hf hr3 H => ?_)
          obtain rfl := Amplifier_cells hr3
          refine pRun_ok (tb := tab) (n := 49) tabOk 1 _ _ hf rfl rfl fun a hf => ?_
          refine wl0 rfl (op_q hf (rq_loadI hf H TF.ls3 0 2 rfl rfl rfl) rfl (by decide) fun a hf => ?_)
          refine pRun_ok (tb := tab) (n := 49) tabOk 2 _ _ hf rfl rfl fun a hf => ?_
          have hf := hf.prune [0, 1, 5, 36] rfl
          refine wl_end ?_
          refine then_n ?_
          refine (Bool.eq_false_or_eq_true (e3.Output != (w64 ((w64 (k2 + 1)) + 1)))).elim (fun hc4 => ?_) (fun hc4 => ?_)
          · rw [if_pos hc4] at hR1
            refine cd_t hf rfl hc4 ?_
            refine sq ?_
            refine reg ?_
            refine pRun_ok (tb := tab) (n := 49) tabOk 1 _ _ hf rfl rfl fun a hf => ?_
            refine wl_end ?_
            refine then_n ?_
            refine wp_ret (then_r (blk_r (then_r (then_r (blk_r (then_r (then_r (?_))))))))
            obtain rfl := Option.some.inj hR1
            replace hF := on_ret hF
            obtain rfl := Option.some.inj hF
            refine ret_1 (fn := Try.f88) (r := .tmp 4) hf rfl (rv_tmp hf rfl) ?_
            exact ⟨_, rfl, H.bel, mk_int⟩
          · rw [if_neg (nt hc4)] at hR1
            refine cd_f hf rfl hc4 ?_
            refine wp_skip ?_
            refine then_n ?_
            refine sq ?_
            refine reg ?_
            refine pRun_ok (tb := tab) (n := 49) tabOk 3 _ _ hf rfl rfl fun a hf => ?_
            refine wl_end ?_
            refine then_n ?_
            refine sq ?_
            refine sq ?_
            refine reg ?_
            refine pRun_ok (tb := tab) (n := 49) tabOk 2 _ _ hf rfl rfl fun a hf => ?_
            obtain ⟨e4, he4, hR1⟩ := bind_some hR1
            refine wl0 rfl (op_iaddr hf H Try.underlying63 TF.sz88 3 rfl rfl rfl he4 (by decide) fun p4 o4 cs4 a hf hr4 H => ?_)
            obtain rfl := Amplifier_cells hr4
            refine pRun_ok (tb := tab) (n := 49) tabOk 1 _ _ hf rfl rfl fun a hf => ?_
            refine wl0 rfl (op_q hf (rq_loadI hf H TF.ls3 0 3 rfl rfl rfl) rfl (by decide) fun a hf => ?_)
            refine pRun_ok (tb := tab) (n := 49) tabOk 2 _ _ hf rfl rfl fun a hf => ?_
            refine wl_end ?_
            refine then_n ?_
            refine (Bool.eq_false_or_eq_true (e4.Noise != (w64 ((w64 ((w64 (k2 + 1)) + 1)) + 1)))).elim (fun hc5 => ?_) (fun hc5 => ?_)
            · rw [if_pos hc5] at hR1
              refine cd_t hf rfl hc5 ?_
              refine sq ?_
              refine reg ?_
              refine pRun_ok (tb := tab) (n := 49) tabOk 1 _ _ hf rfl rfl fun a hf => ?_
              have hf := hf.prune [4] rfl
              refine wl_end ?_
              refine then_n ?_
              refine wp_ret (then_r (blk_r (then_r (then_r (blk_r (then_r (then_r (?_))))))))
              obtain rfl := Option.some.inj hR1
              replace hF := on_ret hF
              obtain rfl := Option.some.inj hF
              refine ret_1 (fn := Try.f88) (r := .tmp 4) hf rfl (rv_tmp hf rfl) ?_
              exact ⟨_, rfl, H.bel, mk_int⟩
            · rw [if_neg (nt hc5)] at hR1
              refine cd_f hf rfl hc5 ?_
              refine wp_skip ?_
              refine then_n ?_
              refine reg ?_
              refine pRun_ok (tb := tab) (n := 49) tabOk 3 _ _ hf rfl rfl fun a hf => ?_
              refine wl_end ?_
              refine blk_n ?_
              refine then_n ?_
              refine reg ?_
              refine pRun_ok (tb := tab) (n := 49) tabOk 3 _ _ hf rfl rfl fun a hf => ?_
              have hf := hf.prune [0, 1, 5] rfl
              refine wl_end ?_
              have hf := hf.prune [0, 1, 5] rfl
              have H := H.let [] [] [] [4]
              exact then_n ⟨(w64 ((w64 ((w64 ((w64 (k2 + 1)) + 1)) + 1)) + 1), w64 (i + 1)), hR1, hf, H⟩
    · rw [if_neg (nt hc)] at hR1
      refine cd_f hf rfl hc ?_
      refine wp_exit (then_x (then_x (blk_e (?_))))
      have hf := hf.prune [0, 1, 5] rfl
      have H := H.let [] [] [] [0]
      exact ⟨(k2, i), (Option.some.inj hR1).symm, hf, H⟩
  rintro a w ⟨⟨k3, i2⟩, rfl, hf, H⟩
  replace hF := on_next hF
  dsimp only at hF
  refine then_n ?_
  refine sq ?_
  refine reg ?_
  refine pRun_ok (tb := tab) (n := 49) tabOk 2 _ _ hf rfl rfl fun a hf => ?_
  refine wl_end ?_
  refine then_n ?_
  refine wp_ret (?_)
  obtain rfl := Option.some.inj hF
  refine ret_1 (fn := Try.f88) (r := .tmp 4) hf rfl (rv_tmp hf rfl) ?_
  exact ⟨_, rfl, H.bel, mk_int⟩

/- loop.example/g00897/laws.FnExactPlaceAmplifiers -/
set_option maxHeartbeats 1000000 in
theorem laws_FnExactPlaceAmplifiers_ok {fu : Nat} {w0 : World} {S : Nat → Prop} {v0_ : Value} {v1_ : Value} {v2_ : Value} {v3_ : Value} {aLine : List Span} {aA : Amplifier} {aLaunch : Int} {aNeed : Int} {r : Bool} (h0 : VR w0 S v0_ aLine) (h1 : VR w0 S v1_ aA) (h2 : VR w0 S v2_ aLaunch) (h3 : VR w0 S v3_ aNeed) (hF : laws_FnExactPlaceAmplifiers fu aLine aA aLaunch aNeed = some r) :
    Calls Try.prog 19 [v0_, v1_, v2_, v3_].toArray w0 fun e w' => ∃ v, e = .returned v ∧ (Below w0.heap.size w0 w' ∧ VR w' (St ⟨w0, []⟩ S [] [] [] true) v r) := by
  obtain ⟨A, c, rfl, hl⟩ := VR_list h0
  obtain rfl := Amplifier_open h1
  obtain rfl := VR_int h2
  obtain rfl := VR_int h3
  have H := Mem.start ⟨w0, []⟩ S
  have H := H.pushArg (MP.val [(.slice A aLine.length c)] aLine) hl
  refine enter Try.func19 rfl rfl (nle rfl) rfl fun a hf => ?_
  rw [laws_FnExactPlaceAmplifiers] at hF
  refine sq ?_
  refine reg ?_
  refine wl0 rfl (op_box hf H rfl rfl (by decide) fun b' a w hf H => ?_)
  refine pRun_ok (tb := tab) (n := 114) tabOk 1 _ _ hf rfl rfl fun a hf => ?_
  refine wl_end ?_
  refine then_n ?_
  refine sq ?_
  refine reg ?_
  refine pRun_ok (tb := tab) (n := 114) tabOk 1 _ _ hf rfl rfl fun a hf => ?_
  refine wl_end ?_
  refine then_n ?_
  refine sq ?_
  refine reg ?_
  refine pRun_ok (tb := tab) (n := 114) tabOk 2 _ _ hf rfl rfl fun a hf => ?_
  obtain ⟨y, hy, hF⟩ := bind_some hF
  refine wl0 rfl (op_call hf TF.cl80 rfl (by decide) (laws_szSpanS_ok (S := fun _ => True) (mk_list (rep_true (α := List Span) (H.get 0 rfl))) mk_int hy) fun v w a hp hf => ?_)
  obtain ⟨hb, hp⟩ := hp
  obtain rfl := VR_int hp
  have H := H.keep hb
  refine pRun_ok (tb := tab) (n := 114) tabOk 1 _ _ hf rfl rfl fun a hf => ?_
  refine wl_end ?_
  refine then_n ?_
  refine sq ?_
  refine sq ?_
  refine reg ?_
  refine pRun_ok (tb := tab) (n := 114) tabOk 2 _ _ hf rfl rfl fun a hf => ?_
  refine wl_end ?_
  refine then_n ?_
  refine (Bool.eq_false_or_eq_true (decide (y < 0))).elim (fun hc => ?_) (fun hc => ?_)
  · rw [if_pos hc] at hF
    refine cd_t hf rfl hc ?_
    refine sq ?_
    refine reg ?_
    refine pRun_ok (tb := tab) (n := 114) tabOk 1 _ _ hf rfl rfl fun a hf => ?_
    refine wl_end ?_
    refine then_n ?_
    refine wp_ret (then_r (?_))
    obtain rfl := Option.some.inj hF
    refine ret_1 (fn := Try.f19) (r := .tmp 8) hf rfl (rv_tmp hf rfl) ?_
    exact ⟨_, rfl, H.bel, mk_bool⟩
  · rw [if_neg (nt hc)] at hF
    refine cd_f hf rfl hc ?_
    refine wp_skip ?_
    refine then_n ?_
    refine sq ?_
    refine drawn [] (bs := [false, false, false, false, false, false, false, false, false, false, false, false]) (fuel := 12) (Checked.mixed Try.checked) rfl rfl fun w hb => ?_
    have H := H.keep hb
    refine tkP (i := 0) (bs' := [true, false, false, false, false, false, false, false, false, false, false, false]) rfl rfl rfl (by decide) hf (by kernel_rfl) (fun _ => trivial) (fun w => pOp_ok (tb := tab) tabOk hf rfl) rfl fun a hf => ?_
    refine str (fun w => Mem ⟨w0, []⟩ S [⟨b', 92, [(.int .i64 aA.After), (.int .i64 aA.Gain), (.int .i64 aA.Output), (.int .i64 aA.Noise)]⟩] [] [] [(false, MP.val [(.slice A aLine.length c)] (aLine : List Span))] w) (fun w H => trivial) ?_
    have hS : Mem ⟨w0, []⟩ S [⟨b', 92, [(.int .i64 aA.After), (.int .i64 aA.Gain), (.int .i64 aA.Output), (.int .i64 aA.Noise)]⟩] [] [] [(false, MP.val [(.slice A aLine.length c)] (aLine : List Span))] w := H.let [true] [] [] [0]
    refine tkS (i := 2) (bs' := [true, false, true, false, false, false, false, false, false, false, false, false]) [] rfl rfl rfl (by decide) hf (by kernel_rfl) (by kernel_rfl) hS (fun w H => rq_loadBN hf H TF.la92 0 rfl rfl rfl rfl) rfl fun a hf => ?_
    refine tkP (i := 4) (bs' := [true, false, true, false, true, false, false, false, false, false, false, false]) rfl rfl rfl (by decide) hf (by kernel_rfl) (fun _ => hS) (fun w => pOp_ok (tb := tab) tabOk hf rfl) rfl fun a hf => ?_
    refine tkP (i := 5) (bs' := [true, false, true, false, true, true, false, false, false, false, false, false]) rfl rfl rfl (by decide) hf (by kernel_rfl) (fun _ => hS) (fun w => pOp_ok (tb := tab) tabOk hf rfl) rfl fun a hf => ?_
    obtain ⟨y2, hy2, hF⟩ := bind_some hF
    refine on1 (i := 1) (bs' := [true, true, true, false, true, true, false, false, false, false, false, false]) (by kernel_rfl) rfl rfl rfl (op_call hf TF.cl82 rfl (by decide) (laws_toSpanS_ok (S := fun _ => True) (mk_list (rep_true (α := List Span) (H.get 0 rfl))) hy2) fun v2 w a hp2 hf => ?_)
    obtain ⟨hb2, F, hp3, hN⟩ := hp2
    obtain ⟨A2, c2, rfl, hl2⟩ := VO_list hp3
    have H := H.addOwn hb2 (X := [(⟨F, MP.own F [(.slice A2 y2.length c2)] (y2 : List Span)⟩ : DI)]) (by simpa using hN.1) (ps1 hl2 ps0) (by simpa using hN.2)
    have H := H.lend 0 rfl
    have hS : Mem ⟨w0, []⟩ S [⟨b', 92, [(.int .i64 aA.After), (.int .i64 aA.Gain), (.int .i64 aA.Output), (.int .i64 aA.Noise)]⟩] [] [] [(false, MP.val [(.slice A aLine.length c)] (aLine : List Span))] w := H.let [true] [] [false] [1]
    refine ⟨fun _ => hS, ?_⟩
    obtain ⟨y3, hy3, hF⟩ := bind_some hF
    refine on1 (i := 3) (bs' := [true, true, true, true, true, true, false, false, false, false, false, false]) (by kernel_rfl) rfl rfl rfl (op_call hf TF.cl83 rfl (by decide) (laws_toAmplifier_ok (S := fun _ => True) Amplifier_mkv hy3) fun v3 w a hp4 hf => ?_)
    obtain ⟨hb3, hp4⟩ := hp4
    obtain rfl := Amplifier_open hp4
    have H := H.keep hb3
    have hS : Mem ⟨w0, []⟩ S [⟨b', 92, [(.int .i64 aA.After), (.int .i64 aA.Gain), (.int .i64 aA.Output), (.int .i64 aA.Noise)]⟩] [] [] [(false, MP.val [(.slice A aLine.length c)] (aLine : List Span))] w := H.let [true] [] [false] [1]
    refine ⟨fun _ => hS, ?_⟩
    obtain ⟨y4, hy4, hF⟩ := bind_some hF
    refine on1 (i := 6) (bs' := [true, true, true, true, true, true, true, false, false, false, false, false]) (by kernel_rfl) rfl rfl rfl (op_call hf TF.cl81 rfl (by decide) (spec_PlaceAmplifiers_ok (S := fun _ => True) (mk_list (rep_true (α := List Span) (H.get 0 rfl))) Amplifier_mkv mk_int mk_int hy4) fun v4 w a hp5 hf => ?_)
    obtain ⟨hb4, F3, v5, v6, rfl, hp6, hp7, hN2⟩ := hp5
    obtain ⟨A3, c3, rfl, hl3⟩ := VO_list hp6
    obtain rfl := VR_bool hp7
    have H := H.addOwn hb4 (X := [(⟨F3, MP.own F3 [(.slice A3 y4.1.length c3)] (y4.1 : List Amplifier)⟩ : DI)]) (by simpa using hN2.1) (ps1 hl3 ps0) (by simpa using hN2.2)
    have H := H.lend 0 rfl
    have hS : Mem ⟨w0, []⟩ S [⟨b', 92, [(.int .i64 aA.After), (.int .i64 aA.Gain), (.int .i64 aA.Output), (.int .i64 aA.Noise)]⟩] [] [] [(false, MP.val [(.slice A aLine.length c)] (aLine : List Span))] w := H.let [true] [] [false, false] [2]
    refine ⟨fun _ => hS, ?_⟩
    refine tkP (i := 7) (bs' := [true, true, true, true, true, true, true, true, false, false, false, false]) rfl rfl rfl (by decide) hf (by kernel_rfl) (fun _ => hS) (fun w => pOp_ok (tb := tab) tabOk hf rfl) rfl fun a hf => ?_
    refine tkP (i := 8) (bs' := [true, true, true, true, true, true, true, true, true, false, false, false]) rfl rfl rfl (by decide) hf (by kernel_rfl) (fun _ => hS) (fun w => pOp_ok (tb := tab) tabOk hf rfl) rfl fun a hf => ?_
    refine tkP (i := 9) (bs' := [true, true, true, true, true, true, true, true, true, true, false, false]) rfl rfl rfl (by decide) hf (by kernel_rfl) (fun _ => hS) (fun w => pOp_ok (tb := tab) tabOk hf rfl) rfl fun a hf => ?_
    refine tkP (i := 10) (bs' := [true, true, true, true, true, true, true, true, true, true, true, false]) rfl rfl rfl (by decide) hf (by kernel_rfl) (fun _ => hS) (fun w => pOp_ok (tb := tab) tabOk hf rfl) rfl fun a hf => ?_
    refine tkP (i := 11) (bs' := [true, true, true, true, true, true, true, true, true, true, true, true]) rfl rfl rfl (by decide) hf (by kernel_rfl) (fun _ => hS) (fun w => pOp_ok (tb := tab) tabOk hf rfl) rfl fun a hf => ?_
    refine dn (by kernel_rfl) ?_
    have hf := hf.prune [0, 2, 3, 5, 10, 11] rfl
    refine then_n ?_
    refine sq ?_
    refine reg ?_
    refine pRun_ok (tb := tab) (n := 114) tabOk 1 _ _ hf rfl rfl fun a hf => ?_
    obtain ⟨y5, hy5, hF⟩ := bind_some hF
    refine wl0 rfl (op_call hf TF.cl82 rfl (by decide) (laws_toSpanS_ok (S := fun _ => True) (mk_list (rep_true (α := List Span) (H.get 2 rfl))) hy5) fun v7 w a hp8 hf => ?_)
    obtain ⟨hb5, F5, hp9, hN3⟩ := hp8
    obtain ⟨A4, c4, rfl, hl4⟩ := VO_list hp9
    have H := H.addOwn hb5 (X := [(⟨F5, MP.own F5 [(.slice A4 y5.length c4)] (y5 : List Span)⟩ : DI)]) (by simpa using hN3.1) (ps1 hl4 ps0) (by simpa using hN3.2)
    have H := H.lend 0 rfl
    refine pRun_ok (tb := tab) (n := 114) tabOk 1 _ _ hf rfl rfl fun a hf => ?_
    refine wl_end ?_
    refine then_n ?_
    refine sq ?_
    refine reg ?_
    refine pRun_ok (tb := tab) (n := 114) tabOk 1 _ _ hf rfl rfl fun a hf => ?_
    refine wl0 rfl (op_q hf (rq_loadBN hf H TF.la92 0 rfl rfl rfl rfl) rfl (by decide) fun a hf => ?_)
    obtain ⟨y6, hy6, hF⟩ := bind_some hF
    refine wl0 rfl (op_call hf TF.cl83 rfl (by decide) (laws_toAmplifier_ok (S := fun _ => True) Amplifier_mkv hy6) fun v8 w a hp10 hf => ?_)
    obtain ⟨hb6, hp10⟩ := hp10
    obtain rfl := Amplifier_open hp10
    have H := H.keep hb6
    refine pRun_ok (tb := tab) (n := 114) tabOk 2 _ _ hf rfl rfl fun a hf => ?_
    obtain ⟨y7, hy7, hF⟩ := bind_some hF
    refine wl0 rfl (op_call hf TF.cl84 rfl (by decide) (impl_PlaceAmplifiers_ok (S := fun _ => True) (mk_list (rep_true (α := List Span) (H.get 0 rfl))) Amplifier_mkv mk_int mk_int hy7) fun v9 w a hp11 hf => ?_)
    obtain ⟨hb7, F7, v10, v11, rfl, hp12, hp13, hN4⟩ := hp11
    obtain ⟨A5, c5, rfl, hl5⟩ := VO_list hp12
    obtain rfl := VR_bool hp13
    have H := H.addOwn hb7 (X := [(⟨F7, MP.own F7 [(.slice A5 y7.1.length c5)] (y7.1 : List Amplifier)⟩ : DI)]) (by simpa using hN4.1) (ps1 hl5 ps0) (by simpa using hN4.2)
    have H := H.lend 0 rfl
    refine pRun_ok (tb := tab) (n := 114) tabOk 5 _ _ hf rfl rfl fun a hf => ?_
    refine wl_end ?_
    refine then_n ?_
    refine sq ?_
    refine sq ?_
    obtain ⟨c6, hGc6, hF⟩ := bind_some hF
    refine mid (fun a w => Fr a 114 [(0, (.slice A aLine.length c)), (2, (.int .i64 aLaunch)), (3, (.int .i64 aNeed)), (5, (.pointer (some ⟨b', 0, none⟩))), (10, (.slice A3 y4.1.length c3)), (11, (.bool y4.2)), (12, (.slice A4 y5.length c4)), (13, (.slice A5 y7.1.length c5)), (14, (.bool y7.2)), (54, (.bool c6))] ∧ Mem ⟨w0, []⟩ S [⟨b', 92, [(.int .i64 aA.After), (.int .i64 aA.Gain), (.int .i64 aA.Output), (.int .i64 aA.Noise)]⟩] [] [⟨F7, MP.own F7 [(.slice A5 y7.1.length c5)] (y7.1 : List Amplifier)⟩, ⟨F5, MP.own F5 [(.slice A4 y5.length c4)] (y5 : List Span)⟩, ⟨F3, MP.own F3 [(.slice A3 y4.1.length c3)] (y4.1 : List Amplifier)⟩] [(true, MP.val [(.slice A5 y7.1.length c5)] (y7.1 : List Amplifier)), (true, MP.val [(.slice A4 y5.length c4)] (y5 : List Span)), (true, MP.val [(.slice A3 y4.1.length c3)] (y4.1 : List Amplifier)), (false, MP.val [(.slice A aLine.length c)] (aLine : List Span))] w) ?_ ?_
    · refine reg ?_
      refine pRun_ok (tb := tab) (n := 114) tabOk 2 _ _ hf rfl rfl fun a hf => ?_
      obtain ⟨y8, hy8, hGc6⟩ := bind_some hGc6
      refine wl0 rfl (op_call hf TF.cl58 rfl (by decide) (laws_eqAmplifierS_ok (S := fun _ => True) (mk_list (rep_true (α := List Amplifier) (H.get 0 rfl))) (mk_list (rep_true (α := List Amplifier) (H.get 2 rfl))) hy8) fun v12 w a hp14 hf => ?_)
      obtain ⟨hb8, hp14⟩ := hp14
      obtain rfl := VR_bool hp14
      have H := H.keep hb8
      refine pRun_ok (tb := tab) (n := 114) tabOk 2 _ _ hf rfl rfl fun a hf => ?_
      refine (Bool.eq_false_or_eq_true (!y8)).elim (fun hc2 => ?_) (fun hc2 => ?_)
      · rw [if_pos hc2] at hGc6
        have hf := hf.lit 50 rfl hc2
        refine pRun_ok (tb := tab) (n := 114) tabOk 4 _ _ hf rfl rfl fun a hf => ?_
        obtain rfl := Option.some.inj hGc6
        have hf := hf.prune [0, 2, 3, 5, 10, 11, 12, 13, 14, 54] rfl
        have H := H.let [true] [] [true, true, true, false] [0, 1, 2, 4]
        exact wl_end ⟨hf, H⟩
      · rw [if_neg (nt hc2)] at hGc6
        have hf := hf.lit 50 rfl hc2
        refine pRun_ok (tb := tab) (n := 114) tabOk 4 _ _ hf rfl rfl fun a hf => ?_
        obtain rfl := Option.some.inj hGc6
        have hf := hf.prune [0, 2, 3, 5, 10, 11, 12, 13, 14, 54] rfl
        have H := H.let [true] [] [true, true, true, false] [0, 1, 2, 4]
        exact wl_end ⟨hf, H⟩
    rintro a w ⟨hf, H⟩
    refine then_n ?_
    refine (Bool.eq_false_or_eq_true (c6)).elim (fun hc3 => ?_) (fun hc3 => ?_)
    · rw [if_pos hc3] at hF
      refine cd_t hf rfl hc3 ?_
      refine sq ?_
      refine reg ?_
      refine pRun_ok (tb := tab) (n := 114) tabOk 1 _ _ hf rfl rfl fun a hf => ?_
      refine wl_end ?_
      refine then_n ?_
      refine wp_ret (then_r (?_))
      obtain rfl := Option.some.inj hF
      refine ret_1 (fn := Try.f19) (r := .tmp 8) hf rfl (rv_tmp hf rfl) ?_
      exact ⟨_, rfl, H.bel, mk_bool⟩
    · rw [if_neg (nt hc3)] at hF
      refine cd_f hf rfl hc3 ?_
      refine wp_skip ?_
      refine then_n ?_
      refine sq ?_
      refine sq ?_
      refine reg ?_
      refine pRun_ok (tb := tab) (n := 114) tabOk 2 _ _ hf rfl rfl fun a hf => ?_
      obtain ⟨y9, hy9, hF⟩ := bind_some hF
      refine wl0 rfl (op_call hf TF.cl82 rfl (by decide) (laws_toSpanS_ok (S := fun _ => True) (mk_list (rep_true (α := List Span) (H.get 3 rfl))) hy9) fun v13 w a hp15 hf => ?_)
      obtain ⟨hb9, F9, hp16, hN5⟩ := hp15
      obtain ⟨A6, c7, rfl, hl6⟩ := VO_list hp16
      have H := H.addOwn hb9 (X := [(⟨F9, MP.own F9 [(.slice A6 y9.length c7)] (y9 : List Span)⟩ : DI)]) (by simpa using hN5.1) (ps1 hl6 ps0) (by simpa using hN5.2)
      have H := H.lend 0 rfl
      obtain ⟨y10, hy10, hF⟩ := bind_some hF
      refine wl0 rfl (op_call hf TF.cl85 rfl (by decide) (laws_eqSpanS_ok (S := fun _ => True) (mk_list (rep_true (α := List Span) (H.get 2 rfl))) (mk_list (rep_true (α := List Span) (H.get 0 rfl))) hy10) fun v14 w a hp17 hf => ?_)
      obtain ⟨hb10, hp17⟩ := hp17
      obtain rfl := VR_bool hp17
      have H := H.keep hb10
      refine pRun_ok (tb := tab) (n := 114) tabOk 1 _ _ hf rfl rfl fun a hf => ?_
      refine wl_end ?_
      refine then_n ?_
      refine (Bool.eq_false_or_eq_true (!y10)).elim (fun hc4 => ?_) (fun hc4 => ?_)
      · rw [if_pos hc4] at hF
        refine cd_t hf rfl hc4 ?_
        refine sq ?_
        refine reg ?_
        refine pRun_ok (tb := tab) (n := 114) tabOk 1 _ _ hf rfl rfl fun a hf => ?_
        have hf := hf.prune [8] rfl
        refine wl_end ?_
        refine then_n ?_
        refine wp_ret (then_r (?_))
        obtain rfl := Option.some.inj hF
        refine ret_1 (fn := Try.f19) (r := .tmp 8) hf rfl (rv_tmp hf rfl) ?_
        exact ⟨_, rfl, H.bel, mk_bool⟩
      · rw [if_neg (nt hc4)] at hF
        refine cd_f hf rfl hc4 ?_
        refine wp_skip ?_
        refine then_n ?_
        refine sq ?_
        refine reg ?_
        refine pRun_ok (tb := tab) (n := 114) tabOk 1 _ _ hf rfl rfl fun a hf => ?_
        refine wl_end ?_
        refine then_n ?_
        refine sq ?_
        refine reg ?_
        refine pRun_ok (tb := tab) (n := 114) tabOk 2 _ _ hf rfl rfl fun a hf => ?_
        have H := H.frontD 2 rfl
        obtain ⟨y11, hy11, hF⟩ := bind_some hF
        refine wl0 rfl (op_call hf TF.cl86 rfl (by decide) (laws_markSpanS_ok (S := fun _ => True) (F := F5) (cs := [(.slice A4 y5.length c4)]) (H.ownAt 0 rfl) H.diNd.1 mk_int hy11) fun v15 w a hp18 hf => ?_)
        obtain ⟨hch, hv, F11, ho, hbk⟩ := hp18
        obtain rfl := VR_int hv
        have H := H.wrote rfl hch ho hbk
        have H := H.arg (p := MP.val [(.slice A aLine.length c)] aLine) hl
        have H := H.lend 0 rfl
        have H := H.lend 1 rfl
        have H := H.lend 2 rfl
        have H := H.lend 3 rfl
        refine pRun_ok (tb := tab) (n := 114) tabOk 1 _ _ hf rfl rfl fun a hf => ?_
        refine wl_end ?_
        refine then_n ?_
        refine sq ?_
        refine sq ?_
        obtain ⟨c8, hGc8, hF⟩ := bind_some hF
        refine mid (fun a w => Fr a 114 [(0, (.slice A aLine.length c)), (2, (.int .i64 aLaunch)), (3, (.int .i64 aNeed)), (5, (.pointer (some ⟨b', 0, none⟩))), (10, (.slice A3 y4.1.length c3)), (11, (.bool y4.2)), (13, (.slice A5 y7.1.length c5)), (75, (.bool c8))] ∧ Mem ⟨w0, []⟩ S [⟨b', 92, [(.int .i64 aA.After), (.int .i64 aA.Gain), (.int .i64 aA.Output), (.int .i64 aA.Noise)]⟩] [] [⟨F7, MP.own F7 [(.slice A5 y7.1.length c5)] (y7.1 : List Amplifier)⟩, ⟨F3, MP.own F3 [(.slice A3 y4.1.length c3)] (y4.1 : List Amplifier)⟩] [(true, MP.val [(.slice A3 y4.1.length c3)] (y4.1 : List Amplifier)), (true, MP.val [(.slice A5 y7.1.length c5)] (y7.1 : List Amplifier)), (false, MP.val [(.slice A aLine.length c)] (aLine : List Span))] w) ?_ ?_
        · refine reg ?_
          refine pRun_ok (tb := tab) (n := 114) tabOk 3 _ _ hf rfl rfl fun a hf => ?_
          refine (Bool.eq_false_or_eq_true (decide (y11.1 < 0))).elim (fun hc5 => ?_) (fun hc5 => ?_)
          · rw [if_pos hc5] at hGc8
            have hf := hf.lit 65 rfl hc5
            refine pRun_ok (tb := tab) (n := 114) tabOk 10 _ _ hf rfl rfl fun a hf => ?_
            obtain rfl := Option.some.inj hGc8
            have hf := hf.prune [0, 2, 3, 5, 10, 11, 13, 75] rfl
            have H := H.let [true] [] [false, false, true, true] [0, 1, 4]
            exact wl_end ⟨hf, H⟩
          · rw [if_neg (nt hc5)] at hGc8
            have hf := hf.lit 65 rfl hc5
            refine pRun_ok (tb := tab) (n := 114) tabOk 2 _ _ hf rfl rfl fun a hf => ?_
            obtain ⟨y12, hy12, hGc8⟩ := bind_some hGc8
            refine wlg hf rfl rfl rfl (op_call hf TF.cl58 rfl (by decide) (laws_eqAmplifierS_ok (S := fun _ => True) (mk_list (rep_true (α := List Amplifier) (H.get 1 rfl))) (mk_list (rep_true (α := List Amplifier) (H.get 0 rfl))) hy12) fun v16 w a hp19 hf => ?_)
            obtain ⟨hb11, hp19⟩ := hp19
            obtain rfl := VR_bool hp19
            have H := H.keep hb11
            refine pRun_ok (tb := tab) (n := 114) tabOk 3 _ _ hf rfl rfl fun a hf => ?_
            refine (Bool.eq_false_or_eq_true (!y12)).elim (fun hc6 => ?_) (fun hc6 => ?_)
            · rw [if_pos hc6] at hGc8
              have hf := hf.lit 71 rfl hc6
              refine pRun_ok (tb := tab) (n := 114) tabOk 4 _ _ hf rfl rfl fun a hf => ?_
              obtain rfl := Option.some.inj hGc8
              have hf := hf.prune [0, 2, 3, 5, 10, 11, 13, 75] rfl
              have H := H.let [true] [] [false, false, true, true] [0, 1, 4]
              exact wl_end ⟨hf, H⟩
            · rw [if_neg (nt hc6)] at hGc8
              have hf := hf.lit 71 rfl hc6
              refine pRun_ok (tb := tab) (n := 114) tabOk 4 _ _ hf rfl rfl fun a hf => ?_
              obtain rfl := Option.some.inj hGc8
              have hf := hf.prune [0, 2, 3, 5, 10, 11, 13, 75] rfl
              have H := H.let [true] [] [false, false, true, true] [0, 1, 4]
              exact wl_end ⟨hf, H⟩
        rintro a w ⟨hf, H⟩
        refine then_n ?_
        refine (Bool.eq_false_or_eq_true (c8)).elim (fun hc7 => ?_) (fun hc7 => ?_)
        · rw [if_pos hc7] at hF
          refine cd_t hf rfl hc7 ?_
          refine sq ?_
          refine reg ?_
          refine pRun_ok (tb := tab) (n := 114) tabOk 1 _ _ hf rfl rfl fun a hf => ?_
          refine wl_end ?_
          refine then_n ?_
          refine wp_ret (then_r (?_))
          obtain rfl := Option.some.inj hF
          refine ret_1 (fn := Try.f19) (r := .tmp 8) hf rfl (rv_tmp hf rfl) ?_
          exact ⟨_, rfl, H.bel, mk_bool⟩
        · rw [if_neg (nt hc7)] at hF
          refine cd_f hf rfl hc7 ?_
          refine wp_skip ?_
          refine then_n ?_
          refine sq ?_
          refine reg ?_
          refine pRun_ok (tb := tab) (n := 114) tabOk 1 _ _ hf rfl rfl fun a hf => ?_
          refine wl_end ?_
          refine then_n ?_
          refine sq ?_
          refine reg ?_
          refine pRun_ok (tb := tab) (n := 114) tabOk 2 _ _ hf rfl rfl fun a hf => ?_
          obtain ⟨y13, hy13, hF⟩ := bind_some hF
          refine wl0 rfl (op_call hf TF.cl87 rfl (by decide) (laws_markAmplifierS_ok (S := fun _ => True) (F := F7) (cs := [(.slice A5 y7.1.length c5)]) (H.ownAt 0 rfl) H.diNd.1 mk_int hy13) fun v17 w a hp20 hf => ?_)
          obtain ⟨hch2, hv2, F12, ho2, hbk2⟩ := hp20
          obtain rfl := VR_int hv2
          have H := H.wrote rfl hch2 ho2 hbk2
          have H := H.arg (p := MP.val [(.slice A aLine.length c)] aLine) hl
          have H := H.lend 0 rfl
          have H := H.lend 1 rfl
          refine pRun_ok (tb := tab) (n := 114) tabOk 1 _ _ hf rfl rfl fun a hf => ?_
          refine wl_end ?_
          refine then_n ?_
          refine sq ?_
          refine reg ?_
          refine pRun_ok (tb := tab) (n := 114) tabOk 1 _ _ hf rfl rfl fun a hf => ?_
          refine wl_end ?_
          refine then_n ?_
          refine sq ?_
          refine reg ?_
          refine pRun_ok (tb := tab) (n := 114) tabOk 2 _ _ hf rfl rfl fun a hf => ?_
          obtain ⟨y14, hy14, hF⟩ := bind_some hF
          refine wl0 rfl (op_call hf TF.cl88 rfl (by decide) (laws_heldAmplifierS_ok (S := fun _ => True) (mk_list (rep_true (α := List Amplifier) (H.get 1 rfl))) mk_int hy14) fun v18 w a hp21 hf => ?_)
          obtain ⟨hb12, hp21⟩ := hp21
          obtain rfl := VR_int hp21
          have H := H.keep hb12
          refine pRun_ok (tb := tab) (n := 114) tabOk 1 _ _ hf rfl rfl fun a hf => ?_
          refine wl_end ?_
          refine then_n ?_
          refine sq ?_
          refine sq ?_
          refine reg ?_
          refine pRun_ok (tb := tab) (n := 114) tabOk 2 _ _ hf rfl rfl fun a hf => ?_
          refine wl_end ?_
          refine then_n ?_
          refine (Bool.eq_false_or_eq_true (decide (y14 < 0))).elim (fun hc8 => ?_) (fun hc8 => ?_)
          · rw [if_pos hc8] at hF
            refine cd_t hf rfl hc8 ?_
            refine sq ?_
            refine reg ?_
            refine pRun_ok (tb := tab) (n := 114) tabOk 1 _ _ hf rfl rfl fun a hf => ?_
            have hf := hf.prune [8] rfl
            refine wl_end ?_
            refine then_n ?_
            refine wp_ret (then_r (?_))
            obtain rfl := Option.some.inj hF
            refine ret_1 (fn := Try.f19) (r := .tmp 8) hf rfl (rv_tmp hf rfl) ?_
            exact ⟨_, rfl, H.bel, mk_bool⟩
          · rw [if_neg (nt hc8)] at hF
            refine cd_f hf rfl hc8 ?_
            refine wp_skip ?_
            refine then_n ?_
            refine sq ?_
            refine sq ?_
            refine reg ?_
            refine pRun_ok (tb := tab) (n := 114) tabOk 3 _ _ hf rfl rfl fun a hf => ?_
            refine wl_end ?_
            refine then_n ?_
            refine (Bool.eq_false_or_eq_true (y14 != y13.1)).elim (fun hc9 => ?_) (fun hc9 => ?_)
            · rw [if_pos hc9] at hF
              refine cd_t hf rfl hc9 ?_
              refine sq ?_
              refine reg ?_
              refine pRun_ok (tb := tab) (n := 114) tabOk 1 _ _ hf rfl rfl fun a hf => ?_
              have hf := hf.prune [8] rfl
              refine wl_end ?_
              refine then_n ?_
              refine wp_ret (then_r (?_))
              obtain rfl := Option.some.inj hF
              refine ret_1 (fn := Try.f19) (r := .tmp 8) hf rfl (rv_tmp hf rfl) ?_
              exact ⟨_, rfl, H.bel, mk_bool⟩
            · rw [if_neg (nt hc9)] at hF
              refine cd_f hf rfl hc9 ?_
              refine wp_skip ?_
              refine then_n ?_
              refine sq ?_
              refine drawn [] (bs := [false, false, false, false, false, false, false, false, false, false, false, false]) (fuel := 12) (Checked.mixed Try.checked) rfl rfl fun w hb => ?_
              have H := H.keep hb
              refine tkP (i := 0) (bs' := [true, false, false, false, false, false, false, false, false, false, false, false]) rfl rfl rfl (by decide) hf (by kernel_rfl) (fun _ => trivial) (fun w => pOp_ok (tb := tab) tabOk hf rfl) rfl fun a hf => ?_
              refine str (fun w => Mem ⟨w0, []⟩ S [⟨b', 92, [(.int .i64 aA.After), (.int .i64 aA.Gain), (.int .i64 aA.Output), (.int .i64 aA.Noise)]⟩] [] [⟨F12, MP.own F12 [(.slice A5 y7.1.length c5)] (y13.2 : List Amplifier)⟩, ⟨F3, MP.own F3 [(.slice A3 y4.1.length c3)] (y4.1 : List Amplifier)⟩] [(true, MP.val [(.slice A3 y4.1.length c3)] (y4.1 : List Amplifier)), (true, MP.val [(.slice A5 y7.1.length c5)] (y13.2 : List Amplifier)), (false, MP.val [(.slice A aLine.length c)] (aLine : List Span))] w) (fun w H => trivial) ?_
              have hS : Mem ⟨w0, []⟩ S [⟨b', 92, [(.int .i64 aA.After), (.int .i64 aA.Gain), (.int .i64 aA.Output), (.int .i64 aA.Noise)]⟩] [] [⟨F12, MP.own F12 [(.slice A5 y7.1.length c5)] (y13.2 : List Amplifier)⟩, ⟨F3, MP.own F3 [(.slice A3 y4.1.length c3)] (y4.1 : List Amplifier)⟩] [(true, MP.val [(.slice A3 y4.1.length c3)] (y4.1 : List Amplifier)), (true, MP.val [(.slice A5 y7.1.length c5)] (y13.2 : List Amplifier)), (false, MP.val [(.slice A aLine.length c)] (aLine : List Span))] w := H.let [true] [] [true, true] [0, 1, 2]
              refine tkS (i := 2) (bs' := [true, false, true, false, false, false, false, false, false, false, false, false]) [] rfl rfl rfl (by decide) hf (by kernel_rfl) (by kernel_rfl) hS (fun w H => rq_loadBN hf H TF.la92 0 rfl rfl rfl rfl) rfl fun a hf => ?_
              refine tkP (i := 4) (bs' := [true, false, true, false, true, false, false, false, false, false, false, false]) rfl rfl rfl (by decide) hf (by kernel_rfl) (fun _ => hS) (fun w => pOp_ok (tb := tab) tabOk hf rfl) rfl fun a hf => ?_
              refine tkP (i := 5) (bs' := [true, false, true, false, true, true, false, false, false, false, false, false]) rfl rfl rfl (by decide) hf (by kernel_rfl) (fun _ => hS) (fun w => pOp_ok (tb := tab) tabOk hf rfl) rfl fun a hf => ?_
              obtain ⟨y15, hy15, hF⟩ := bind_some hF
              refine on1 (i := 1) (bs' := [true, true, true, false, true, true, false, false, false, false, false, false]) (by kernel_rfl) rfl rfl rfl (op_call hf TF.cl82 rfl (by decide) (laws_toSpanS_ok (S := fun _ => True) (mk_list (rep_true (α := List Span) (H.get 2 rfl))) hy15) fun v19 w a hp22 hf => ?_)
              obtain ⟨hb13, F13, hp23, hN6⟩ := hp22
              obtain ⟨A7, c9, rfl, hl7⟩ := VO_list hp23
              have H := H.addOwn hb13 (X := [(⟨F13, MP.own F13 [(.slice A7 y15.length c9)] (y15 : List Span)⟩ : DI)]) (by simpa using hN6.1) (ps1 hl7 ps0) (by simpa using hN6.2)
              have H := H.lend 0 rfl
              have hS : Mem ⟨w0, []⟩ S [⟨b', 92, [(.int .i64 aA.After), (.int .i64 aA.Gain), (.int .i64 aA.Output), (.int .i64 aA.Noise)]⟩] [] [⟨F12, MP.own F12 [(.slice A5 y7.1.length c5)] (y13.2 : List Amplifier)⟩, ⟨F3, MP.own F3 [(.slice A3 y4.1.length c3)] (y4.1 : List Amplifier)⟩] [(true, MP.val [(.slice A3 y4.1.length c3)] (y4.1 : List Amplifier)), (true, MP.val [(.slice A5 y7.1.length c5)] (y13.2 : List Amplifier)), (false, MP.val [(.slice A aLine.length c)] (aLine : List Span))] w := H.let [true] [] [false, true, true] [1, 2, 3]
              refine ⟨fun _ => hS, ?_⟩
              obtain ⟨y16, hy16, hF⟩ := bind_some hF
              refine on1 (i := 3) (bs' := [true, true, true, true, true, true, false, false, false, false, false, false]) (by kernel_rfl) rfl rfl rfl (op_call hf TF.cl83 rfl (by decide) (laws_toAmplifier_ok (S := fun _ => True) Amplifier_mkv hy16) fun v20 w a hp24 hf => ?_)
              obtain ⟨hb14, hp24⟩ := hp24
              obtain rfl := Amplifier_open hp24
              have H := H.keep hb14
              have hS : Mem ⟨w0, []⟩ S [⟨b', 92, [(.int .i64 aA.After), (.int .i64 aA.Gain), (.int .i64 aA.Output), (.int .i64 aA.Noise)]⟩] [] [⟨F12, MP.own F12 [(.slice A5 y7.1.length c5)] (y13.2 : List Amplifier)⟩, ⟨F3, MP.own F3 [(.slice A3 y4.1.length c3)] (y4.1 : List Amplifier)⟩] [(true, MP.val [(.slice A3 y4.1.length c3)] (y4.1 : List Amplifier)), (true, MP.val [(.slice A5 y7.1.length c5)] (y13.2 : List Amplifier)), (false, MP.val [(.slice A aLine.length c)] (aLine : List Span))] w := H.let [true] [] [false, true, true] [1, 2, 3]
              refine ⟨fun _ => hS, ?_⟩
              obtain ⟨y17, hy17, hF⟩ := bind_some hF
              refine on1 (i := 6) (bs' := [true, true, true, true, true, true, true, false, false, false, false, false]) (by kernel_rfl) rfl rfl rfl (op_call hf TF.cl84 rfl (by decide) (impl_PlaceAmplifiers_ok (S := fun _ => True) (mk_list (rep_true (α := List Span) (H.get 0 rfl))) Amplifier_mkv mk_int mk_int hy17) fun v21 w a hp25 hf => ?_)
              obtain ⟨hb15, F15, v22, v23, rfl, hp26, hp27, hN7⟩ := hp25
              obtain ⟨A8, c10, rfl, hl8⟩ := VO_list hp26
              obtain rfl := VR_bool hp27
              have H := H.addOwn hb15 (X := [(⟨F15, MP.own F15 [(.slice A8 y17.1.length c10)] (y17.1 : List Amplifier)⟩ : DI)]) (by simpa using hN7.1) (ps1 hl8 ps0) (by simpa using hN7.2)
              have H := H.lend 0 rfl
              have hS : Mem ⟨w0, []⟩ S [⟨b', 92, [(.int .i64 aA.After), (.int .i64 aA.Gain), (.int .i64 aA.Output), (.int .i64 aA.Noise)]⟩] [] [⟨F12, MP.own F12 [(.slice A5 y7.1.length c5)] (y13.2 : List Amplifier)⟩, ⟨F3, MP.own F3 [(.slice A3 y4.1.length c3)] (y4.1 : List Amplifier)⟩] [(true, MP.val [(.slice A3 y4.1.length c3)] (y4.1 : List Amplifier)), (true, MP.val [(.slice A5 y7.1.length c5)] (y13.2 : List Amplifier)), (false, MP.val [(.slice A aLine.length c)] (aLine : List Span))] w := H.let [true] [] [false, false, true, true] [2, 3, 4]
              refine ⟨fun _ => hS, ?_⟩
              refine tkP (i := 7) (bs' := [true, true, true, true, true, true, true, true, false, false, false, false]) rfl rfl rfl (by decide) hf (by kernel_rfl) (fun _ => hS) (fun w => pOp_ok (tb := tab) tabOk hf rfl) rfl fun a hf => ?_
              refine tkP (i := 8) (bs' := [true, true, true, true, true, true, true, true, true, false, false, false]) rfl rfl rfl (by decide) hf (by kernel_rfl) (fun _ => hS) (fun w => pOp_ok (tb := tab) tabOk hf rfl) rfl fun a hf => ?_
              refine tkP (i := 9) (bs' := [true, true, true, true, true, true, true, true, true, true, false, false]) rfl rfl rfl (by decide) hf (by kernel_rfl) (fun _ => hS) (fun w => pOp_ok (tb := tab) tabOk hf rfl) rfl fun a hf => ?_
              refine tkP (i := 10) (bs' := [true, true, true, true, true, true, true, true, true, true, true, false]) rfl rfl rfl (by decide) hf (by kernel_rfl) (fun _ => hS) (fun w => pOp_ok (tb := tab) tabOk hf rfl) rfl fun a hf => ?_
              refine tkP (i := 11) (bs' := [true, true, true, true, true, true, true, true, true, true, true, true]) rfl rfl rfl (by decide) hf (by kernel_rfl) (fun _ => hS) (fun w => pOp_ok (tb := tab) tabOk hf rfl) rfl fun a hf => ?_
              refine dn (by kernel_rfl) ?_
              have hf := hf.prune [10, 11, 13, 16, 18, 19] rfl
              refine then_n ?_
              refine sq ?_
              refine sq ?_
              obtain ⟨c11, hGc11, hF⟩ := bind_some hF
              refine mid (fun a w => Fr a 114 [(13, (.slice A5 y7.1.length c5)), (16, (.int .i64 y13.1)), (105, (.bool c11))] ∧ Mem ⟨w0, []⟩ S [] [] [⟨F12, MP.own F12 [(.slice A5 y7.1.length c5)] (y13.2 : List Amplifier)⟩] [(true, MP.val [(.slice A5 y7.1.length c5)] (y13.2 : List Amplifier))] w) ?_ ?_
              · refine reg ?_
                refine pRun_ok (tb := tab) (n := 114) tabOk 2 _ _ hf rfl rfl fun a hf => ?_
                obtain ⟨y18, hy18, hGc11⟩ := bind_some hGc11
                refine wl0 rfl (op_call hf TF.cl58 rfl (by decide) (laws_eqAmplifierS_ok (S := fun _ => True) (mk_list (rep_true (α := List Amplifier) (H.get 0 rfl))) (mk_list (rep_true (α := List Amplifier) (H.get 2 rfl))) hy18) fun v24 w a hp28 hf => ?_)
                obtain ⟨hb16, hp28⟩ := hp28
                obtain rfl := VR_bool hp28
                have H := H.keep hb16
                refine pRun_ok (tb := tab) (n := 114) tabOk 2 _ _ hf rfl rfl fun a hf => ?_
                refine (Bool.eq_false_or_eq_true (!y18)).elim (fun hc10 => ?_) (fun hc10 => ?_)
                · rw [if_pos hc10] at hGc11
                  have hf := hf.lit 101 rfl hc10
                  refine pRun_ok (tb := tab) (n := 114) tabOk 4 _ _ hf rfl rfl fun a hf => ?_
                  obtain rfl := Option.some.inj hGc11
                  have hf := hf.prune [13, 16, 105] rfl
                  have H := H.let [false] [] [false, false, true, false] [3]
                  exact wl_end ⟨hf, H⟩
                · rw [if_neg (nt hc10)] at hGc11
                  have hf := hf.lit 101 rfl hc10
                  refine pRun_ok (tb := tab) (n := 114) tabOk 4 _ _ hf rfl rfl fun a hf => ?_
                  obtain rfl := Option.some.inj hGc11
                  have hf := hf.prune [13, 16, 105] rfl
                  have H := H.let [false] [] [false, false, true, false] [3]
                  exact wl_end ⟨hf, H⟩
              rintro a w ⟨hf, H⟩
              refine then_n ?_
              refine (Bool.eq_false_or_eq_true (c11)).elim (fun hc11 => ?_) (fun hc11 => ?_)
              · rw [if_pos hc11] at hF
                refine cd_t hf rfl hc11 ?_
                refine sq ?_
                refine reg ?_
                refine pRun_ok (tb := tab) (n := 114) tabOk 1 _ _ hf rfl rfl fun a hf => ?_
                refine wl_end ?_
                refine then_n ?_
                refine wp_ret (then_r (?_))
                obtain rfl := Option.some.inj hF
                refine ret_1 (fn := Try.f19) (r := .tmp 8) hf rfl (rv_tmp hf rfl) ?_
                exact ⟨_, rfl, H.bel, mk_bool⟩
              · rw [if_neg (nt hc11)] at hF
                refine cd_f hf rfl hc11 ?_
                refine wp_skip ?_
                refine then_n ?_
                refine sq ?_
                refine reg ?_
                refine pRun_ok (tb := tab) (n := 114) tabOk 1 _ _ hf rfl rfl fun a hf => ?_
                refine wl_end ?_
                refine then_n ?_
                refine sq ?_
                refine reg ?_
                refine pRun_ok (tb := tab) (n := 114) tabOk 2 _ _ hf rfl rfl fun a hf => ?_
                obtain ⟨y19, hy19, hF⟩ := bind_some hF
                refine wl0 rfl (op_call hf TF.cl88 rfl (by decide) (laws_heldAmplifierS_ok (S := fun _ => True) (mk_list (rep_true (α := List Amplifier) (H.get 0 rfl))) mk_int hy19) fun v25 w a hp29 hf => ?_)
                obtain ⟨hb17, hp29⟩ := hp29
                obtain rfl := VR_int hp29
                have H := H.keep hb17
                refine pRun_ok (tb := tab) (n := 114) tabOk 1 _ _ hf rfl rfl fun a hf => ?_
                refine wl_end ?_
                refine then_n ?_
                refine sq ?_
                refine sq ?_
                refine reg ?_
                refine pRun_ok (tb := tab) (n := 114) tabOk 2 _ _ hf rfl rfl fun a hf => ?_
                refine wl_end ?_
                refine then_n ?_
                refine (Bool.eq_false_or_eq_true (decide (y19 < 0))).elim (fun hc12 => ?_) (fun hc12 => ?_)
                · rw [if_pos hc12] at hF
                  refine cd_t hf rfl hc12 ?_
                  refine sq ?_
                  refine reg ?_
                  refine pRun_ok (tb := tab) (n := 114) tabOk 1 _ _ hf rfl rfl fun a hf => ?_
                  refine wl_end ?_
                  refine then_n ?_
                  refine wp_ret (then_r (?_))
                  obtain rfl := Option.some.inj hF
                  refine ret_1 (fn := Try.f19) (r := .tmp 8) hf rfl (rv_tmp hf rfl) ?_
                  exact ⟨_, rfl, H.bel, mk_bool⟩
                · rw [if_neg (nt hc12)] at hF
                  refine cd_f hf rfl hc12 ?_
                  refine wp_skip ?_
                  refine then_n ?_
                  refine sq ?_
                  refine sq ?_
                  refine reg ?_
                  refine pRun_ok (tb := tab) (n := 114) tabOk 3 _ _ hf rfl rfl fun a hf => ?_
                  refine wl_end ?_
                  refine then_n ?_
                  refine (Bool.eq_false_or_eq_true (y19 != y13.1)).elim (fun hc13 => ?_) (fun hc13 => ?_)
                  · rw [if_pos hc13] at hF
                    refine cd_t hf rfl hc13 ?_
                    refine sq ?_
                    refine reg ?_
                    refine pRun_ok (tb := tab) (n := 114) tabOk 1 _ _ hf rfl rfl fun a hf => ?_
                    refine wl_end ?_
                    refine then_n ?_
                    refine wp_ret (then_r (?_))
                    obtain rfl := Option.some.inj hF
                    refine ret_1 (fn := Try.f19) (r := .tmp 8) hf rfl (rv_tmp hf rfl) ?_
                    exact ⟨_, rfl, H.bel, mk_bool⟩
                  · rw [if_neg (nt hc13)] at hF
                    refine cd_f hf rfl hc13 ?_
                    refine wp_skip ?_
                    refine then_n ?_
                    refine sq ?_
                    refine reg ?_
                    refine pRun_ok (tb := tab) (n := 114) tabOk 1 _ _ hf rfl rfl fun a hf => ?_
                    refine wl_end ?_
                    refine then_n ?_
                    refine wp_ret (?_)
                    obtain rfl := Option.some.inj hF
                    refine ret_1 (fn := Try.f19) (r := .tmp 8) hf rfl (rv_tmp hf rfl) ?_
                    exact ⟨_, rfl, H.bel, mk_bool⟩
end AT
