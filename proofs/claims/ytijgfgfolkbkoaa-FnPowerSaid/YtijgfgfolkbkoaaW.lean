/- The Go functions do what is told of them, by program (gen.py). -/
import Derived.Test.YtijgfgfolkbkoaaW0
set_option linter.unusedVariables false
set_option linter.unusedSimpArgs false
set_option maxRecDepth 100000
namespace AT
open Go Go.RowKit Go.Proofs

/- slices.Index[[]int,int] -/
set_option maxHeartbeats 1000000 in
theorem slices_Index_int_int_ok {fu : Nat} {w0 : World} {S : Nat → Prop} {v0_ : Value} {v1_ : Value} {s' : List Int} {v : Int} {r : Int} (h0 : VR w0 S v0_ s') (h1 : VR w0 S v1_ v) (hF : slices_Index_int_int fu s' v = some r) :
    Calls Try.prog 148 [v0_, v1_].toArray w0 fun e w' => ∃ v, e = .returned v ∧ (Below w0.heap.size w0 w' ∧ VR w' (St ⟨w0, []⟩ S [] [] [] true) v r) := by
  obtain ⟨A, c, rfl, hl⟩ := VR_list h0
  obtain rfl := VR_int h1
  have H := Mem.start ⟨w0, []⟩ S
  have H := H.pushArg (MP.val [(.slice A s'.length c)] s') hl
  refine enter Try.func148 rfl rfl (nle rfl) rfl fun a hf => ?_
  rw [slices_Index_int_int] at hF
  refine sq ?_
  refine reg ?_
  refine pRun_ok (tb := tab) (n := 19) tabOk 1 _ _ hf rfl rfl fun a hf => ?_
  refine wl_end ?_
  refine then_n ?_
  refine sq ?_
  refine sq ?_
  refine reg ?_
  refine pRun_ok (tb := tab) (n := 19) tabOk 3 _ _ hf rfl rfl fun a hf => ?_
  refine wl_end ?_
  refine then_n ?_
  obtain ⟨out', hB1, hF⟩ := bind_some hF
  have hf := hf.prune [0, 1, 7, 8] rfl
  have H := H.let [] [] [] [0]
  have hI : (fun (s : Int) (a : Act) (w : World) => match s with | i => Fr a 19 [(0, (.slice A s'.length c)), (1, (.int .i64 v)), (7, (.int .i64 (s'.length : Int))), (8, (.int .i64 i))] ∧ Mem ⟨w0, []⟩ S [] [] [] [(false, MP.val [(.slice A s'.length c)] (s' : List Int))] w) 0 a w0 := ⟨hf, H⟩
  refine mid (fun a w => ∃ s : Int, out' = Out.next s ∧ (fun (s : Int) (a : Act) (w : World) => match s with | i => Fr a 19 [(0, (.slice A s'.length c)), (1, (.int .i64 v)), (7, (.int .i64 (s'.length : Int))), (8, (.int .i64 i))] ∧ Mem ⟨w0, []⟩ S [] [] [] [(false, MP.val [(.slice A s'.length c)] (s' : List Int))] w) s a w) ?_ ?_
  · refine wp_block ?_
    refine loop_rule (fun k (s : Int) => slices_Index_int_int_L1 fu s' v k s = some out') (fun (s : Int) (a : Act) (w : World) => match s with | i => Fr a 19 [(0, (.slice A s'.length c)), (1, (.int .i64 v)), (7, (.int .i64 (s'.length : Int))), (8, (.int .i64 i))] ∧ Mem ⟨w0, []⟩ S [] [] [] [(false, MP.val [(.slice A s'.length c)] (s' : List Int))] w) (fun s h => by cases h) ?_ fu 0 a w0 hB1 hI
    rintro fk i a w hR1 hI
    replace hR1 : slices_Index_int_int_L1 fu s' v (fk + 1) i = some out' := hR1
    rw [slices_Index_int_int_L1] at hR1
    obtain ⟨hf, H⟩ := hI
    refine sq ?_
    refine reg ?_
    refine pRun_ok (tb := tab) (n := 19) tabOk 1 _ _ hf rfl rfl fun a hf => ?_
    refine wl_end ?_
    refine then_n ?_
    refine sq ?_
    refine (Bool.eq_false_or_eq_true (decide (i < (s'.length : Int)))).elim (fun hc => ?_) (fun hc => ?_)
    · rw [if_pos hc] at hR1
      refine cd_t hf rfl hc ?_
      refine wp_skip ?_
      refine then_n ?_
      refine sq ?_
      refine wp_block ?_
      refine sq ?_
      refine reg ?_
      refine pRun_ok (tb := tab) (n := 19) tabOk 2 _ _ hf rfl rfl fun a hf => ?_
      refine wl_end ?_
      refine then_n ?_
      refine sq ?_
      refine reg ?_
      refine pRun_ok (tb := tab) (n := 19) tabOk 3 _ _ hf rfl rfl fun a hf => ?_
      obtain ⟨e, he, hR1⟩ := bind_some hR1
      refine wl0 rfl (op_iaddr hf H Try.underlying35 TF.sz3 0 rfl rfl rfl he (by decide) fun p o cs a hf hr H => ?_)
      obtain rfl := hr
      refine wl0 rfl (op_q hf (rq_loadI hf H TF.ls3 0 0 rfl rfl rfl) rfl (by decide) fun a hf => ?_)
      refine pRun_ok (tb := tab) (n := 19) tabOk 1 _ _ hf rfl rfl fun a hf => ?_
      refine wl_end ?_
      refine then_n ?_
      refine (Bool.eq_false_or_eq_true (v == e)).elim (fun hc2 => ?_) (fun hc2 => ?_)
      · rw [if_pos hc2] at hR1
        refine cd_t hf rfl hc2 ?_
        refine sq ?_
        refine reg ?_
        refine pRun_ok (tb := tab) (n := 19) tabOk 2 _ _ hf rfl rfl fun a hf => ?_
        have hf := hf.prune [4] rfl
        refine wl_end ?_
        refine then_n ?_
        refine wp_ret (blk_r (then_r (then_r (blk_r (then_r (then_r (?_)))))))
        obtain rfl := Option.some.inj hR1
        replace hF := on_ret hF
        obtain rfl := Option.some.inj hF
        refine ret_1 (fn := Try.f148) (r := .tmp 4) hf rfl (rv_tmp hf rfl) ?_
        exact ⟨_, rfl, H.bel, mk_int⟩
      · rw [if_neg (nt hc2)] at hR1
        refine cd_f hf rfl hc2 ?_
        refine wp_skip ?_
        refine blk_n ?_
        refine then_n ?_
        refine reg ?_
        refine pRun_ok (tb := tab) (n := 19) tabOk 2 _ _ hf rfl rfl fun a hf => ?_
        refine wl_end ?_
        have hf := hf.prune [0, 1, 7, 8] rfl
        have H := H.let [] [] [] [1]
        exact then_n ⟨w64 (i + 1), hR1, hf, H⟩
    · rw [if_neg (nt hc)] at hR1
      refine cd_f hf rfl hc ?_
      refine wp_exit (then_x (then_x (blk_e (?_))))
      have hf := hf.prune [0, 1, 7, 8] rfl
      have H := H.let [] [] [] [0]
      exact ⟨i, (Option.some.inj hR1).symm, hf, H⟩
  rintro a w ⟨i2, rfl, hf, H⟩
  replace hF := on_next hF
  refine then_n ?_
  refine sq ?_
  refine reg ?_
  refine pRun_ok (tb := tab) (n := 19) tabOk 1 _ _ hf rfl rfl fun a hf => ?_
  refine wl_end ?_
  refine then_n ?_
  refine wp_ret (?_)
  obtain rfl := Option.some.inj hF
  refine ret_1 (fn := Try.f148) (r := .tmp 4) hf rfl (rv_tmp hf rfl) ?_
  exact ⟨_, rfl, H.bel, mk_int⟩

/- loop.example/g00897/impl.WorstLevel -/
set_option maxHeartbeats 1000000 in
theorem impl_WorstLevel_ok {fu : Nat} {w0 : World} {S : Nat → Prop} {v0_ : Value} {v1_ : Value} {v2_ : Value} {line : List Span} {list : List Amplifier} {launch : Int} {r : Int × Int × Bool} (h0 : VR w0 S v0_ line) (h1 : VR w0 S v1_ list) (h2 : VR w0 S v2_ launch) (hF : impl_WorstLevel fu line list launch = some r) :
    Calls Try.prog 92 [v0_, v1_, v2_].toArray w0 fun e w' => ∃ v, e = .returned v ∧ (Below w0.heap.size w0 w' ∧ ∃ u0 u1 u2, v = .tuple #[u0, u1, u2] ∧ VR w' (St ⟨w0, []⟩ S [] [] [] true) u0 r.1 ∧ VR w' (St ⟨w0, []⟩ S [] [] [] true) u1 r.2.1 ∧ VR w' (St ⟨w0, []⟩ S [] [] [] true) u2 r.2.2) := by
  obtain ⟨A, c, rfl, hl⟩ := VR_list h0
  obtain ⟨A2, c2, rfl, hl2⟩ := VR_list h1
  obtain rfl := VR_int h2
  have H := Mem.start ⟨w0, []⟩ S
  have H := H.pushArg (MP.val [(.slice A line.length c)] line) hl
  have H := H.pushArg (MP.val [(.slice A2 list.length c2)] list) hl2
  refine enter Try.func92 rfl rfl (nle rfl) rfl fun a hf => ?_
  rw [impl_WorstLevel] at hF
  refine sq ?_
  refine reg ?_
  refine pRun_ok (tb := tab) (n := 29) tabOk 3 _ _ hf rfl rfl fun a hf => ?_
  refine wl_end ?_
  refine then_n ?_
  refine sq ?_
  refine reg ?_
  refine pRun_ok (tb := tab) (n := 29) tabOk 3 _ _ hf rfl rfl fun a hf => ?_
  obtain ⟨y, hy, hF⟩ := bind_some hF
  refine wl0 rfl (op_call hf TF.cl146 rfl (by decide) (impl_profile_ok (S := fun _ => True) (mk_list (rep_true (α := List Span) (H.get 1 rfl))) (mk_list (rep_true (α := List Amplifier) (H.get 0 rfl))) mk_int hy) fun v w a hp hf => ?_)
  obtain ⟨hb, F, F2, v2, v3, v4, rfl, hp2, hp3, hp4, hN⟩ := hp
  obtain ⟨A3, c3, rfl, hl3⟩ := VO_list hp2
  obtain ⟨A4, c4, rfl, hl4⟩ := VO_list hp3
  obtain rfl := VR_bool hp4
  have H := H.addOwn hb (X := [(⟨F, MP.own F [(.slice A3 y.1.length c3)] (y.1 : List Int)⟩ : DI), (⟨F2, MP.own F2 [(.slice A4 y.2.1.length c4)] (y.2.1 : List Int)⟩ : DI)]) (by simpa using hN.1) (ps1 hl3 (ps1 hl4 ps0)) (by simpa using hN.2)
  have H := H.lend 0 rfl
  have H := H.lend 1 rfl
  refine pRun_ok (tb := tab) (n := 29) tabOk 7 _ _ hf rfl rfl fun a hf => ?_
  have hf := hf.prune [9, 11] rfl
  refine wl_end ?_
  refine then_n ?_
  refine sq ?_
  refine sq ?_
  refine reg ?_
  refine pRun_ok (tb := tab) (n := 29) tabOk 2 _ _ hf rfl rfl fun a hf => ?_
  refine wl_end ?_
  refine then_n ?_
  refine (Bool.eq_false_or_eq_true (!y.2.2)).elim (fun hc => ?_) (fun hc => ?_)
  · rw [if_pos hc] at hF
    refine cd_t hf rfl hc ?_
    refine sq ?_
    refine reg ?_
    refine pRun_ok (tb := tab) (n := 29) tabOk 3 _ _ hf rfl rfl fun a hf => ?_
    refine wl_end ?_
    refine then_n ?_
    refine wp_ret (then_r (?_))
    obtain rfl := Option.some.inj hF
    refine ret_3 (fn := Try.f92) (r := .tmp 6) (s := .tmp 7) (t := .tmp 8) hf rfl (rv_tmp hf rfl) (rv_tmp hf rfl) (rv_tmp hf rfl) ?_
    exact ⟨_, rfl, H.bel, _, _, _, rfl, mk_int, mk_int, mk_bool⟩
  · rw [if_neg (nt hc)] at hF
    refine cd_f hf rfl hc ?_
    refine wp_skip ?_
    refine then_n ?_
    refine sq ?_
    refine reg ?_
    refine pRun_ok (tb := tab) (n := 29) tabOk 1 _ _ hf rfl rfl fun a hf => ?_
    obtain ⟨y2, hy2, hF⟩ := bind_some hF
    refine wl0 rfl (op_call hf TF.cl147 rfl (by decide) (slices_Min_int_int_ok (S := fun _ => True) (mk_list (rep_true (α := List Int) (H.get 1 rfl))) hy2) fun v5 w a hp5 hf => ?_)
    obtain ⟨hb2, hp5⟩ := hp5
    obtain rfl := VR_int hp5
    have H := H.keep hb2
    refine pRun_ok (tb := tab) (n := 29) tabOk 1 _ _ hf rfl rfl fun a hf => ?_
    refine wl_end ?_
    refine then_n ?_
    refine sq ?_
    refine reg ?_
    refine pRun_ok (tb := tab) (n := 29) tabOk 3 _ _ hf rfl rfl fun a hf => ?_
    obtain ⟨y3, hy3, hF⟩ := bind_some hF
    refine wl0 rfl (op_call hf TF.cl148 rfl (by decide) (slices_Index_int_int_ok (S := fun _ => True) (mk_list (rep_true (α := List Int) (H.get 1 rfl))) mk_int hy3) fun v6 w a hp6 hf => ?_)
    obtain ⟨hb3, hp6⟩ := hp6
    obtain rfl := VR_int hp6
    have H := H.keep hb3
    refine pRun_ok (tb := tab) (n := 29) tabOk 3 _ _ hf rfl rfl fun a hf => ?_
    refine wl_end ?_
    refine then_n ?_
    refine wp_ret (?_)
    obtain rfl := Option.some.inj hF
    refine ret_3 (fn := Try.f92) (r := .tmp 6) (s := .tmp 7) (t := .tmp 8) hf rfl (rv_tmp hf rfl) (rv_tmp hf rfl) (rv_tmp hf rfl) ?_
    exact ⟨_, rfl, H.bel, _, _, _, rfl, mk_int, mk_int, mk_bool⟩

/- (*loop.example/g00897/spec.l1Cur).one -/
set_option maxHeartbeats 1000000 in
theorem spec_l1Cur_one_ok {fu : Nat} {w0 : World} {S : Nat → Prop} {b0 : Nat} {cs0 : List Value} {v1_ : Value} {c : L1CurP} {n' : Int} {r : Bool × L1CurP} (hp0 : w0.heap[b0]? = some (.cells cs0.toArray 138 (0, 0))) (hr0 : GoTy.rep w0 S cs0 c) (hS0 : ¬ S b0) (h1 : VR w0 S v1_ n') (hF : spec_l1Cur_one fu c n' = some r) :
    Calls Try.prog 160 [(.pointer (some ⟨b0, 0, none⟩)), v1_].toArray w0 fun e w' => ∃ v, e = .returned v ∧ (Chg w0 w' [b0] ∧ ∃ cs', w'.heap[b0]? = some (.cells cs'.toArray 138 (0, 0)) ∧ GoTy.rep w' (St ⟨w0, [b0]⟩ S [⟨b0, 138, cs'⟩] [] [] false) cs' r.2 ∧ VR w' (St ⟨w0, [b0]⟩ S [⟨b0, 138, cs'⟩] [] [] true) v r.1) := by
  obtain ⟨A, c2, rfl, hl⟩ := L1CurP_cells hr0
  obtain rfl := VR_int h1
  have H := Mem.startB S hp0
  have H := H.argB (by simpa using hS0) (p := MP.val [(.slice A c.code.length c2)] c.code) hl
  refine enter Try.func160 rfl rfl (nle rfl) rfl fun a hf => ?_
  rw [spec_l1Cur_one] at hF
  refine sq ?_
  refine reg ?_
  refine pRun_ok (tb := tab) (n := 9) tabOk 1 _ _ hf rfl rfl fun a hf => ?_
  refine wl_end ?_
  refine then_n ?_
  refine sq ?_
  refine reg ?_
  refine pRun_ok (tb := tab) (n := 9) tabOk 2 _ _ hf rfl rfl fun a hf => ?_
  obtain ⟨y, hy, hF⟩ := bind_some hF
  refine wl0 rfl (op_call hf TF.cl134 rfl (by decide) (spec_l1Cur_pick_ok (S := St ⟨w0, [b0]⟩ S [⟨b0, 138, [(.slice A c.code.length c2), (.int .i64 c.at_), (.int .u64 c.seed.n)]⟩] [] [] false) (H.boxAt 0 rfl) (L1CurP_mk (x := c) (H.get 0 rfl)) (H.notSt 0 rfl _) mk_int hy) fun v w a hp hf => ?_)
  obtain ⟨hch, cs, hbx, hr, hs⟩ := hp
  replace hr := GoTy.mono hr (H.movesB 0 rfl false)
  obtain rfl := VR_int hs
  obtain ⟨A2, c3, rfl, hl2⟩ := L1CurP_cells hr
  have H := H.wroteBox 0 rfl hch hbx
  have H := H.push (false, MP.val [(.slice A2 y.2.code.length c3)] y.2.code) hl2
  refine pRun_ok (tb := tab) (n := 9) tabOk 2 _ _ hf rfl rfl fun a hf => ?_
  refine wl_end ?_
  refine then_n ?_
  refine wp_ret (?_)
  obtain rfl := Option.some.inj hF
  refine ret_1 (fn := Try.f160) (r := .tmp 4) hf rfl (rv_tmp hf rfl) ?_
  exact ⟨_, rfl, H.chg, _, H.boxAt 0 rfl, (L1CurP_mk (x := y.2) (rep_endB (M := _) (i := 0) rfl (α := List By) (H.get 0 rfl))), mk_bool⟩

/- (*loop.example/g00897/spec.l1Cur).amplifiers -/
set_option maxHeartbeats 1000000 in
theorem spec_l1Cur_amplifiers_ok {fu : Nat} {w0 : World} {S : Nat → Prop} {b0 : Nat} {cs0 : List Value} {v1_ : Value} {c : L1CurP} {spans : Int} {r : List Amplifier × L1CurP} (hp0 : w0.heap[b0]? = some (.cells cs0.toArray 138 (0, 0))) (hr0 : GoTy.rep w0 S cs0 c) (hS0 : ¬ S b0) (h1 : VR w0 S v1_ spans) (hF : spec_l1Cur_amplifiers fu c spans = some r) :
    Calls Try.prog 135 [(.pointer (some ⟨b0, 0, none⟩)), v1_].toArray w0 fun e w' => ∃ v, e = .returned v ∧ (Chg w0 w' [b0] ∧ ∃ cs', w'.heap[b0]? = some (.cells cs'.toArray 138 (0, 0)) ∧ GoTy.rep w' (St ⟨w0, [b0]⟩ S [⟨b0, 138, cs'⟩] [] [] false) cs' r.2 ∧ VR w' (St ⟨w0, [b0]⟩ S [⟨b0, 138, cs'⟩] [] [] true) v r.1) := by
  obtain ⟨A, c2, rfl, hl⟩ := L1CurP_cells hr0
  obtain rfl := VR_int h1
  have H := Mem.startB S hp0
  have H := H.argB (by simpa using hS0) (p := MP.val [(.slice A c.code.length c2)] c.code) hl
  refine enter Try.func135 rfl rfl (nle rfl) rfl fun a hf => ?_
  rw [spec_l1Cur_amplifiers] at hF
  refine sq ?_
  refine reg ?_
  refine pRun_ok (tb := tab) (n := 36) tabOk 1 _ _ hf rfl rfl fun a hf => ?_
  refine wl_end ?_
  refine then_n ?_
  refine sq ?_
  refine reg ?_
  refine wl0 rfl (op_bslice hf H (.sh true) rfl 88 ([] : List Amplifier) [] rfl (fun w => by kernel_rfl) rfl (by decide) rfl trivial el0 (by decide) fun A2 a w hf H => ?_)
  refine pRun_ok (tb := tab) (n := 36) tabOk 1 _ _ hf rfl rfl fun a hf => ?_
  refine wl_end ?_
  refine then_n ?_
  refine sq ?_
  refine sq ?_
  refine reg ?_
  refine pRun_ok (tb := tab) (n := 36) tabOk 1 _ _ hf rfl rfl fun a hf => ?_
  refine wl_end ?_
  refine then_n ?_
  obtain ⟨out2, hB1, hF⟩ := bind_some hF
  have hf := hf.prune [0, 1, 5, 6] rfl
  have H := H.let [true] [true] [] [0]
  have hI : (fun (s : List Amplifier × Int × List By × Int × U64) (a : Act) (w : World) => match s with | (out', i, m, m2, m3) => ∃ (A3 : Option Addr) (c3 : Nat) (A4 : Option Addr) (c4 : Nat), Fr a 36 [(0, (.pointer (some ⟨b0, 0, none⟩))), (1, (.int .i64 spans)), (5, (.slice A3 out'.length c3)), (6, (.int .i64 i))] ∧ Mem ⟨w0, [b0]⟩ S [⟨b0, 138, [(.slice A4 m.length c4), (.int .i64 m2), (.int .u64 m3.n)]⟩] [⟨.sh true, 88, A3, c3, (out' : List Amplifier)⟩] [] [(false, MP.val [(.slice A4 m.length c4)] (m : List By))] w) (([] : List Amplifier), 0, c.code, c.at_, c.seed) a w := ⟨A2, 0, A, c2, hf, H⟩
  refine mid (fun a w => ∃ s : List Amplifier × Int × List By × Int × U64, out2 = s ∧ (fun (s : List Amplifier × Int × List By × Int × U64) (a : Act) (w : World) => match s with | (out', i, m, m2, m3) => ∃ (A3 : Option Addr) (c3 : Nat) (A4 : Option Addr) (c4 : Nat), Fr a 36 [(0, (.pointer (some ⟨b0, 0, none⟩))), (1, (.int .i64 spans)), (5, (.slice A3 out'.length c3)), (6, (.int .i64 i))] ∧ Mem ⟨w0, [b0]⟩ S [⟨b0, 138, [(.slice A4 m.length c4), (.int .i64 m2), (.int .u64 m3.n)]⟩] [⟨.sh true, 88, A3, c3, (out' : List Amplifier)⟩] [] [(false, MP.val [(.slice A4 m.length c4)] (m : List By))] w) s a w) ?_ ?_
  · refine wp_block ?_
    refine loop_rule (fun k (s : List Amplifier × Int × List By × Int × U64) => spec_l1Cur_amplifiers_L1 fu spans k s.1 s.2.1 s.2.2.1 s.2.2.2.1 s.2.2.2.2 = some out2) (fun (s : List Amplifier × Int × List By × Int × U64) (a : Act) (w : World) => match s with | (out', i, m, m2, m3) => ∃ (A3 : Option Addr) (c3 : Nat) (A4 : Option Addr) (c4 : Nat), Fr a 36 [(0, (.pointer (some ⟨b0, 0, none⟩))), (1, (.int .i64 spans)), (5, (.slice A3 out'.length c3)), (6, (.int .i64 i))] ∧ Mem ⟨w0, [b0]⟩ S [⟨b0, 138, [(.slice A4 m.length c4), (.int .i64 m2), (.int .u64 m3.n)]⟩] [⟨.sh true, 88, A3, c3, (out' : List Amplifier)⟩] [] [(false, MP.val [(.slice A4 m.length c4)] (m : List By))] w) (fun s h => by cases h) ?_ fu (([] : List Amplifier), 0, c.code, c.at_, c.seed) a w hB1 hI
    rintro fk ⟨out', i, m, m2, m3⟩ a w hR1 hI
    replace hR1 : spec_l1Cur_amplifiers_L1 fu spans (fk + 1) out' i m m2 m3 = some out2 := hR1
    rw [spec_l1Cur_amplifiers_L1] at hR1
    obtain ⟨A3, c3, A4, c4, hf, H⟩ := hI
    refine sq ?_
    refine sq ?_
    refine reg ?_
    refine pRun_ok (tb := tab) (n := 36) tabOk 3 _ _ hf rfl rfl fun a hf => ?_
    refine wl_end ?_
    refine then_n ?_
    refine (Bool.eq_false_or_eq_true (decide (i < spans))).elim (fun hc => ?_) (fun hc => ?_)
    · rw [if_pos hc] at hR1
      refine cd_t hf rfl hc ?_
      refine wp_skip ?_
      refine then_n ?_
      refine sq ?_
      refine wp_block ?_
      refine sq ?_
      refine reg ?_
      refine pRun_ok (tb := tab) (n := 36) tabOk 1 _ _ hf rfl rfl fun a hf => ?_
      obtain ⟨y, hy, hR1⟩ := bind_some hR1
      refine wl0 rfl (op_call hf TF.cl160 rfl (by decide) (spec_l1Cur_one_ok (S := St ⟨w0, [b0]⟩ S [⟨b0, 138, [(.slice A4 m.length c4), (.int .i64 m2), (.int .u64 m3.n)]⟩] [⟨.sh true, 88, A3, c3, (out' : List Amplifier)⟩] [] false) (H.boxAt 0 rfl) (L1CurP_mk (x := ({ code := m, at_ := m2, seed := m3 } : L1CurP)) (H.get 0 rfl)) (H.notSt 0 rfl _) mk_int hy) fun v w a hp hf => ?_)
      obtain ⟨hch, cs, hbx, hr, hs⟩ := hp
      replace hr := GoTy.mono hr (H.movesB 0 rfl false)
      obtain rfl := VR_bool hs
      obtain ⟨A5, c5, rfl, hl2⟩ := L1CurP_cells hr
      have H := H.wroteBox 0 rfl hch hbx
      have H := H.push (false, MP.val [(.slice A5 y.2.code.length c5)] y.2.code) hl2
      refine wl_end ?_
      refine then_n ?_
      refine (Bool.eq_false_or_eq_true (y.1)).elim (fun hc2 => ?_) (fun hc2 => ?_)
      · rw [if_pos hc2] at hR1
        refine cd_t hf rfl hc2 ?_
        refine sq ?_
        refine reg ?_
        refine pRun_ok (tb := tab) (n := 36) tabOk 1 _ _ hf rfl rfl fun a hf => ?_
        obtain ⟨y2, hy2, hR1⟩ := bind_some hR1
        refine wl0 rfl (op_call hf TF.cl150 rfl (by decide) (spec_l1Cur_amplifier_ok (S := St ⟨w0, [b0]⟩ S [⟨b0, 138, [(.slice A5 y.2.code.length c5), (.int .i64 y.2.at_), (.int .u64 y.2.seed.n)]⟩] [⟨.sh true, 88, A3, c3, (out' : List Amplifier)⟩] [] false) (H.boxAt 0 rfl) (L1CurP_mk (x := y.2) (H.get 0 rfl)) (H.notSt 0 rfl _) hy2) fun v2 w a hp2 hf => ?_)
        obtain ⟨hch2, cs2, hbx2, hr2, hs2⟩ := hp2
        replace hr2 := GoTy.mono hr2 (H.movesB 0 rfl false)
        obtain rfl := Amplifier_open hs2
        obtain ⟨A6, c6, rfl, hl3⟩ := L1CurP_cells hr2
        have H := H.wroteBox 0 rfl hch2 hbx2
        have H := H.push (false, MP.val [(.slice A6 y2.2.code.length c6)] y2.2.code) hl3
        refine wl0 rfl (op_alloc hf H TF.zv88 rfl (by decide) fun b' a w hf H => ?_)
        refine wl0 rfl (op_storeB hf H 0 TF.sz88 rfl rfl rfl rfl rfl rfl (nle rfl) fun w H => ?_)
        refine wl_end ?_
        refine then_n ?_
        refine sq ?_
        refine reg ?_
        refine pRun_ok (tb := tab) (n := 36) tabOk 2 _ _ hf rfl rfl fun a hf => ?_
        refine wl0 rfl (op_storeB hf H 0 TF.sz3 rfl rfl rfl rfl rfl rfl (nle rfl) fun w H => ?_)
        refine wl_end ?_
        refine then_n ?_
        refine reg ?_
        refine pRun_ok (tb := tab) (n := 36) tabOk 1 _ _ hf rfl rfl fun a hf => ?_
        refine wl0 rfl (op_q hf (rq_loadBN hf H TF.la88 0 rfl rfl rfl rfl) rfl (by decide) fun a hf => ?_)
        refine wl0 rfl (op_bslice hf H (.sh true) rfl 88 ([({ After := i, Gain := y2.1.Gain, Output := y2.1.Output, Noise := y2.1.Noise } : Amplifier)] : List Amplifier) [(.int .i64 i), (.int .i64 y2.1.Gain), (.int .i64 y2.1.Output), (.int .i64 y2.1.Noise)] rfl (fun w => by kernel_rfl) rfl (by decide) rfl trivial (el1 (y := ({ After := i, Gain := y2.1.Gain, Output := y2.1.Output, Noise := y2.1.Noise } : Amplifier)) (Amplifier_mk (x := ({ After := i, Gain := y2.1.Gain, Output := y2.1.Output, Noise := y2.1.Noise } : Amplifier)))) (by decide) fun A7 a w hf H => ?_)
        obtain ⟨l, hl, hR1⟩ := bind_some hR1
        refine wl0 rfl (op_appR hf H Try.underlying63 TF.ai88 rfl (by decide) 1 0 rfl rfl rfl rfl (.inr rfl) hl (by decide) fun A8 c7 a w hf H => ?_)
        refine pRun_ok (tb := tab) (n := 36) tabOk 1 _ _ hf rfl rfl fun a hf => ?_
        have hf := hf.prune [0, 1, 5, 6] rfl
        refine wl_end ?_
        refine blk_n ?_
        refine then_n ?_
        refine reg ?_
        refine pRun_ok (tb := tab) (n := 36) tabOk 3 _ _ hf rfl rfl fun a hf => ?_
        refine wl_end ?_
        have hf := hf.prune [0, 1, 5, 6] rfl
        have H := H.let [false, true] [false, true] [] [0]
        exact then_n ⟨(l, w64 (i + 1), y2.2.code, y2.2.at_, y2.2.seed), hR1, A8, c7, A6, c6, hf, H⟩
      · rw [if_neg (nt hc2)] at hR1
        refine cd_f hf rfl hc2 ?_
        refine wp_skip ?_
        refine blk_n ?_
        refine then_n ?_
        refine reg ?_
        refine pRun_ok (tb := tab) (n := 36) tabOk 3 _ _ hf rfl rfl fun a hf => ?_
        refine wl_end ?_
        have hf := hf.prune [0, 1, 5, 6] rfl
        have H := H.let [true] [true] [] [0]
        exact then_n ⟨(out', w64 (i + 1), y.2.code, y.2.at_, y.2.seed), hR1, A3, c3, A5, c5, hf, H⟩
    · rw [if_neg (nt hc)] at hR1
      refine cd_f hf rfl hc ?_
      refine wp_exit (then_x (then_x (blk_e (?_))))
      have hf := hf.prune [0, 1, 5, 6] rfl
      have H := H.let [true] [true] [] [0]
      exact ⟨(out', i, m, m2, m3), (Option.some.inj hR1).symm, A3, c3, A4, c4, hf, H⟩
  rintro a w ⟨⟨out3, i2, m4, m5, m6⟩, rfl, A9, c8, A10, c9, hf, H⟩
  dsimp only at hF
  refine then_n ?_
  refine sq ?_
  refine sq ?_
  refine reg ?_
  refine pRun_ok (tb := tab) (n := 36) tabOk 1 _ _ hf rfl rfl fun a hf => ?_
  obtain ⟨y3, hy3, hF⟩ := bind_some hF
  refine wl0 rfl (op_call hf TF.cl160 rfl (by decide) (spec_l1Cur_one_ok (S := St ⟨w0, [b0]⟩ S [⟨b0, 138, [(.slice A10 m4.length c9), (.int .i64 m5), (.int .u64 m6.n)]⟩] [⟨.sh true, 88, A9, c8, (out3 : List Amplifier)⟩] [] false) (H.boxAt 0 rfl) (L1CurP_mk (x := ({ code := m4, at_ := m5, seed := m6 } : L1CurP)) (H.get 0 rfl)) (H.notSt 0 rfl _) mk_int hy3) fun v3 w a hp3 hf => ?_)
  obtain ⟨hch3, cs3, hbx3, hr3, hs3⟩ := hp3
  replace hr3 := GoTy.mono hr3 (H.movesB 0 rfl false)
  obtain rfl := VR_bool hs3
  obtain ⟨A11, c10, rfl, hl4⟩ := L1CurP_cells hr3
  have H := H.wroteBox 0 rfl hch3 hbx3
  have H := H.push (false, MP.val [(.slice A11 y3.2.code.length c10)] y3.2.code) hl4
  refine wl_end ?_
  refine then_n ?_
  refine (Bool.eq_false_or_eq_true (y3.1)).elim (fun hc3 => ?_) (fun hc3 => ?_)
  · rw [if_pos hc3] at hF
    refine cd_t hf rfl hc3 ?_
    refine reg ?_
    refine pRun_ok (tb := tab) (n := 36) tabOk 4 _ _ hf rfl rfl fun a hf => ?_
    obtain ⟨y4, hy4, hF⟩ := bind_some hF
    refine wl0 rfl (op_call hf TF.cl134 rfl (by decide) (spec_l1Cur_pick_ok (S := St ⟨w0, [b0]⟩ S [⟨b0, 138, [(.slice A11 y3.2.code.length c10), (.int .i64 y3.2.at_), (.int .u64 y3.2.seed.n)]⟩] [⟨.sh true, 88, A9, c8, (out3 : List Amplifier)⟩] [] false) (H.boxAt 0 rfl) (L1CurP_mk (x := y3.2) (H.get 0 rfl)) (H.notSt 0 rfl _) mk_int hy4) fun v4 w a hp4 hf => ?_)
    obtain ⟨hch4, cs4, hbx4, hr4, hs4⟩ := hp4
    replace hr4 := GoTy.mono hr4 (H.movesB 0 rfl false)
    obtain rfl := VR_int hs4
    obtain ⟨A12, c11, rfl, hl5⟩ := L1CurP_cells hr4
    have H := H.wroteBox 0 rfl hch4 hbx4
    have H := H.push (false, MP.val [(.slice A12 y4.2.code.length c11)] y4.2.code) hl5
    refine pRun_ok (tb := tab) (n := 36) tabOk 1 _ _ hf rfl rfl fun a hf => ?_
    refine wl0 rfl (op_q hf (rq_build hf (cs := [(.int .i64 (w64 (y4.1 - 1))), (.int .i64 0), (.int .i64 0), (.int .i64 0)]) rfl (fun w => by kernel_rfl)) rfl (by decide) fun a hf => ?_)
    refine wl0 rfl (op_bslice hf H (.sh true) rfl 88 ([({ After := w64 (y4.1 - 1), Gain := 0, Output := 0, Noise := 0 } : Amplifier)] : List Amplifier) [(.int .i64 (w64 (y4.1 - 1))), (.int .i64 0), (.int .i64 0), (.int .i64 0)] rfl (fun w => by kernel_rfl) rfl (by decide) rfl trivial (el1 (y := ({ After := w64 (y4.1 - 1), Gain := 0, Output := 0, Noise := 0 } : Amplifier)) (Amplifier_mk (x := ({ After := w64 (y4.1 - 1), Gain := 0, Output := 0, Noise := 0 } : Amplifier)))) (by decide) fun A13 a w hf H => ?_)
    obtain ⟨l2, hl2, hF⟩ := bind_some hF
    refine wl0 rfl (op_appR hf H Try.underlying63 TF.ai88 rfl (by decide) 1 0 rfl rfl rfl rfl (.inr rfl) hl2 (by decide) fun A14 c12 a w hf H => ?_)
    refine pRun_ok (tb := tab) (n := 36) tabOk 1 _ _ hf rfl rfl fun a hf => ?_
    have hf := hf.prune [5] rfl
    refine wl_end ?_
    refine then_n ?_
    refine sq ?_
    refine reg ?_
    refine pRun_ok (tb := tab) (n := 36) tabOk 2 _ _ hf rfl rfl fun a hf => ?_
    refine wl_end ?_
    refine then_n ?_
    refine wp_ret (?_)
    have H := H.freeze 1 rfl
    obtain rfl := Option.some.inj hF
    refine ret_1 (fn := Try.f135) (r := .tmp 4) hf rfl (rv_tmp hf rfl) ?_
    exact ⟨_, rfl, H.chg, _, H.boxAt 0 rfl, (L1CurP_mk (x := y4.2) (rep_endB (M := _) (i := 0) rfl (α := List By) (H.get 1 rfl))), (mk_list (rep_endB (M := _) (i := 0) rfl (α := List Amplifier) (H.get 0 rfl)))⟩
  · rw [if_neg (nt hc3)] at hF
    refine cd_f hf rfl hc3 ?_
    refine wp_skip ?_
    refine then_n ?_
    refine sq ?_
    refine reg ?_
    refine pRun_ok (tb := tab) (n := 36) tabOk 2 _ _ hf rfl rfl fun a hf => ?_
    refine wl_end ?_
    refine then_n ?_
    refine wp_ret (?_)
    have H := H.freeze 0 rfl
    obtain rfl := Option.some.inj hF
    refine ret_1 (fn := Try.f135) (r := .tmp 4) hf rfl (rv_tmp hf rfl) ?_
    exact ⟨_, rfl, H.chg, _, H.boxAt 0 rfl, (L1CurP_mk (x := y3.2) (rep_endB (M := _) (i := 0) rfl (α := List By) (H.get 1 rfl))), (mk_list (rep_endB (M := _) (i := 0) rfl (α := List Amplifier) (H.get 0 rfl)))⟩

/- loop.example/g00897/spec.DrawPowerProfile -/
set_option maxHeartbeats 1000000 in
theorem spec_DrawPowerProfile_ok {fu : Nat} {w0 : World} {S : Nat → Prop} {v0_ : Value} {code : List By} {r : List Span × List Amplifier × Int} (h0 : VR w0 S v0_ code) (hF : spec_DrawPowerProfile fu code = some r) :
    Calls Try.prog 151 [v0_].toArray w0 fun e w' => ∃ v, e = .returned v ∧ (Below w0.heap.size w0 w' ∧ ∃ u0 u1 u2, v = .tuple #[u0, u1, u2] ∧ VR w' (St ⟨w0, []⟩ S [] [] [] true) u0 r.1 ∧ VR w' (St ⟨w0, []⟩ S [] [] [] true) u1 r.2.1 ∧ VR w' (St ⟨w0, []⟩ S [] [] [] true) u2 r.2.2) := by
  obtain ⟨A, c, rfl, hl⟩ := VR_list h0
  have H := Mem.start ⟨w0, []⟩ S
  have H := H.pushArg (MP.val [(.slice A code.length c)] code) hl
  refine enter Try.func151 rfl rfl (nle rfl) rfl fun a hf => ?_
  rw [spec_DrawPowerProfile] at hF
  refine sq ?_
  refine reg ?_
  refine pRun_ok (tb := tab) (n := 19) tabOk 3 _ _ hf rfl rfl fun a hf => ?_
  refine wl_end ?_
  refine then_n ?_
  refine sq ?_
  refine reg ?_
  refine pRun_ok (tb := tab) (n := 19) tabOk 1 _ _ hf rfl rfl fun a hf => ?_
  refine wl0 rfl (op_q hf (rq_build hf (cs := [(.slice A code.length c), (.int .i64 0), (.int .u64 0)]) rfl (fun w => by kernel_rfl)) rfl (by decide) fun a hf => ?_)
  refine wl0 rfl (op_box hf H rfl rfl (by decide) fun b' a w hf H => ?_)
  refine pRun_ok (tb := tab) (n := 19) tabOk 1 _ _ hf rfl rfl fun a hf => ?_
  refine wl_end ?_
  refine then_n ?_
  refine sq ?_
  refine reg ?_
  refine pRun_ok (tb := tab) (n := 19) tabOk 1 _ _ hf rfl rfl fun a hf => ?_
  obtain ⟨y, hy, hF⟩ := bind_some hF
  refine wl0 rfl (op_call hf TF.cl149 rfl (by decide) (spec_l1Cur_line_ok (S := St ⟨w0, []⟩ S [⟨b', 138, [(.slice A code.length c), (.int .i64 0), (.int .u64 0)]⟩] [] [] false) (H.boxAt 0 rfl) (L1CurP_mk (x := ({ code := code, at_ := 0, seed := (⟨0⟩ : U64) } : L1CurP)) (H.get 0 rfl)) (H.notSt 0 rfl _) hy) fun v w a hp hf => ?_)
  obtain ⟨hch, cs, hbx, hr, hs⟩ := hp
  replace hr := GoTy.mono hr (H.movesB 0 rfl false)
  obtain ⟨A2, c2, rfl, hl2⟩ := VR_list hs
  replace hl2 := GoTy.mono (α := List Span) hl2 (H.movesB (w' := w) 0 rfl true)
  obtain ⟨A3, c3, rfl, hl3⟩ := L1CurP_cells hr
  have H := H.wroteBox 0 rfl hch hbx
  have H := H.push (true, MP.val [(.slice A2 y.1.length c2)] y.1) hl2
  have H := H.push (false, MP.val [(.slice A3 y.2.code.length c3)] y.2.code) hl3
  refine pRun_ok (tb := tab) (n := 19) tabOk 1 _ _ hf rfl rfl fun a hf => ?_
  refine wl_end ?_
  refine then_n ?_
  refine sq ?_
  refine reg ?_
  refine pRun_ok (tb := tab) (n := 19) tabOk 4 _ _ hf rfl rfl fun a hf => ?_
  obtain ⟨y2, hy2, hF⟩ := bind_some hF
  refine wl0 rfl (op_call hf TF.cl135 rfl (by decide) (spec_l1Cur_amplifiers_ok (S := St ⟨w0, []⟩ S [⟨b', 138, [(.slice A3 y.2.code.length c3), (.int .i64 y.2.at_), (.int .u64 y.2.seed.n)]⟩] [] [] false) (H.boxAt 0 rfl) (L1CurP_mk (x := y.2) (H.get 0 rfl)) (H.notSt 0 rfl _) mk_int hy2) fun v2 w a hp2 hf => ?_)
  obtain ⟨hch2, cs2, hbx2, hr2, hs2⟩ := hp2
  replace hr2 := GoTy.mono hr2 (H.movesB 0 rfl false)
  obtain ⟨A4, c4, rfl, hl4⟩ := VR_list hs2
  replace hl4 := GoTy.mono (α := List Amplifier) hl4 (H.movesB (w' := w) 0 rfl true)
  obtain ⟨A5, c5, rfl, hl5⟩ := L1CurP_cells hr2
  have H := H.wroteBox 0 rfl hch2 hbx2
  have H := H.push (true, MP.val [(.slice A4 y2.1.length c4)] y2.1) hl4
  have H := H.push (false, MP.val [(.slice A5 y2.2.code.length c5)] y2.2.code) hl5
  refine pRun_ok (tb := tab) (n := 19) tabOk 1 _ _ hf rfl rfl fun a hf => ?_
  obtain ⟨y3, hy3, hF⟩ := bind_some hF
  refine wl0 rfl (op_call hf TF.cl136 rfl (by decide) (spec_l1Cur_level_ok (S := St ⟨w0, []⟩ S [⟨b', 138, [(.slice A5 y2.2.code.length c5), (.int .i64 y2.2.at_), (.int .u64 y2.2.seed.n)]⟩] [] [] false) (H.boxAt 0 rfl) (L1CurP_mk (x := y2.2) (H.get 0 rfl)) (H.notSt 0 rfl _) hy3) fun v3 w a hp3 hf => ?_)
  obtain ⟨hch3, cs3, hbx3, hr3, hs3⟩ := hp3
  replace hr3 := GoTy.mono hr3 (H.movesB 0 rfl false)
  obtain rfl := VR_int hs3
  obtain ⟨A6, c6, rfl, hl6⟩ := L1CurP_cells hr3
  have H := H.wroteBox 0 rfl hch3 hbx3
  have H := H.push (false, MP.val [(.slice A6 y3.2.code.length c6)] y3.2.code) hl6
  refine pRun_ok (tb := tab) (n := 19) tabOk 3 _ _ hf rfl rfl fun a hf => ?_
  have hf := hf.prune [2, 3, 4] rfl
  refine wl_end ?_
  refine then_n ?_
  refine wp_ret (?_)
  obtain rfl := Option.some.inj hF
  refine ret_3 (fn := Try.f151) (r := .tmp 2) (s := .tmp 3) (t := .tmp 4) hf rfl (rv_tmp hf rfl) (rv_tmp hf rfl) (rv_tmp hf rfl) ?_
  exact ⟨_, rfl, H.bel, _, _, _, rfl, (mk_list (rep_end (α := List Span) (H.get 4 rfl))), (mk_list (rep_end (α := List Amplifier) (H.get 2 rfl))), mk_int⟩

/- loop.example/g00897/spec.DrawPowerMargin -/
set_option maxHeartbeats 1000000 in
theorem spec_DrawPowerMargin_ok {fu : Nat} {w0 : World} {S : Nat → Prop} {v0_ : Value} {code : List By} {r : List Span × List Amplifier × Int × Int} (h0 : VR w0 S v0_ code) (hF : spec_DrawPowerMargin fu code = some r) :
    Calls Try.prog 96 [v0_].toArray w0 fun e w' => ∃ v, e = .returned v ∧ (Below w0.heap.size w0 w' ∧ ∃ u0 u1 u2 u3, v = .tuple #[u0, u1, u2, u3] ∧ VR w' (St ⟨w0, []⟩ S [] [] [] true) u0 r.1 ∧ VR w' (St ⟨w0, []⟩ S [] [] [] true) u1 r.2.1 ∧ VR w' (St ⟨w0, []⟩ S [] [] [] true) u2 r.2.2.1 ∧ VR w' (St ⟨w0, []⟩ S [] [] [] true) u3 r.2.2.2) := by
  obtain ⟨A, c, rfl, hl⟩ := VR_list h0
  have H := Mem.start ⟨w0, []⟩ S
  have H := H.pushArg (MP.val [(.slice A code.length c)] code) hl
  refine enter Try.func96 rfl rfl (nle rfl) rfl fun a hf => ?_
  rw [spec_DrawPowerMargin] at hF
  refine sq ?_
  refine reg ?_
  refine pRun_ok (tb := tab) (n := 24) tabOk 4 _ _ hf rfl rfl fun a hf => ?_
  refine wl_end ?_
  refine then_n ?_
  refine sq ?_
  refine reg ?_
  refine pRun_ok (tb := tab) (n := 24) tabOk 1 _ _ hf rfl rfl fun a hf => ?_
  refine wl0 rfl (op_q hf (rq_build hf (cs := [(.slice A code.length c), (.int .i64 0), (.int .u64 0)]) rfl (fun w => by kernel_rfl)) rfl (by decide) fun a hf => ?_)
  refine wl0 rfl (op_box hf H rfl rfl (by decide) fun b' a w hf H => ?_)
  refine pRun_ok (tb := tab) (n := 24) tabOk 1 _ _ hf rfl rfl fun a hf => ?_
  refine wl_end ?_
  refine then_n ?_
  refine sq ?_
  refine reg ?_
  refine pRun_ok (tb := tab) (n := 24) tabOk 1 _ _ hf rfl rfl fun a hf => ?_
  obtain ⟨y, hy, hF⟩ := bind_some hF
  refine wl0 rfl (op_call hf TF.cl151 rfl (by decide) (spec_DrawPowerProfile_ok (S := fun _ => True) (mk_list (rep_true (α := List By) (H.get 0 rfl))) hy) fun v w a hp hf => ?_)
  obtain ⟨hb, v2, v3, v4, rfl, hp2, hp3, hp4⟩ := hp
  obtain ⟨A2, c2, rfl, hl2⟩ := VR_list hp2
  replace hl2 := H.resF (f := MP.val [(.slice A2 y.1.length c2)] y.1) hl2
  obtain ⟨A3, c3, rfl, hl3⟩ := VR_list hp3
  replace hl3 := H.resF (f := MP.val [(.slice A3 y.2.1.length c3)] y.2.1) hl3
  obtain rfl := VR_int hp4
  have H := H.keep hb
  have H := H.push (true, MP.val [(.slice A2 y.1.length c2)] y.1) hl2
  have H := H.push (true, MP.val [(.slice A3 y.2.1.length c3)] y.2.1) hl3
  refine pRun_ok (tb := tab) (n := 24) tabOk 7 _ _ hf rfl rfl fun a hf => ?_
  have hf := hf.prune [6, 7, 8, 9] rfl
  refine wl_end ?_
  refine then_n ?_
  refine sq ?_
  refine reg ?_
  refine pRun_ok (tb := tab) (n := 24) tabOk 4 _ _ hf rfl rfl fun a hf => ?_
  obtain ⟨y2, hy2, hF⟩ := bind_some hF
  refine wl0 rfl (op_call hf TF.cl136 rfl (by decide) (spec_l1Cur_level_ok (S := St ⟨w0, []⟩ S [⟨b', 138, [(.slice A code.length c), (.int .i64 0), (.int .u64 0)]⟩] [] [] false) (H.boxAt 0 rfl) (L1CurP_mk (x := ({ code := code, at_ := 0, seed := (⟨0⟩ : U64) } : L1CurP)) (H.get 2 rfl)) (H.notSt 0 rfl _) hy2) fun v5 w a hp5 hf => ?_)
  obtain ⟨hch, cs, hbx, hr, hs⟩ := hp5
  replace hr := GoTy.mono hr (H.movesB 0 rfl false)
  obtain rfl := VR_int hs
  obtain ⟨A4, c4, rfl, hl4⟩ := L1CurP_cells hr
  have H := H.wroteBox 0 rfl hch hbx
  have H := H.push (false, MP.val [(.slice A4 y2.2.code.length c4)] y2.2.code) hl4
  refine pRun_ok (tb := tab) (n := 24) tabOk 4 _ _ hf rfl rfl fun a hf => ?_
  refine wl_end ?_
  refine then_n ?_
  refine wp_ret (?_)
  obtain rfl := Option.some.inj hF
  refine ret_4 (fn := Try.f96) (r := .tmp 2) (s := .tmp 3) (t := .tmp 4) (x3 := .tmp 5) hf rfl (rv_tmp hf rfl) (rv_tmp hf rfl) (rv_tmp hf rfl) (rv_tmp hf rfl) ?_
  exact ⟨_, rfl, H.bel, _, _, _, _, rfl, (mk_list (rep_end (α := List Span) (H.get 2 rfl))), (mk_list (rep_end (α := List Amplifier) (H.get 1 rfl))), mk_int, mk_int⟩

/- loop.example/g00897/impl.PowerMargin -/
set_option maxHeartbeats 1000000 in
theorem impl_PowerMargin_ok {fu : Nat} {w0 : World} {S : Nat → Prop} {v0_ : Value} {v1_ : Value} {v2_ : Value} {v3_ : Value} {line : List Span} {list : List Amplifier} {launch : Int} {need : Int} {r : Int × Bool} (h0 : VR w0 S v0_ line) (h1 : VR w0 S v1_ list) (h2 : VR w0 S v2_ launch) (h3 : VR w0 S v3_ need) (hF : impl_PowerMargin fu line list launch need = some r) :
    Calls Try.prog 90 [v0_, v1_, v2_, v3_].toArray w0 fun e w' => ∃ v, e = .returned v ∧ (Below w0.heap.size w0 w' ∧ ∃ u0 u1, v = .tuple #[u0, u1] ∧ VR w' (St ⟨w0, []⟩ S [] [] [] true) u0 r.1 ∧ VR w' (St ⟨w0, []⟩ S [] [] [] true) u1 r.2) := by
  obtain ⟨A, c, rfl, hl⟩ := VR_list h0
  obtain ⟨A2, c2, rfl, hl2⟩ := VR_list h1
  obtain rfl := VR_int h2
  obtain rfl := VR_int h3
  have H := Mem.start ⟨w0, []⟩ S
  have H := H.pushArg (MP.val [(.slice A line.length c)] line) hl
  have H := H.pushArg (MP.val [(.slice A2 list.length c2)] list) hl2
  refine enter Try.func90 rfl rfl (nle rfl) rfl fun a hf => ?_
  rw [impl_PowerMargin] at hF
  refine sq ?_
  refine reg ?_
  refine pRun_ok (tb := tab) (n := 48) tabOk 2 _ _ hf rfl rfl fun a hf => ?_
  refine wl_end ?_
  refine then_n ?_
  refine sq ?_
  refine reg ?_
  refine pRun_ok (tb := tab) (n := 48) tabOk 3 _ _ hf rfl rfl fun a hf => ?_
  obtain ⟨y, hy, hF⟩ := bind_some hF
  refine wl0 rfl (op_call hf TF.cl146 rfl (by decide) (impl_profile_ok (S := fun _ => True) (mk_list (rep_true (α := List Span) (H.get 1 rfl))) (mk_list (rep_true (α := List Amplifier) (H.get 0 rfl))) mk_int hy) fun v w a hp hf => ?_)
  obtain ⟨hb, F, F2, v2, v3, v4, rfl, hp2, hp3, hp4, hN⟩ := hp
  obtain ⟨A3, c3, rfl, hl3⟩ := VO_list hp2
  obtain ⟨A4, c4, rfl, hl4⟩ := VO_list hp3
  obtain rfl := VR_bool hp4
  have H := H.addOwn hb (X := [(⟨F, MP.own F [(.slice A3 y.1.length c3)] (y.1 : List Int)⟩ : DI), (⟨F2, MP.own F2 [(.slice A4 y.2.1.length c4)] (y.2.1 : List Int)⟩ : DI)]) (by simpa using hN.1) (ps1 hl3 (ps1 hl4 ps0)) (by simpa using hN.2)
  have H := H.lend 0 rfl
  have H := H.lend 1 rfl
  refine pRun_ok (tb := tab) (n := 48) tabOk 7 _ _ hf rfl rfl fun a hf => ?_
  have hf := hf.prune [3, 11, 12] rfl
  refine wl_end ?_
  refine then_n ?_
  refine sq ?_
  refine sq ?_
  obtain ⟨c5, hGc5, hF⟩ := bind_some hF
  refine mid (fun a w => Fr a 48 [(3, (.int .i64 need)), (11, (.slice A4 y.2.1.length c4)), (39, (.bool c5))] ∧ Mem ⟨w0, []⟩ S [] [] [⟨F2, MP.own F2 [(.slice A4 y.2.1.length c4)] (y.2.1 : List Int)⟩] [(true, MP.val [(.slice A4 y.2.1.length c4)] (y.2.1 : List Int))] w) ?_ ?_
  · refine reg ?_
    refine pRun_ok (tb := tab) (n := 48) tabOk 3 _ _ hf rfl rfl fun a hf => ?_
    refine (Bool.eq_false_or_eq_true (!y.2.2)).elim (fun hc => ?_) (fun hc => ?_)
    · rw [if_pos hc] at hGc5
      have hf := hf.lit 23 rfl hc
      refine pRun_ok (tb := tab) (n := 48) tabOk 16 _ _ hf rfl rfl fun a hf => ?_
      obtain rfl := Option.some.inj hGc5
      have hf := hf.prune [3, 11, 39] rfl
      have H := H.let [] [] [false, true] [0]
      exact wl_end ⟨hf, H⟩
    · rw [if_neg (nt hc)] at hGc5
      have hf := hf.lit 23 rfl hc
      refine pRun_ok (tb := tab) (n := 48) tabOk 1 _ _ hf rfl rfl fun a hf => ?_
      obtain ⟨y2, hy2, hGc5⟩ := bind_some hGc5
      refine wlg hf rfl rfl rfl (op_call hf TF.cl107 rfl (by decide) (impl_isLevel_ok (S := fun _ => True) mk_int hy2) fun v5 w a hp5 hf => ?_)
      obtain ⟨hb2, hp5⟩ := hp5
      obtain rfl := VR_bool hp5
      have H := H.keep hb2
      refine pRun_ok (tb := tab) (n := 48) tabOk 3 _ _ hf rfl rfl fun a hf => ?_
      refine (Bool.eq_false_or_eq_true (!y2)).elim (fun hc2 => ?_) (fun hc2 => ?_)
      · rw [if_pos hc2] at hGc5
        have hf := hf.lit 28 rfl hc2
        refine pRun_ok (tb := tab) (n := 48) tabOk 11 _ _ hf rfl rfl fun a hf => ?_
        obtain rfl := Option.some.inj hGc5
        have hf := hf.prune [3, 11, 39] rfl
        have H := H.let [] [] [false, true] [0]
        exact wl_end ⟨hf, H⟩
      · rw [if_neg (nt hc2)] at hGc5
        have hf := hf.lit 28 rfl hc2
        refine pRun_ok (tb := tab) (n := 48) tabOk 4 _ _ hf rfl rfl fun a hf => ?_
        obtain ⟨e, he, hGc5⟩ := bind_some hGc5
        refine wlg hf rfl rfl rfl (op_iaddr hf H Try.underlying35 TF.sz3 0 rfl rfl rfl he (by decide) fun p o cs a hf hr H => ?_)
        obtain rfl := hr
        refine wlg hf rfl rfl rfl (op_q hf (rq_loadI hf H TF.ls3 0 0 rfl rfl rfl) rfl (by decide) fun a hf => ?_)
        refine pRun_ok (tb := tab) (n := 48) tabOk 2 _ _ hf rfl rfl fun a hf => ?_
        obtain ⟨y3, hy3, hGc5⟩ := bind_some hGc5
        refine wlg hf rfl rfl rfl (op_call hf TF.cl107 rfl (by decide) (impl_isLevel_ok (S := fun _ => True) mk_int hy3) fun v6 w a hp6 hf => ?_)
        obtain ⟨hb3, hp6⟩ := hp6
        obtain rfl := VR_bool hp6
        have H := H.keep hb3
        refine pRun_ok (tb := tab) (n := 48) tabOk 2 _ _ hf rfl rfl fun a hf => ?_
        obtain rfl := Option.some.inj hGc5
        have hf := hf.prune [3, 11, 39] rfl
        have H := H.let [] [] [false, true] [1]
        exact wl_end ⟨hf, H⟩
  rintro a w ⟨hf, H⟩
  refine then_n ?_
  refine (Bool.eq_false_or_eq_true (c5)).elim (fun hc3 => ?_) (fun hc3 => ?_)
  · rw [if_pos hc3] at hF
    refine cd_t hf rfl hc3 ?_
    refine sq ?_
    refine reg ?_
    refine pRun_ok (tb := tab) (n := 48) tabOk 2 _ _ hf rfl rfl fun a hf => ?_
    refine wl_end ?_
    refine then_n ?_
    refine wp_ret (then_r (?_))
    obtain rfl := Option.some.inj hF
    refine ret_2 (fn := Try.f90) (r := .tmp 8) (s := .tmp 9) hf rfl (rv_tmp hf rfl) (rv_tmp hf rfl) ?_
    exact ⟨_, rfl, H.bel, _, _, rfl, mk_int, mk_bool⟩
  · rw [if_neg (nt hc3)] at hF
    refine cd_f hf rfl hc3 ?_
    refine wp_skip ?_
    refine then_n ?_
    refine sq ?_
    refine reg ?_
    refine pRun_ok (tb := tab) (n := 48) tabOk 4 _ _ hf rfl rfl fun a hf => ?_
    obtain ⟨e2, he2, hF⟩ := bind_some hF
    refine wl0 rfl (op_iaddr hf H Try.underlying35 TF.sz3 0 rfl rfl rfl he2 (by decide) fun p2 o2 cs2 a hf hr2 H => ?_)
    obtain rfl := hr2
    refine wl0 rfl (op_q hf (rq_loadI hf H TF.ls3 0 0 rfl rfl rfl) rfl (by decide) fun a hf => ?_)
    refine pRun_ok (tb := tab) (n := 48) tabOk 4 _ _ hf rfl rfl fun a hf => ?_
    refine wl_end ?_
    refine then_n ?_
    refine wp_ret (?_)
    obtain rfl := Option.some.inj hF
    refine ret_2 (fn := Try.f90) (r := .tmp 8) (s := .tmp 9) hf rfl (rv_tmp hf rfl) (rv_tmp hf rfl) ?_
    exact ⟨_, rfl, H.bel, _, _, rfl, mk_int, mk_bool⟩

/- loop.example/g00897/spec.l22List -/
set_option maxHeartbeats 1000000 in
theorem spec_l22List_ok {fu : Nat} {w0 : World} {S : Nat → Prop} {v0_ : Value} {v1_ : Value} {list : List Amplifier} {spans : Int} {r : Bool} (h0 : VR w0 S v0_ list) (h1 : VR w0 S v1_ spans) (hF : spec_l22List fu list spans = some r) :
    Calls Try.prog 120 [v0_, v1_].toArray w0 fun e w' => ∃ v, e = .returned v ∧ (Below w0.heap.size w0 w' ∧ VR w' (St ⟨w0, []⟩ S [] [] [] true) v r) := by
  obtain ⟨A, c, rfl, hl⟩ := VR_list h0
  obtain rfl := VR_int h1
  have H := Mem.start ⟨w0, []⟩ S
  have H := H.pushArg (MP.val [(.slice A list.length c)] list) hl
  refine enter Try.func120 rfl rfl (nle rfl) rfl fun a hf => ?_
  rw [spec_l22List] at hF
  refine sq ?_
  refine reg ?_
  refine pRun_ok (tb := tab) (n := 47) tabOk 1 _ _ hf rfl rfl fun a hf => ?_
  refine wl_end ?_
  refine then_n ?_
  refine sq ?_
  refine sq ?_
  refine reg ?_
  refine pRun_ok (tb := tab) (n := 47) tabOk 1 _ _ hf rfl rfl fun a hf => ?_
  refine wl_end ?_
  refine then_n ?_
  obtain ⟨out', hB1, hF⟩ := bind_some hF
  have hf := hf.prune [0, 1, 5] rfl
  have H := H.let [] [] [] [0]
  have hI : (fun (s : Int) (a : Act) (w : World) => match s with | i => Fr a 47 [(0, (.slice A list.length c)), (1, (.int .i64 spans)), (5, (.int .i64 i))] ∧ Mem ⟨w0, []⟩ S [] [] [] [(false, MP.val [(.slice A list.length c)] (list : List Amplifier))] w) 0 a w0 := ⟨hf, H⟩
  refine mid (fun a w => ∃ s : Int, out' = Out.next s ∧ (fun (s : Int) (a : Act) (w : World) => match s with | i => Fr a 47 [(0, (.slice A list.length c)), (1, (.int .i64 spans)), (5, (.int .i64 i))] ∧ Mem ⟨w0, []⟩ S [] [] [] [(false, MP.val [(.slice A list.length c)] (list : List Amplifier))] w) s a w) ?_ ?_
  · refine wp_block ?_
    refine loop_rule (fun k (s : Int) => spec_l22List_L1 fu list spans k s = some out') (fun (s : Int) (a : Act) (w : World) => match s with | i => Fr a 47 [(0, (.slice A list.length c)), (1, (.int .i64 spans)), (5, (.int .i64 i))] ∧ Mem ⟨w0, []⟩ S [] [] [] [(false, MP.val [(.slice A list.length c)] (list : List Amplifier))] w) (fun s h => by cases h) ?_ fu 0 a w0 hB1 hI
    rintro fk i a w hR1 hI
    replace hR1 : spec_l22List_L1 fu list spans (fk + 1) i = some out' := hR1
    rw [spec_l22List_L1] at hR1
    obtain ⟨hf, H⟩ := hI
    refine sq ?_
    refine sq ?_
    refine reg ?_
    refine pRun_ok (tb := tab) (n := 47) tabOk 4 _ _ hf rfl rfl fun a hf => ?_
    refine wl_end ?_
    refine then_n ?_
    refine (Bool.eq_false_or_eq_true (decide (i < (list.length : Int)))).elim (fun hc => ?_) (fun hc => ?_)
    · rw [if_pos hc] at hR1
      refine cd_t hf rfl hc ?_
      refine wp_skip ?_
      refine then_n ?_
      refine sq ?_
      refine wp_block ?_
      refine sq ?_
      refine drawn [] (bs := [false, false, false, false, false, false, false, false, false, false, false, false, false, false, false, false, false, false, false, false, false, false, false, false, false, false, false, false, false, false, false, false, false, false, false]) (fuel := 35) (Checked.mixed Try.checked) rfl rfl fun w hb => ?_
      have H := H.keep hb
      refine tkP (i := 0) (bs' := [true, false, false, false, false, false, false, false, false, false, false, false, false, false, false, false, false, false, false, false, false, false, false, false, false, false, false, false, false, false, false, false, false, false, false]) rfl rfl rfl (by decide) hf (by kernel_rfl) (fun _ => trivial) (fun w => pOp_ok (tb := tab) tabOk hf rfl) rfl fun a hf => ?_
      refine tkP (i := 1) (bs' := [true, true, false, false, false, false, false, false, false, false, false, false, false, false, false, false, false, false, false, false, false, false, false, false, false, false, false, false, false, false, false, false, false, false, false]) rfl rfl rfl (by decide) hf (by kernel_rfl) (fun _ => trivial) (fun w => pOp_ok (tb := tab) tabOk hf rfl) rfl fun a hf => ?_
      obtain ⟨e, he, hR1⟩ := bind_some hR1
      obtain ⟨p, o, cs, hx, hr, H⟩ := pre_iaddr H Try.underlying63 TF.sz88 0 rfl he
      refine tkP (i := 2) (bs' := [true, true, true, false, false, false, false, false, false, false, false, false, false, false, false, false, false, false, false, false, false, false, false, false, false, false, false, false, false, false, false, false, false, false, false]) rfl rfl rfl (by decide) hf (by kernel_rfl) (fun _ => trivial) (fun w => rq_iaddrE hf rfl rfl rfl hx w) rfl fun a hf => ?_
      obtain rfl := Amplifier_cells hr
      refine str (fun w => Mem ⟨w0, []⟩ S [] [] [] [(false, MP.cells ⟨p, o, none⟩ [(.int .i64 e.After), (.int .i64 e.Gain), (.int .i64 e.Output), (.int .i64 e.Noise)]), (false, MP.val [(.slice A list.length c)] (list : List Amplifier))] w) (fun w H => trivial) ?_
      have hS : Mem ⟨w0, []⟩ S [] [] [] [(false, MP.cells ⟨p, o, none⟩ [(.int .i64 e.After), (.int .i64 e.Gain), (.int .i64 e.Output), (.int .i64 e.Noise)]), (false, MP.val [(.slice A list.length c)] (list : List Amplifier))] w := H.let [] [] [] [0, 1]
      refine tkS (i := 3) (bs' := [true, true, true, true, false, false, false, false, false, false, false, false, false, false, false, false, false, false, false, false, false, false, false, false, false, false, false, false, false, false, false, false, false, false, false]) [] rfl rfl rfl (by decide) hf (by kernel_rfl) (by kernel_rfl) hS (fun w H => rq_loadIN hf H TF.la88 0 0 rfl rfl rfl rfl) rfl fun a hf => ?_
      obtain ⟨y, hy, hR1⟩ := bind_some hR1
      refine on1 (i := 4) (bs' := [true, true, true, true, true, false, false, false, false, false, false, false, false, false, false, false, false, false, false, false, false, false, false, false, false, false, false, false, false, false, false, false, false, false, false]) (by kernel_rfl) rfl rfl rfl (op_call hf TF.cl139 rfl (by decide) (spec_l22Kind_ok (S := fun _ => True) Amplifier_mkv hy) fun v w a hp hf => ?_)
      obtain ⟨hb, hp⟩ := hp
      obtain rfl := VR_bool hp
      have H := H.keep hb
      have hS : Mem ⟨w0, []⟩ S [] [] [] [(false, MP.cells ⟨p, o, none⟩ [(.int .i64 e.After), (.int .i64 e.Gain), (.int .i64 e.Output), (.int .i64 e.Noise)]), (false, MP.val [(.slice A list.length c)] (list : List Amplifier))] w := H.let [] [] [] [0, 1]
      refine ⟨fun _ => hS, ?_⟩
      refine tkP (i := 5) (bs' := [true, true, true, true, true, true, false, false, false, false, false, false, false, false, false, false, false, false, false, false, false, false, false, false, false, false, false, false, false, false, false, false, false, false, false]) rfl rfl rfl (by decide) hf (by kernel_rfl) (fun _ => hS) (fun w => pOp_ok (tb := tab) tabOk hf rfl) rfl fun a hf => ?_
      refine tkP (i := 6) (bs' := [true, true, true, true, true, true, true, false, false, false, false, false, false, false, false, false, false, false, false, false, false, false, false, false, false, false, false, false, false, false, false, false, false, false, false]) rfl rfl rfl (by decide) hf (by kernel_rfl) (fun _ => hS) (fun w => pOp_ok (tb := tab) tabOk hf rfl) rfl fun a hf => ?_
      refine (Bool.eq_false_or_eq_true (!y)).elim (fun hc2 => ?_) (fun hc2 => ?_)
      · rw [if_pos hc2] at hR1
        have hf := hf.lit 18 rfl hc2
        refine tkU (i := 7) (bs' := [true, true, true, true, true, true, true, true, false, false, false, false, false, false, false, false, false, false, false, false, false, false, false, false, false, false, false, false, false, false, false, false, false, false, false]) rfl rfl rfl rfl rfl rfl (by decide) hf (by kernel_rfl) (fun _ => hS) rfl fun a hf => ?_
        refine tkU (i := 8) (bs' := [true, true, true, true, true, true, true, true, true, false, false, false, false, false, false, false, false, false, false, false, false, false, false, false, false, false, false, false, false, false, false, false, false, false, false]) rfl rfl rfl rfl rfl rfl (by decide) hf (by kernel_rfl) (fun _ => hS) rfl fun a hf => ?_
        refine tkU (i := 9) (bs' := [true, true, true, true, true, true, true, true, true, true, false, false, false, false, false, false, false, false, false, false, false, false, false, false, false, false, false, false, false, false, false, false, false, false, false]) rfl rfl rfl rfl rfl rfl (by decide) hf (by kernel_rfl) (fun _ => hS) rfl fun a hf => ?_
        refine tkU (i := 10) (bs' := [true, true, true, true, true, true, true, true, true, true, true, false, false, false, false, false, false, false, false, false, false, false, false, false, false, false, false, false, false, false, false, false, false, false, false]) rfl rfl rfl rfl rfl rfl (by decide) hf (by kernel_rfl) (fun _ => hS) rfl fun a hf => ?_
        refine tkU (i := 11) (bs' := [true, true, true, true, true, true, true, true, true, true, true, true, false, false, false, false, false, false, false, false, false, false, false, false, false, false, false, false, false, false, false, false, false, false, false]) rfl rfl rfl rfl rfl rfl (by decide) hf (by kernel_rfl) (fun _ => hS) rfl fun a hf => ?_
        refine tkU (i := 12) (bs' := [true, true, true, true, true, true, true, true, true, true, true, true, true, false, false, false, false, false, false, false, false, false, false, false, false, false, false, false, false, false, false, false, false, false, false]) rfl rfl rfl rfl rfl rfl (by decide) hf (by kernel_rfl) (fun _ => hS) rfl fun a hf => ?_
        refine tkU (i := 13) (bs' := [true, true, true, true, true, true, true, true, true, true, true, true, true, true, false, false, false, false, false, false, false, false, false, false, false, false, false, false, false, false, false, false, false, false, false]) rfl rfl rfl rfl rfl rfl (by decide) hf (by kernel_rfl) (fun _ => hS) rfl fun a hf => ?_
        refine tkU (i := 14) (bs' := [true, true, true, true, true, true, true, true, true, true, true, true, true, true, true, false, false, false, false, false, false, false, false, false, false, false, false, false, false, false, false, false, false, false, false]) rfl rfl rfl rfl rfl rfl (by decide) hf (by kernel_rfl) (fun _ => hS) rfl fun a hf => ?_
        refine tkU (i := 15) (bs' := [true, true, true, true, true, true, true, true, true, true, true, true, true, true, true, true, false, false, false, false, false, false, false, false, false, false, false, false, false, false, false, false, false, false, false]) rfl rfl rfl rfl rfl rfl (by decide) hf (by kernel_rfl) (fun _ => hS) rfl fun a hf => ?_
        refine tkP (i := 16) (bs' := [true, true, true, true, true, true, true, true, true, true, true, true, true, true, true, true, true, false, false, false, false, false, false, false, false, false, false, false, false, false, false, false, false, false, false]) rfl rfl rfl (by decide) hf (by kernel_rfl) (fun _ => hS) (fun w => pOp_ok (tb := tab) tabOk hf rfl) rfl fun a hf => ?_
        refine tkP (i := 17) (bs' := [true, true, true, true, true, true, true, true, true, true, true, true, true, true, true, true, true, true, false, false, false, false, false, false, false, false, false, false, false, false, false, false, false, false, false]) rfl rfl rfl (by decide) hf (by kernel_rfl) (fun _ => hS) (fun w => pOp_ok (tb := tab) tabOk hf rfl) rfl fun a hf => ?_
        refine tkU (i := 18) (bs' := [true, true, true, true, true, true, true, true, true, true, true, true, true, true, true, true, true, true, true, false, false, false, false, false, false, false, false, false, false, false, false, false, false, false, false]) rfl rfl rfl rfl rfl rfl (by decide) hf (by kernel_rfl) (fun _ => hS) rfl fun a hf => ?_
        refine tkU (i := 19) (bs' := [true, true, true, true, true, true, true, true, true, true, true, true, true, true, true, true, true, true, true, true, false, false, false, false, false, false, false, false, false, false, false, false, false, false, false]) rfl rfl rfl rfl rfl rfl (by decide) hf (by kernel_rfl) (fun _ => hS) rfl fun a hf => ?_
        refine tkU (i := 20) (bs' := [true, true, true, true, true, true, true, true, true, true, true, true, true, true, true, true, true, true, true, true, true, false, false, false, false, false, false, false, false, false, false, false, false, false, false]) rfl rfl rfl rfl rfl rfl (by decide) hf (by kernel_rfl) (fun _ => hS) rfl fun a hf => ?_
        refine tkUU (i := 21) (bs' := [true, true, true, true, true, true, true, true, true, true, true, true, true, true, true, true, true, true, true, true, true, true, false, false, false, false, false, false, false, false, false, false, false, false, false]) rfl rfl rfl rfl rfl (by decide) hf (by kernel_rfl) (fun _ => hS) rfl fun a hf => ?_
        refine tkUU (i := 22) (bs' := [true, true, true, true, true, true, true, true, true, true, true, true, true, true, true, true, true, true, true, true, true, true, true, false, false, false, false, false, false, false, false, false, false, false, false]) rfl rfl rfl rfl rfl (by decide) hf (by kernel_rfl) (fun _ => hS) rfl fun a hf => ?_
        refine tkUU (i := 23) (bs' := [true, true, true, true, true, true, true, true, true, true, true, true, true, true, true, true, true, true, true, true, true, true, true, true, false, false, false, false, false, false, false, false, false, false, false]) rfl rfl rfl rfl rfl (by decide) hf (by kernel_rfl) (fun _ => hS) rfl fun a hf => ?_
        refine tkUU (i := 24) (bs' := [true, true, true, true, true, true, true, true, true, true, true, true, true, true, true, true, true, true, true, true, true, true, true, true, true, false, false, false, false, false, false, false, false, false, false]) rfl rfl rfl rfl rfl (by decide) hf (by kernel_rfl) (fun _ => hS) rfl fun a hf => ?_
        refine tkUU (i := 25) (bs' := [true, true, true, true, true, true, true, true, true, true, true, true, true, true, true, true, true, true, true, true, true, true, true, true, true, true, false, false, false, false, false, false, false, false, false]) rfl rfl rfl rfl rfl (by decide) hf (by kernel_rfl) (fun _ => hS) rfl fun a hf => ?_
        refine tkUU (i := 26) (bs' := [true, true, true, true, true, true, true, true, true, true, true, true, true, true, true, true, true, true, true, true, true, true, true, true, true, true, true, false, false, false, false, false, false, false, false]) rfl rfl rfl rfl rfl (by decide) hf (by kernel_rfl) (fun _ => hS) rfl fun a hf => ?_
        refine tkUU (i := 27) (bs' := [true, true, true, true, true, true, true, true, true, true, true, true, true, true, true, true, true, true, true, true, true, true, true, true, true, true, true, true, false, false, false, false, false, false, false]) rfl rfl rfl rfl rfl (by decide) hf (by kernel_rfl) (fun _ => hS) rfl fun a hf => ?_
        refine tkUU (i := 28) (bs' := [true, true, true, true, true, true, true, true, true, true, true, true, true, true, true, true, true, true, true, true, true, true, true, true, true, true, true, true, true, false, false, false, false, false, false]) rfl rfl rfl rfl rfl (by decide) hf (by kernel_rfl) (fun _ => hS) rfl fun a hf => ?_
        refine tkUU (i := 29) (bs' := [true, true, true, true, true, true, true, true, true, true, true, true, true, true, true, true, true, true, true, true, true, true, true, true, true, true, true, true, true, true, false, false, false, false, false]) rfl rfl rfl rfl rfl (by decide) hf (by kernel_rfl) (fun _ => hS) rfl fun a hf => ?_
        refine tkUU (i := 30) (bs' := [true, true, true, true, true, true, true, true, true, true, true, true, true, true, true, true, true, true, true, true, true, true, true, true, true, true, true, true, true, true, true, false, false, false, false]) rfl rfl rfl rfl rfl (by decide) hf (by kernel_rfl) (fun _ => hS) rfl fun a hf => ?_
        refine tkUU (i := 31) (bs' := [true, true, true, true, true, true, true, true, true, true, true, true, true, true, true, true, true, true, true, true, true, true, true, true, true, true, true, true, true, true, true, true, false, false, false]) rfl rfl rfl rfl rfl (by decide) hf (by kernel_rfl) (fun _ => hS) rfl fun a hf => ?_
        refine tkUU (i := 32) (bs' := [true, true, true, true, true, true, true, true, true, true, true, true, true, true, true, true, true, true, true, true, true, true, true, true, true, true, true, true, true, true, true, true, true, false, false]) rfl rfl rfl rfl rfl (by decide) hf (by kernel_rfl) (fun _ => hS) rfl fun a hf => ?_
        refine tkU (i := 33) (bs' := [true, true, true, true, true, true, true, true, true, true, true, true, true, true, true, true, true, true, true, true, true, true, true, true, true, true, true, true, true, true, true, true, true, true, false]) rfl rfl rfl rfl rfl rfl (by decide) hf (by kernel_rfl) (fun _ => hS) rfl fun a hf => ?_
        refine tkP (i := 34) (bs' := [true, true, true, true, true, true, true, true, true, true, true, true, true, true, true, true, true, true, true, true, true, true, true, true, true, true, true, true, true, true, true, true, true, true, true]) rfl rfl rfl (by decide) hf (by kernel_rfl) (fun _ => hS) (fun w => pOp_ok (tb := tab) tabOk hf rfl) rfl fun a hf => ?_
        refine dn (by kernel_rfl) ?_
        have hf := hf.prune [0, 1, 5, 46] rfl
        refine then_n ?_
        refine cd_t hf rfl rfl ?_
        refine sq ?_
        refine reg ?_
        refine pRun_ok (tb := tab) (n := 47) tabOk 1 _ _ hf rfl rfl fun a hf => ?_
        refine wl_end ?_
        refine then_n ?_
        refine wp_ret (blk_r (then_r (then_r (blk_r (then_r (then_r (?_)))))))
        obtain rfl := Option.some.inj hR1
        replace hF := on_ret hF
        obtain rfl := Option.some.inj hF
        refine ret_1 (fn := Try.f120) (r := .tmp 4) hf rfl (rv_tmp hf rfl) ?_
        exact ⟨_, rfl, H.bel, mk_bool⟩
      · rw [if_neg (nt hc2)] at hR1
        have hf := hf.lit 18 rfl hc2
        refine tkPg (i := 7) (bs' := [true, true, true, true, true, true, true, true, false, false, false, false, false, false, false, false, false, false, false, false, false, false, false, false, false, false, false, false, false, false, false, false, false, false, false]) rfl rfl rfl rfl rfl (by decide) hf (by kernel_rfl) (fun _ => hS) (fun w => pOp_ok (tb := tab) tabOk hf rfl) rfl fun a hf => ?_
        refine tkPg (i := 8) (bs' := [true, true, true, true, true, true, true, true, true, false, false, false, false, false, false, false, false, false, false, false, false, false, false, false, false, false, false, false, false, false, false, false, false, false, false]) rfl rfl rfl rfl rfl (by decide) hf (by kernel_rfl) (fun _ => hS) (fun w => pOp_ok (tb := tab) tabOk hf rfl) rfl fun a hf => ?_
        obtain ⟨e2, he2, hR1⟩ := bind_some hR1
        obtain ⟨p2, o2, cs2, hx2, hr2, H⟩ := pre_iaddr H Try.underlying63 TF.sz88 1 rfl he2
        refine tkPg (i := 9) (bs' := [true, true, true, true, true, true, true, true, true, true, false, false, false, false, false, false, false, false, false, false, false, false, false, false, false, false, false, false, false, false, false, false, false, false, false]) rfl rfl rfl rfl rfl (by decide) hf (by kernel_rfl) (fun _ => hS) (fun w => rq_iaddrE hf rfl rfl rfl hx2 w) rfl fun a hf => ?_
        obtain rfl := Amplifier_cells hr2
        refine tkPg (i := 10) (bs' := [true, true, true, true, true, true, true, true, true, true, true, false, false, false, false, false, false, false, false, false, false, false, false, false, false, false, false, false, false, false, false, false, false, false, false]) rfl rfl rfl rfl rfl (by decide) hf (by kernel_rfl) (fun _ => hS) (fun w => pOp_ok (tb := tab) tabOk hf rfl) rfl fun a hf => ?_
        refine str (fun w => Mem ⟨w0, []⟩ S [] [] [] [(false, MP.cells ⟨p2, o2, none⟩ [(.int .i64 e2.After), (.int .i64 e2.Gain), (.int .i64 e2.Output), (.int .i64 e2.Noise)]), (false, MP.cells ⟨p, o, none⟩ [(.int .i64 e.After), (.int .i64 e.Gain), (.int .i64 e.Output), (.int .i64 e.Noise)]), (false, MP.val [(.slice A list.length c)] (list : List Amplifier))] w) (fun w H => H.let [] [] [] [1, 2]) ?_
        have hS : Mem ⟨w0, []⟩ S [] [] [] [(false, MP.cells ⟨p2, o2, none⟩ [(.int .i64 e2.After), (.int .i64 e2.Gain), (.int .i64 e2.Output), (.int .i64 e2.Noise)]), (false, MP.cells ⟨p, o, none⟩ [(.int .i64 e.After), (.int .i64 e.Gain), (.int .i64 e.Output), (.int .i64 e.Noise)]), (false, MP.val [(.slice A list.length c)] (list : List Amplifier))] w := H.let [] [] [] [0, 1, 2]
        refine tkSg (i := 11) (bs' := [true, true, true, true, true, true, true, true, true, true, true, true, false, false, false, false, false, false, false, false, false, false, false, false, false, false, false, false, false, false, false, false, false, false, false]) [] rfl rfl rfl rfl rfl (by decide) hf (by kernel_rfl) (by kernel_rfl) hS (fun w H => rq_loadI hf H TF.ls3 0 0 rfl rfl rfl) rfl fun a hf => ?_
        refine tkPg (i := 12) (bs' := [true, true, true, true, true, true, true, true, true, true, true, true, true, false, false, false, false, false, false, false, false, false, false, false, false, false, false, false, false, false, false, false, false, false, false]) rfl rfl rfl rfl rfl (by decide) hf (by kernel_rfl) (fun _ => hS) (fun w => pOp_ok (tb := tab) tabOk hf rfl) rfl fun a hf => ?_
        refine tkPg (i := 13) (bs' := [true, true, true, true, true, true, true, true, true, true, true, true, true, true, false, false, false, false, false, false, false, false, false, false, false, false, false, false, false, false, false, false, false, false, false]) rfl rfl rfl rfl rfl (by decide) hf (by kernel_rfl) (fun _ => hS) (fun w => pOp_ok (tb := tab) tabOk hf rfl) rfl fun a hf => ?_
        obtain ⟨y2, hy2, hR1⟩ := bind_some hR1
        refine on1g (i := 14) (bs' := [true, true, true, true, true, true, true, true, true, true, true, true, true, true, true, false, false, false, false, false, false, false, false, false, false, false, false, false, false, false, false, false, false, false, false]) (by kernel_rfl) rfl rfl rfl rfl hf rfl (op_call hf TF.cl97 rfl (by decide) (spec_l1In_ok (S := fun _ => True) mk_int mk_int mk_int hy2) fun v2 w a hp2 hf => ?_)
        obtain ⟨hb2, hp2⟩ := hp2
        obtain rfl := VR_bool hp2
        have H := H.keep hb2
        have hS : Mem ⟨w0, []⟩ S [] [] [] [(false, MP.cells ⟨p2, o2, none⟩ [(.int .i64 e2.After), (.int .i64 e2.Gain), (.int .i64 e2.Output), (.int .i64 e2.Noise)]), (false, MP.cells ⟨p, o, none⟩ [(.int .i64 e.After), (.int .i64 e.Gain), (.int .i64 e.Output), (.int .i64 e.Noise)]), (false, MP.val [(.slice A list.length c)] (list : List Amplifier))] w := H.let [] [] [] [0, 1, 2]
        refine ⟨fun _ => hS, ?_⟩
        refine tkPg (i := 15) (bs' := [true, true, true, true, true, true, true, true, true, true, true, true, true, true, true, true, false, false, false, false, false, false, false, false, false, false, false, false, false, false, false, false, false, false, false]) rfl rfl rfl rfl rfl (by decide) hf (by kernel_rfl) (fun _ => hS) (fun w => pOp_ok (tb := tab) tabOk hf rfl) rfl fun a hf => ?_
        refine tkP (i := 16) (bs' := [true, true, true, true, true, true, true, true, true, true, true, true, true, true, true, true, true, false, false, false, false, false, false, false, false, false, false, false, false, false, false, false, false, false, false]) rfl rfl rfl (by decide) hf (by kernel_rfl) (fun _ => hS) (fun w => pOp_ok (tb := tab) tabOk hf rfl) rfl fun a hf => ?_
        refine tkP (i := 17) (bs' := [true, true, true, true, true, true, true, true, true, true, true, true, true, true, true, true, true, true, false, false, false, false, false, false, false, false, false, false, false, false, false, false, false, false, false]) rfl rfl rfl (by decide) hf (by kernel_rfl) (fun _ => hS) (fun w => pOp_ok (tb := tab) tabOk hf rfl) rfl fun a hf => ?_
        refine (Bool.eq_false_or_eq_true (!y2)).elim (fun hc3 => ?_) (fun hc3 => ?_)
        · rw [if_pos hc3] at hR1
          have hf := hf.lit 29 rfl hc3
          refine tkU (i := 18) (bs' := [true, true, true, true, true, true, true, true, true, true, true, true, true, true, true, true, true, true, true, false, false, false, false, false, false, false, false, false, false, false, false, false, false, false, false]) rfl rfl rfl rfl rfl rfl (by decide) hf (by kernel_rfl) (fun _ => hS) rfl fun a hf => ?_
          refine tkU (i := 19) (bs' := [true, true, true, true, true, true, true, true, true, true, true, true, true, true, true, true, true, true, true, true, false, false, false, false, false, false, false, false, false, false, false, false, false, false, false]) rfl rfl rfl rfl rfl rfl (by decide) hf (by kernel_rfl) (fun _ => hS) rfl fun a hf => ?_
          refine tkU (i := 20) (bs' := [true, true, true, true, true, true, true, true, true, true, true, true, true, true, true, true, true, true, true, true, true, false, false, false, false, false, false, false, false, false, false, false, false, false, false]) rfl rfl rfl rfl rfl rfl (by decide) hf (by kernel_rfl) (fun _ => hS) rfl fun a hf => ?_
          refine tkUU (i := 21) (bs' := [true, true, true, true, true, true, true, true, true, true, true, true, true, true, true, true, true, true, true, true, true, true, false, false, false, false, false, false, false, false, false, false, false, false, false]) rfl rfl rfl rfl rfl (by decide) hf (by kernel_rfl) (fun _ => hS) rfl fun a hf => ?_
          refine tkUU (i := 22) (bs' := [true, true, true, true, true, true, true, true, true, true, true, true, true, true, true, true, true, true, true, true, true, true, true, false, false, false, false, false, false, false, false, false, false, false, false]) rfl rfl rfl rfl rfl (by decide) hf (by kernel_rfl) (fun _ => hS) rfl fun a hf => ?_
          refine tkUU (i := 23) (bs' := [true, true, true, true, true, true, true, true, true, true, true, true, true, true, true, true, true, true, true, true, true, true, true, true, false, false, false, false, false, false, false, false, false, false, false]) rfl rfl rfl rfl rfl (by decide) hf (by kernel_rfl) (fun _ => hS) rfl fun a hf => ?_
          refine tkUU (i := 24) (bs' := [true, true, true, true, true, true, true, true, true, true, true, true, true, true, true, true, true, true, true, true, true, true, true, true, true, false, false, false, false, false, false, false, false, false, false]) rfl rfl rfl rfl rfl (by decide) hf (by kernel_rfl) (fun _ => hS) rfl fun a hf => ?_
          refine tkUU (i := 25) (bs' := [true, true, true, true, true, true, true, true, true, true, true, true, true, true, true, true, true, true, true, true, true, true, true, true, true, true, false, false, false, false, false, false, false, false, false]) rfl rfl rfl rfl rfl (by decide) hf (by kernel_rfl) (fun _ => hS) rfl fun a hf => ?_
          refine tkUU (i := 26) (bs' := [true, true, true, true, true, true, true, true, true, true, true, true, true, true, true, true, true, true, true, true, true, true, true, true, true, true, true, false, false, false, false, false, false, false, false]) rfl rfl rfl rfl rfl (by decide) hf (by kernel_rfl) (fun _ => hS) rfl fun a hf => ?_
          refine tkUU (i := 27) (bs' := [true, true, true, true, true, true, true, true, true, true, true, true, true, true, true, true, true, true, true, true, true, true, true, true, true, true, true, true, false, false, false, false, false, false, false]) rfl rfl rfl rfl rfl (by decide) hf (by kernel_rfl) (fun _ => hS) rfl fun a hf => ?_
          refine tkUU (i := 28) (bs' := [true, true, true, true, true, true, true, true, true, true, true, true, true, true, true, true, true, true, true, true, true, true, true, true, true, true, true, true, true, false, false, false, false, false, false]) rfl rfl rfl rfl rfl (by decide) hf (by kernel_rfl) (fun _ => hS) rfl fun a hf => ?_
          refine tkUU (i := 29) (bs' := [true, true, true, true, true, true, true, true, true, true, true, true, true, true, true, true, true, true, true, true, true, true, true, true, true, true, true, true, true, true, false, false, false, false, false]) rfl rfl rfl rfl rfl (by decide) hf (by kernel_rfl) (fun _ => hS) rfl fun a hf => ?_
          refine tkUU (i := 30) (bs' := [true, true, true, true, true, true, true, true, true, true, true, true, true, true, true, true, true, true, true, true, true, true, true, true, true, true, true, true, true, true, true, false, false, false, false]) rfl rfl rfl rfl rfl (by decide) hf (by kernel_rfl) (fun _ => hS) rfl fun a hf => ?_
          refine tkUU (i := 31) (bs' := [true, true, true, true, true, true, true, true, true, true, true, true, true, true, true, true, true, true, true, true, true, true, true, true, true, true, true, true, true, true, true, true, false, false, false]) rfl rfl rfl rfl rfl (by decide) hf (by kernel_rfl) (fun _ => hS) rfl fun a hf => ?_
          refine tkUU (i := 32) (bs' := [true, true, true, true, true, true, true, true, true, true, true, true, true, true, true, true, true, true, true, true, true, true, true, true, true, true, true, true, true, true, true, true, true, false, false]) rfl rfl rfl rfl rfl (by decide) hf (by kernel_rfl) (fun _ => hS) rfl fun a hf => ?_
          refine tkU (i := 33) (bs' := [true, true, true, true, true, true, true, true, true, true, true, true, true, true, true, true, true, true, true, true, true, true, true, true, true, true, true, true, true, true, true, true, true, true, false]) rfl rfl rfl rfl rfl rfl (by decide) hf (by kernel_rfl) (fun _ => hS) rfl fun a hf => ?_
          refine tkP (i := 34) (bs' := [true, true, true, true, true, true, true, true, true, true, true, true, true, true, true, true, true, true, true, true, true, true, true, true, true, true, true, true, true, true, true, true, true, true, true]) rfl rfl rfl (by decide) hf (by kernel_rfl) (fun _ => hS) (fun w => pOp_ok (tb := tab) tabOk hf rfl) rfl fun a hf => ?_
          refine dn (by kernel_rfl) ?_
          have hf := hf.prune [0, 1, 5, 19, 20, 21, 22, 23, 24, 25, 26, 27, 46] rfl
          refine then_n ?_
          refine cd_t hf rfl rfl ?_
          refine sq ?_
          refine reg ?_
          refine pRun_ok (tb := tab) (n := 47) tabOk 1 _ _ hf rfl rfl fun a hf => ?_
          have hf := hf.prune [4] rfl
          refine wl_end ?_
          refine then_n ?_
          refine wp_ret (blk_r (then_r (then_r (blk_r (then_r (then_r (?_)))))))
          obtain rfl := Option.some.inj hR1
          replace hF := on_ret hF
          obtain rfl := Option.some.inj hF
          refine ret_1 (fn := Try.f120) (r := .tmp 4) hf rfl (rv_tmp hf rfl) ?_
          exact ⟨_, rfl, H.bel, mk_bool⟩
        · rw [if_neg (nt hc3)] at hR1
          have hf := hf.lit 29 rfl hc3
          refine tkPg (i := 18) (bs' := [true, true, true, true, true, true, true, true, true, true, true, true, true, true, true, true, true, true, true, false, false, false, false, false, false, false, false, false, false, false, false, false, false, false, false]) rfl rfl rfl rfl rfl (by decide) hf (by kernel_rfl) (fun _ => hS) (fun w => pOp_ok (tb := tab) tabOk hf rfl) rfl fun a hf => ?_
          refine tkPg (i := 19) (bs' := [true, true, true, true, true, true, true, true, true, true, true, true, true, true, true, true, true, true, true, true, false, false, false, false, false, false, false, false, false, false, false, false, false, false, false]) rfl rfl rfl rfl rfl (by decide) hf (by kernel_rfl) (fun _ => hS) (fun w => pOp_ok (tb := tab) tabOk hf rfl) rfl fun a hf => ?_
          refine tkPg (i := 20) (bs' := [true, true, true, true, true, true, true, true, true, true, true, true, true, true, true, true, true, true, true, true, true, false, false, false, false, false, false, false, false, false, false, false, false, false, false]) rfl rfl rfl rfl rfl (by decide) hf (by kernel_rfl) (fun _ => hS) (fun w => pOp_ok (tb := tab) tabOk hf rfl) rfl fun a hf => ?_
          refine (Bool.eq_false_or_eq_true (decide (i > 0))).elim (fun hc4 => ?_) (fun hc4 => ?_)
          · rw [if_pos hc4] at hR1
            have hf := hf.lit 32 rfl hc4
            refine tkPg (i := 21) (bs' := [true, true, true, true, true, true, true, true, true, true, true, true, true, true, true, true, true, true, true, true, true, true, false, false, false, false, false, false, false, false, false, false, false, false, false]) rfl rfl rfl rfl rfl (by decide) hf (by kernel_rfl) (fun _ => hS) (fun w => pOp_ok (tb := tab) tabOk hf rfl) rfl fun a hf => ?_
            refine tkPg (i := 22) (bs' := [true, true, true, true, true, true, true, true, true, true, true, true, true, true, true, true, true, true, true, true, true, true, true, false, false, false, false, false, false, false, false, false, false, false, false]) rfl rfl rfl rfl rfl (by decide) hf (by kernel_rfl) (fun _ => hS) (fun w => pOp_ok (tb := tab) tabOk hf rfl) rfl fun a hf => ?_
            refine tkPg (i := 23) (bs' := [true, true, true, true, true, true, true, true, true, true, true, true, true, true, true, true, true, true, true, true, true, true, true, true, false, false, false, false, false, false, false, false, false, false, false]) rfl rfl rfl rfl rfl (by decide) hf (by kernel_rfl) (fun _ => hS) (fun w => pOp_ok (tb := tab) tabOk hf rfl) rfl fun a hf => ?_
            obtain ⟨e3, he3, hR1⟩ := bind_some hR1
            obtain ⟨p3, o3, cs3, hx3, hr3, H⟩ := pre_iaddr H Try.underlying63 TF.sz88 2 rfl he3
            refine tkPg (i := 24) (bs' := [true, true, true, true, true, true, true, true, true, true, true, true, true, true, true, true, true, true, true, true, true, true, true, true, true, false, false, false, false, false, false, false, false, false, false]) rfl rfl rfl rfl rfl (by decide) hf (by kernel_rfl) (fun _ => hS) (fun w => rq_iaddrE hf rfl rfl rfl hx3 w) rfl fun a hf => ?_
            obtain rfl := Amplifier_cells hr3
            refine tkPg (i := 25) (bs' := [true, true, true, true, true, true, true, true, true, true, true, true, true, true, true, true, true, true, true, true, true, true, true, true, true, true, false, false, false, false, false, false, false, false, false]) rfl rfl rfl rfl rfl (by decide) hf (by kernel_rfl) (fun _ => hS) (fun w => pOp_ok (tb := tab) tabOk hf rfl) rfl fun a hf => ?_
            refine str (fun w => Mem ⟨w0, []⟩ S [] [] [] [(false, MP.cells ⟨p3, o3, none⟩ [(.int .i64 e3.After), (.int .i64 e3.Gain), (.int .i64 e3.Output), (.int .i64 e3.Noise)]), (false, MP.cells ⟨p2, o2, none⟩ [(.int .i64 e2.After), (.int .i64 e2.Gain), (.int .i64 e2.Output), (.int .i64 e2.Noise)]), (false, MP.cells ⟨p, o, none⟩ [(.int .i64 e.After), (.int .i64 e.Gain), (.int .i64 e.Output), (.int .i64 e.Noise)]), (false, MP.val [(.slice A list.length c)] (list : List Amplifier))] w) (fun w H => H.let [] [] [] [1, 2, 3]) ?_
            have hS : Mem ⟨w0, []⟩ S [] [] [] [(false, MP.cells ⟨p3, o3, none⟩ [(.int .i64 e3.After), (.int .i64 e3.Gain), (.int .i64 e3.Output), (.int .i64 e3.Noise)]), (false, MP.cells ⟨p2, o2, none⟩ [(.int .i64 e2.After), (.int .i64 e2.Gain), (.int .i64 e2.Output), (.int .i64 e2.Noise)]), (false, MP.cells ⟨p, o, none⟩ [(.int .i64 e.After), (.int .i64 e.Gain), (.int .i64 e.Output), (.int .i64 e.Noise)]), (false, MP.val [(.slice A list.length c)] (list : List Amplifier))] w := H.let [] [] [] [0, 1, 2, 3]
            refine tkSg (i := 26) (bs' := [true, true, true, true, true, true, true, true, true, true, true, true, true, true, true, true, true, true, true, true, true, true, true, true, true, true, true, false, false, false, false, false, false, false, false]) [] rfl rfl rfl rfl rfl (by decide) hf (by kernel_rfl) (by kernel_rfl) hS (fun w H => rq_loadI hf H TF.ls3 0 0 rfl rfl rfl) rfl fun a hf => ?_
            refine tkPg (i := 27) (bs' := [true, true, true, true, true, true, true, true, true, true, true, true, true, true, true, true, true, true, true, true, true, true, true, true, true, true, true, true, false, false, false, false, false, false, false]) rfl rfl rfl rfl rfl (by decide) hf (by kernel_rfl) (fun _ => hS) (fun w => pOp_ok (tb := tab) tabOk hf rfl) rfl fun a hf => ?_
            refine tkPg (i := 28) (bs' := [true, true, true, true, true, true, true, true, true, true, true, true, true, true, true, true, true, true, true, true, true, true, true, true, true, true, true, true, true, false, false, false, false, false, false]) rfl rfl rfl rfl rfl (by decide) hf (by kernel_rfl) (fun _ => hS) (fun w => pOp_ok (tb := tab) tabOk hf rfl) rfl fun a hf => ?_
            obtain ⟨e4, he4, hR1⟩ := bind_some hR1
            obtain ⟨p4, o4, cs4, hx4, hr4, H⟩ := pre_iaddr H Try.underlying63 TF.sz88 3 rfl he4
            refine tkPg (i := 29) (bs' := [true, true, true, true, true, true, true, true, true, true, true, true, true, true, true, true, true, true, true, true, true, true, true, true, true, true, true, true, true, true, false, false, false, false, false]) rfl rfl rfl rfl rfl (by decide) hf (by kernel_rfl) (fun _ => hS) (fun w => rq_iaddrE hf rfl rfl rfl hx4 w) rfl fun a hf => ?_
            obtain rfl := Amplifier_cells hr4
            refine tkPg (i := 30) (bs' := [true, true, true, true, true, true, true, true, true, true, true, true, true, true, true, true, true, true, true, true, true, true, true, true, true, true, true, true, true, true, true, false, false, false, false]) rfl rfl rfl rfl rfl (by decide) hf (by kernel_rfl) (fun _ => hS) (fun w => pOp_ok (tb := tab) tabOk hf rfl) rfl fun a hf => ?_
            refine str (fun w => Mem ⟨w0, []⟩ S [] [] [] [(false, MP.cells ⟨p4, o4, none⟩ [(.int .i64 e4.After), (.int .i64 e4.Gain), (.int .i64 e4.Output), (.int .i64 e4.Noise)]), (false, MP.cells ⟨p3, o3, none⟩ [(.int .i64 e3.After), (.int .i64 e3.Gain), (.int .i64 e3.Output), (.int .i64 e3.Noise)]), (false, MP.cells ⟨p2, o2, none⟩ [(.int .i64 e2.After), (.int .i64 e2.Gain), (.int .i64 e2.Output), (.int .i64 e2.Noise)]), (false, MP.cells ⟨p, o, none⟩ [(.int .i64 e.After), (.int .i64 e.Gain), (.int .i64 e.Output), (.int .i64 e.Noise)]), (false, MP.val [(.slice A list.length c)] (list : List Amplifier))] w) (fun w H => H.let [] [] [] [1, 2, 3, 4]) ?_
            have hS : Mem ⟨w0, []⟩ S [] [] [] [(false, MP.cells ⟨p4, o4, none⟩ [(.int .i64 e4.After), (.int .i64 e4.Gain), (.int .i64 e4.Output), (.int .i64 e4.Noise)]), (false, MP.cells ⟨p3, o3, none⟩ [(.int .i64 e3.After), (.int .i64 e3.Gain), (.int .i64 e3.Output), (.int .i64 e3.Noise)]), (false, MP.cells ⟨p2, o2, none⟩ [(.int .i64 e2.After), (.int .i64 e2.Gain), (.int .i64 e2.Output), (.int .i64 e2.Noise)]), (false, MP.cells ⟨p, o, none⟩ [(.int .i64 e.After), (.int .i64 e.Gain), (.int .i64 e.Output), (.int .i64 e.Noise)]), (false, MP.val [(.slice A list.length c)] (list : List Amplifier))] w := H.let [] [] [] [0, 1, 2, 3, 4]
            refine tkSg (i := 31) (bs' := [true, true, true, true, true, true, true, true, true, true, true, true, true, true, true, true, true, true, true, true, true, true, true, true, true, true, true, true, true, true, true, true, false, false, false]) [] rfl rfl rfl rfl rfl (by decide) hf (by kernel_rfl) (by kernel_rfl) hS (fun w H => rq_loadI hf H TF.ls3 0 0 rfl rfl rfl) rfl fun a hf => ?_
            refine tkPg (i := 32) (bs' := [true, true, true, true, true, true, true, true, true, true, true, true, true, true, true, true, true, true, true, true, true, true, true, true, true, true, true, true, true, true, true, true, true, false, false]) rfl rfl rfl rfl rfl (by decide) hf (by kernel_rfl) (fun _ => hS) (fun w => pOp_ok (tb := tab) tabOk hf rfl) rfl fun a hf => ?_
            refine tkPg (i := 33) (bs' := [true, true, true, true, true, true, true, true, true, true, true, true, true, true, true, true, true, true, true, true, true, true, true, true, true, true, true, true, true, true, true, true, true, true, false]) rfl rfl rfl rfl rfl (by decide) hf (by kernel_rfl) (fun _ => hS) (fun w => pOp_ok (tb := tab) tabOk hf rfl) rfl fun a hf => ?_
            refine tkP (i := 34) (bs' := [true, true, true, true, true, true, true, true, true, true, true, true, true, true, true, true, true, true, true, true, true, true, true, true, true, true, true, true, true, true, true, true, true, true, true]) rfl rfl rfl (by decide) hf (by kernel_rfl) (fun _ => hS) (fun w => pOp_ok (tb := tab) tabOk hf rfl) rfl fun a hf => ?_
            refine dn (by kernel_rfl) ?_
            have hf := hf.prune [0, 1, 5, 19, 20, 21, 22, 23, 24, 25, 26, 27, 30, 31, 32, 33, 34, 35, 36, 37, 38, 39, 40, 41, 42, 43, 44, 45, 46] rfl
            refine then_n ?_
            refine (Bool.eq_false_or_eq_true (decide (e3.After ≥ e4.After))).elim (fun hc5 => ?_) (fun hc5 => ?_)
            · rw [if_pos hc5] at hR1
              refine cd_t hf rfl hc5 ?_
              refine sq ?_
              refine reg ?_
              refine pRun_ok (tb := tab) (n := 47) tabOk 1 _ _ hf rfl rfl fun a hf => ?_
              have hf := hf.prune [4] rfl
              refine wl_end ?_
              refine then_n ?_
              refine wp_ret (blk_r (then_r (then_r (blk_r (then_r (then_r (?_)))))))
              obtain rfl := Option.some.inj hR1
              replace hF := on_ret hF
              obtain rfl := Option.some.inj hF
              refine ret_1 (fn := Try.f120) (r := .tmp 4) hf rfl (rv_tmp hf rfl) ?_
              exact ⟨_, rfl, H.bel, mk_bool⟩
            · rw [if_neg (nt hc5)] at hR1
              refine cd_f hf rfl hc5 ?_
              refine wp_skip ?_
              refine blk_n ?_
              refine then_n ?_
              refine reg ?_
              refine pRun_ok (tb := tab) (n := 47) tabOk 3 _ _ hf rfl rfl fun a hf => ?_
              refine wl_end ?_
              have hf := hf.prune [0, 1, 5] rfl
              have H := H.let [] [] [] [4]
              exact then_n ⟨w64 (i + 1), hR1, hf, H⟩
          · rw [if_neg (nt hc4)] at hR1
            have hf := hf.lit 32 rfl hc4
            refine tkU (i := 21) (bs' := [true, true, true, true, true, true, true, true, true, true, true, true, true, true, true, true, true, true, true, true, true, true, false, false, false, false, false, false, false, false, false, false, false, false, false]) rfl rfl rfl rfl rfl rfl (by decide) hf (by kernel_rfl) (fun _ => hS) rfl fun a hf => ?_
            refine tkU (i := 22) (bs' := [true, true, true, true, true, true, true, true, true, true, true, true, true, true, true, true, true, true, true, true, true, true, true, false, false, false, false, false, false, false, false, false, false, false, false]) rfl rfl rfl rfl rfl rfl (by decide) hf (by kernel_rfl) (fun _ => hS) rfl fun a hf => ?_
            refine tkU (i := 23) (bs' := [true, true, true, true, true, true, true, true, true, true, true, true, true, true, true, true, true, true, true, true, true, true, true, true, false, false, false, false, false, false, false, false, false, false, false]) rfl rfl rfl rfl rfl rfl (by decide) hf (by kernel_rfl) (fun _ => hS) rfl fun a hf => ?_
            refine tkU (i := 24) (bs' := [true, true, true, true, true, true, true, true, true, true, true, true, true, true, true, true, true, true, true, true, true, true, true, true, true, false, false, false, false, false, false, false, false, false, false]) rfl rfl rfl rfl rfl rfl (by decide) hf (by kernel_rfl) (fun _ => hS) rfl fun a hf => ?_
            refine tkU (i := 25) (bs' := [true, true, true, true, true, true, true, true, true, true, true, true, true, true, true, true, true, true, true, true, true, true, true, true, true, true, false, false, false, false, false, false, false, false, false]) rfl rfl rfl rfl rfl rfl (by decide) hf (by kernel_rfl) (fun _ => hS) rfl fun a hf => ?_
            refine tkU (i := 26) (bs' := [true, true, true, true, true, true, true, true, true, true, true, true, true, true, true, true, true, true, true, true, true, true, true, true, true, true, true, false, false, false, false, false, false, false, false]) rfl rfl rfl rfl rfl rfl (by decide) hf (by kernel_rfl) (fun _ => hS) rfl fun a hf => ?_
            refine tkU (i := 27) (bs' := [true, true, true, true, true, true, true, true, true, true, true, true, true, true, true, true, true, true, true, true, true, true, true, true, true, true, true, true, false, false, false, false, false, false, false]) rfl rfl rfl rfl rfl rfl (by decide) hf (by kernel_rfl) (fun _ => hS) rfl fun a hf => ?_
            refine tkU (i := 28) (bs' := [true, true, true, true, true, true, true, true, true, true, true, true, true, true, true, true, true, true, true, true, true, true, true, true, true, true, true, true, true, false, false, false, false, false, false]) rfl rfl rfl rfl rfl rfl (by decide) hf (by kernel_rfl) (fun _ => hS) rfl fun a hf => ?_
            refine tkU (i := 29) (bs' := [true, true, true, true, true, true, true, true, true, true, true, true, true, true, true, true, true, true, true, true, true, true, true, true, true, true, true, true, true, true, false, false, false, false, false]) rfl rfl rfl rfl rfl rfl (by decide) hf (by kernel_rfl) (fun _ => hS) rfl fun a hf => ?_
            refine tkU (i := 30) (bs' := [true, true, true, true, true, true, true, true, true, true, true, true, true, true, true, true, true, true, true, true, true, true, true, true, true, true, true, true, true, true, true, false, false, false, false]) rfl rfl rfl rfl rfl rfl (by decide) hf (by kernel_rfl) (fun _ => hS) rfl fun a hf => ?_
            refine tkU (i := 31) (bs' := [true, true, true, true, true, true, true, true, true, true, true, true, true, true, true, true, true, true, true, true, true, true, true, true, true, true, true, true, true, true, true, true, false, false, false]) rfl rfl rfl rfl rfl rfl (by decide) hf (by kernel_rfl) (fun _ => hS) rfl fun a hf => ?_
            refine tkU (i := 32) (bs' := [true, true, true, true, true, true, true, true, true, true, true, true, true, true, true, true, true, true, true, true, true, true, true, true, true, true, true, true, true, true, true, true, true, false, false]) rfl rfl rfl rfl rfl rfl (by decide) hf (by kernel_rfl) (fun _ => hS) rfl fun a hf => ?_
            refine tkPg (i := 33) (bs' := [true, true, true, true, true, true, true, true, true, true, true, true, true, true, true, true, true, true, true, true, true, true, true, true, true, true, true, true, true, true, true, true, true, true, false]) rfl rfl rfl rfl rfl (by decide) hf (by kernel_rfl) (fun _ => hS) (fun w => pOp_ok (tb := tab) tabOk hf rfl) rfl fun a hf => ?_
            refine tkP (i := 34) (bs' := [true, true, true, true, true, true, true, true, true, true, true, true, true, true, true, true, true, true, true, true, true, true, true, true, true, true, true, true, true, true, true, true, true, true, true]) rfl rfl rfl (by decide) hf (by kernel_rfl) (fun _ => hS) (fun w => pOp_ok (tb := tab) tabOk hf rfl) rfl fun a hf => ?_
            refine dn (by kernel_rfl) ?_
            have hf := hf.prune [0, 1, 5, 19, 20, 21, 22, 23, 24, 25, 26, 27, 30, 31, 32, 45, 46] rfl
            refine then_n ?_
            refine cd_f hf rfl rfl ?_
            refine wp_skip ?_
            refine blk_n ?_
            refine then_n ?_
            refine reg ?_
            refine pRun_ok (tb := tab) (n := 47) tabOk 3 _ _ hf rfl rfl fun a hf => ?_
            refine wl_end ?_
            have hf := hf.prune [0, 1, 5] rfl
            have H := H.let [] [] [] [2]
            exact then_n ⟨w64 (i + 1), hR1, hf, H⟩
    · rw [if_neg (nt hc)] at hR1
      refine cd_f hf rfl hc ?_
      refine wp_exit (then_x (then_x (blk_e (?_))))
      have hf := hf.prune [0, 1, 5] rfl
      have H := H.let [] [] [] [0]
      exact ⟨i, (Option.some.inj hR1).symm, hf, H⟩
  rintro a w ⟨i2, rfl, hf, H⟩
  replace hF := on_next hF
  refine then_n ?_
  refine sq ?_
  refine reg ?_
  refine pRun_ok (tb := tab) (n := 47) tabOk 1 _ _ hf rfl rfl fun a hf => ?_
  refine wl_end ?_
  refine then_n ?_
  refine wp_ret (?_)
  obtain rfl := Option.some.inj hF
  refine ret_1 (fn := Try.f120) (r := .tmp 4) hf rfl (rv_tmp hf rfl) ?_
  exact ⟨_, rfl, H.bel, mk_bool⟩

/- loop.example/g00897/spec.l22Levels -/
set_option maxHeartbeats 1000000 in
theorem spec_l22Levels_ok {fu : Nat} {w0 : World} {S : Nat → Prop} {v0_ : Value} {v1_ : Value} {v2_ : Value} {line : List Span} {list : List Amplifier} {launch : Int} {r : List Int × List Int × Bool} (h0 : VR w0 S v0_ line) (h1 : VR w0 S v1_ list) (h2 : VR w0 S v2_ launch) (hF : spec_l22Levels fu line list launch = some r) :
    Calls Try.prog 145 [v0_, v1_, v2_].toArray w0 fun e w' => ∃ v, e = .returned v ∧ (Below w0.heap.size w0 w' ∧ ∃ F0 F1, ∃ u0 u1 u2, v = .tuple #[u0, u1, u2] ∧ VO w' F0 u0 r.1 ∧ VO w' F1 u1 r.2.1 ∧ VR w' (St ⟨w0, []⟩ S [] [] [] true) u2 r.2.2 ∧ New w0 w' (F0 ++ F1)) := by
  obtain ⟨A, c, rfl, hl⟩ := VR_list h0
  obtain ⟨A2, c2, rfl, hl2⟩ := VR_list h1
  obtain rfl := VR_int h2
  have H := Mem.start ⟨w0, []⟩ S
  have H := H.pushArg (MP.val [(.slice A line.length c)] line) hl
  have H := H.pushArg (MP.val [(.slice A2 list.length c2)] list) hl2
  refine enter Try.func145 rfl rfl (nle rfl) rfl fun a hf => ?_
  rw [spec_l22Levels] at hF
  refine sq ?_
  refine reg ?_
  refine pRun_ok (tb := tab) (n := 83) tabOk 3 _ _ hf rfl rfl fun a hf => ?_
  refine wl_end ?_
  refine then_n ?_
  refine sq ?_
  refine reg ?_
  refine wl0 rfl (op_bslice hf H (.sh true) rfl 3 ([] : List Int) [] rfl (fun w => by kernel_rfl) rfl (by decide) rfl trivial el0 (by decide) fun A3 a w hf H => ?_)
  refine wl0 rfl (op_bslice hf H (.sh true) rfl 3 ([] : List Int) [] rfl (fun w => by kernel_rfl) rfl (by decide) rfl trivial el0 (by decide) fun A4 a w hf H => ?_)
  refine pRun_ok (tb := tab) (n := 83) tabOk 2 _ _ hf rfl rfl fun a hf => ?_
  refine wl_end ?_
  refine then_n ?_
  refine sq ?_
  refine sq ?_
  obtain ⟨c3, hGc3, hF⟩ := bind_some hF
  refine mid (fun a w => Fr a 83 [(0, (.slice A line.length c)), (1, (.slice A2 list.length c2)), (2, (.int .i64 launch)), (9, (.slice A3 0 0)), (10, (.slice A4 0 0)), (30, (.bool c3))] ∧ Mem ⟨w0, []⟩ S [] [⟨.sh true, 3, A4, 0, (([] : List Int) : List Int)⟩, ⟨.sh true, 3, A3, 0, (([] : List Int) : List Int)⟩] [] [(false, MP.val [(.slice A2 list.length c2)] (list : List Amplifier)), (false, MP.val [(.slice A line.length c)] (line : List Span))] w) ?_ ?_
  · refine reg ?_
    refine pRun_ok (tb := tab) (n := 83) tabOk 1 _ _ hf rfl rfl fun a hf => ?_
    obtain ⟨y, hy, hGc3⟩ := bind_some hGc3
    refine wl0 rfl (op_call hf TF.cl138 rfl (by decide) (spec_l22Line_ok (S := fun _ => True) (mk_list (rep_true (α := List Span) (H.get 1 rfl))) hy) fun v w a hp hf => ?_)
    obtain ⟨hb, hp⟩ := hp
    obtain rfl := VR_bool hp
    have H := H.keep hb
    refine pRun_ok (tb := tab) (n := 83) tabOk 2 _ _ hf rfl rfl fun a hf => ?_
    refine (Bool.eq_false_or_eq_true (!y)).elim (fun hc => ?_) (fun hc => ?_)
    · rw [if_pos hc] at hGc3
      have hf := hf.lit 19 rfl hc
      refine pRun_ok (tb := tab) (n := 83) tabOk 11 _ _ hf rfl rfl fun a hf => ?_
      obtain rfl := Option.some.inj hGc3
      have hf := hf.prune [0, 1, 2, 9, 10, 30] rfl
      have H := H.let [] [true, true] [] [0, 1]
      exact wl_end ⟨hf, H⟩
    · rw [if_neg (nt hc)] at hGc3
      have hf := hf.lit 19 rfl hc
      refine pRun_ok (tb := tab) (n := 83) tabOk 3 _ _ hf rfl rfl fun a hf => ?_
      obtain ⟨y2, hy2, hGc3⟩ := bind_some hGc3
      refine wlg hf rfl rfl rfl (op_call hf TF.cl120 rfl (by decide) (spec_l22List_ok (S := fun _ => True) (mk_list (rep_true (α := List Amplifier) (H.get 0 rfl))) mk_int hy2) fun v2 w a hp2 hf => ?_)
      obtain ⟨hb2, hp2⟩ := hp2
      obtain rfl := VR_bool hp2
      have H := H.keep hb2
      refine pRun_ok (tb := tab) (n := 83) tabOk 3 _ _ hf rfl rfl fun a hf => ?_
      refine (Bool.eq_false_or_eq_true (!y2)).elim (fun hc2 => ?_) (fun hc2 => ?_)
      · rw [if_pos hc2] at hGc3
        have hf := hf.lit 26 rfl hc2
        refine pRun_ok (tb := tab) (n := 83) tabOk 4 _ _ hf rfl rfl fun a hf => ?_
        obtain rfl := Option.some.inj hGc3
        have hf := hf.prune [0, 1, 2, 9, 10, 30] rfl
        have H := H.let [] [true, true] [] [0, 1]
        exact wl_end ⟨hf, H⟩
      · rw [if_neg (nt hc2)] at hGc3
        have hf := hf.lit 26 rfl hc2
        refine pRun_ok (tb := tab) (n := 83) tabOk 1 _ _ hf rfl rfl fun a hf => ?_
        obtain ⟨y3, hy3, hGc3⟩ := bind_some hGc3
        refine wlg hf rfl rfl rfl (op_call hf TF.cl106 rfl (by decide) (spec_l22Level_ok (S := fun _ => True) mk_int hy3) fun v3 w a hp3 hf => ?_)
        obtain ⟨hb3, hp3⟩ := hp3
        obtain rfl := VR_bool hp3
        have H := H.keep hb3
        refine pRun_ok (tb := tab) (n := 83) tabOk 2 _ _ hf rfl rfl fun a hf => ?_
        obtain rfl := Option.some.inj hGc3
        have hf := hf.prune [0, 1, 2, 9, 10, 30] rfl
        have H := H.let [] [true, true] [] [0, 1]
        exact wl_end ⟨hf, H⟩
  rintro a w ⟨hf, H⟩
  refine then_n ?_
  refine (Bool.eq_false_or_eq_true (c3)).elim (fun hc3 => ?_) (fun hc3 => ?_)
  · rw [if_pos hc3] at hF
    refine cd_t hf rfl hc3 ?_
    refine sq ?_
    refine reg ?_
    refine pRun_ok (tb := tab) (n := 83) tabOk 5 _ _ hf rfl rfl fun a hf => ?_
    refine wl_end ?_
    refine then_n ?_
    refine wp_ret (then_r (?_))
    have H := H.rowOwn 1 rfl rfl
    obtain ⟨F, H⟩ := H.freezeOwn 1 rfl
    have H := H.lend 0 rfl
    have H := H.rowOwn 0 rfl rfl
    obtain ⟨F2, H⟩ := H.freezeOwn 0 rfl
    have H := H.lend 0 rfl
    have H := H.frontD 1 rfl
    obtain rfl := Option.some.inj hF
    refine ret_3 (fn := Try.f145) (r := .tmp 6) (s := .tmp 7) (t := .tmp 8) hf rfl (rv_tmp hf rfl) (rv_tmp hf rfl) (rv_tmp hf rfl) ?_
    have hN := H.ends (X := [(⟨F, MP.own F [(.slice A3 0 0)] (([] : List Int) : List Int)⟩ : DI), (⟨F2, MP.own F2 [(.slice A4 0 0)] (([] : List Int) : List Int)⟩ : DI)])
    simp only [List.flatMap_cons, List.flatMap_nil, List.append_nil, List.append_assoc] at hN
    exact ⟨_, rfl, H.bel, F, F2, _, _, _, rfl, (mko_list (H.ownAt 0 rfl)), (mko_list (H.ownAt 1 rfl)), mk_bool, hN⟩
  · rw [if_neg (nt hc3)] at hF
    refine cd_f hf rfl hc3 ?_
    refine wp_skip ?_
    refine then_n ?_
    refine sq ?_
    refine reg ?_
    refine pRun_ok (tb := tab) (n := 83) tabOk 2 _ _ hf rfl rfl fun a hf => ?_
    refine wl_end ?_
    refine then_n ?_
    refine sq ?_
    refine reg ?_
    refine pRun_ok (tb := tab) (n := 83) tabOk 1 _ _ hf rfl rfl fun a hf => ?_
    refine wl_end ?_
    refine then_n ?_
    refine sq ?_
    refine sq ?_
    refine reg ?_
    refine pRun_ok (tb := tab) (n := 83) tabOk 1 _ _ hf rfl rfl fun a hf => ?_
    refine wl_end ?_
    refine then_n ?_
    obtain ⟨out', hB1, hF⟩ := bind_some hF
    have hf := hf.prune [0, 1, 9, 10, 11, 12, 13] rfl
    have H := H.let [] [true, true] [] [0, 1]
    have hI : (fun (s : List Int × List Int × Int × Int × Int) (a : Act) (w : World) => match s with | (before, after, now, at', i) => ∃ (A5 : Option Addr) (c4 : Nat) (A6 : Option Addr) (c5 : Nat), Fr a 83 [(0, (.slice A line.length c)), (1, (.slice A2 list.length c2)), (9, (.slice A5 before.length c4)), (10, (.slice A6 after.length c5)), (11, (.int .i64 now)), (12, (.int .i64 at')), (13, (.int .i64 i))] ∧ Mem ⟨w0, []⟩ S [] [⟨.sh true, 3, A6, c5, (after : List Int)⟩, ⟨.sh true, 3, A5, c4, (before : List Int)⟩] [] [(false, MP.val [(.slice A2 list.length c2)] (list : List Amplifier)), (false, MP.val [(.slice A line.length c)] (line : List Span))] w) (([] : List Int), ([] : List Int), launch, 0, 0) a w := ⟨A3, 0, A4, 0, hf, H⟩
    refine mid (fun a w => ∃ s : List Int × List Int × Int × Int × Int, out' = Out.next s ∧ (fun (s : List Int × List Int × Int × Int × Int) (a : Act) (w : World) => match s with | (before, after, now, at', i) => ∃ (A5 : Option Addr) (c4 : Nat) (A6 : Option Addr) (c5 : Nat), Fr a 83 [(0, (.slice A line.length c)), (1, (.slice A2 list.length c2)), (9, (.slice A5 before.length c4)), (10, (.slice A6 after.length c5)), (11, (.int .i64 now)), (12, (.int .i64 at')), (13, (.int .i64 i))] ∧ Mem ⟨w0, []⟩ S [] [⟨.sh true, 3, A6, c5, (after : List Int)⟩, ⟨.sh true, 3, A5, c4, (before : List Int)⟩] [] [(false, MP.val [(.slice A2 list.length c2)] (list : List Amplifier)), (false, MP.val [(.slice A line.length c)] (line : List Span))] w) s a w) ?_ ?_
    · refine wp_block ?_
      refine loop_rule (fun k (s : List Int × List Int × Int × Int × Int) => spec_l22Levels_L1 fu line list k s.1 s.2.1 s.2.2.1 s.2.2.2.1 s.2.2.2.2 = some out') (fun (s : List Int × List Int × Int × Int × Int) (a : Act) (w : World) => match s with | (before, after, now, at', i) => ∃ (A5 : Option Addr) (c4 : Nat) (A6 : Option Addr) (c5 : Nat), Fr a 83 [(0, (.slice A line.length c)), (1, (.slice A2 list.length c2)), (9, (.slice A5 before.length c4)), (10, (.slice A6 after.length c5)), (11, (.int .i64 now)), (12, (.int .i64 at')), (13, (.int .i64 i))] ∧ Mem ⟨w0, []⟩ S [] [⟨.sh true, 3, A6, c5, (after : List Int)⟩, ⟨.sh true, 3, A5, c4, (before : List Int)⟩] [] [(false, MP.val [(.slice A2 list.length c2)] (list : List Amplifier)), (false, MP.val [(.slice A line.length c)] (line : List Span))] w) (fun s h => by cases h) ?_ fu (([] : List Int), ([] : List Int), launch, 0, 0) a w hB1 hI
      rintro fk ⟨before, after, now, at', i⟩ a w hR1 hI
      replace hR1 : spec_l22Levels_L1 fu line list (fk + 1) before after now at' i = some out' := hR1
      rw [spec_l22Levels_L1] at hR1
      obtain ⟨A5, c4, A6, c5, hf, H⟩ := hI
      refine sq ?_
      refine sq ?_
      refine reg ?_
      refine pRun_ok (tb := tab) (n := 83) tabOk 4 _ _ hf rfl rfl fun a hf => ?_
      refine wl_end ?_
      refine then_n ?_
      refine (Bool.eq_false_or_eq_true (decide (i < (line.length : Int)))).elim (fun hc4 => ?_) (fun hc4 => ?_)
      · rw [if_pos hc4] at hR1
        refine cd_t hf rfl hc4 ?_
        refine wp_skip ?_
        refine then_n ?_
        refine sq ?_
        refine wp_block ?_
        refine sq ?_
        refine reg ?_
        refine pRun_ok (tb := tab) (n := 83) tabOk 3 _ _ hf rfl rfl fun a hf => ?_
        obtain ⟨e, he, hR1⟩ := bind_some hR1
        refine wl0 rfl (op_iaddr hf H Try.underlying96 TF.sz28 1 rfl rfl rfl he (by decide) fun p o cs a hf hr H => ?_)
        obtain rfl := Span_cells hr
        refine wl0 rfl (op_q hf (rq_loadIN hf H TF.la28 0 0 rfl rfl rfl rfl) rfl (by decide) fun a hf => ?_)
        obtain ⟨y4, hy4, hR1⟩ := bind_some hR1
        refine wl0 rfl (op_call hf TF.cl100 rfl (by decide) (spec_l22Loss_ok (S := fun _ => True) Span_mkv hy4) fun v4 w a hp4 hf => ?_)
        obtain ⟨hb4, hp4⟩ := hp4
        obtain rfl := VR_int hp4
        have H := H.keep hb4
        refine pRun_ok (tb := tab) (n := 83) tabOk 2 _ _ hf rfl rfl fun a hf => ?_
        refine wl_end ?_
        refine then_n ?_
        refine sq ?_
        refine sq ?_
        refine reg ?_
        refine pRun_ok (tb := tab) (n := 83) tabOk 1 _ _ hf rfl rfl fun a hf => ?_
        obtain ⟨y5, hy5, hR1⟩ := bind_some hR1
        refine wl0 rfl (op_call hf TF.cl106 rfl (by decide) (spec_l22Level_ok (S := fun _ => True) mk_int hy5) fun v5 w a hp5 hf => ?_)
        obtain ⟨hb5, hp5⟩ := hp5
        obtain rfl := VR_bool hp5
        have H := H.keep hb5
        refine pRun_ok (tb := tab) (n := 83) tabOk 1 _ _ hf rfl rfl fun a hf => ?_
        have hf := hf.prune [0, 1, 9, 10, 11, 12, 13, 49] rfl
        refine wl_end ?_
        refine then_n ?_
        refine (Bool.eq_false_or_eq_true (!y5)).elim (fun hc5 => ?_) (fun hc5 => ?_)
        · rw [if_pos hc5] at hR1
          refine cd_t hf rfl hc5 ?_
          refine sq ?_
          refine reg ?_
          refine wl0 rfl (op_bslice hf H (.sh true) rfl 3 ([] : List Int) [] rfl (fun w => by kernel_rfl) rfl (by decide) rfl trivial el0 (by decide) fun A7 a w hf H => ?_)
          refine wl0 rfl (op_bslice hf H (.sh true) rfl 3 ([] : List Int) [] rfl (fun w => by kernel_rfl) rfl (by decide) rfl trivial el0 (by decide) fun A8 a w hf H => ?_)
          refine pRun_ok (tb := tab) (n := 83) tabOk 3 _ _ hf rfl rfl fun a hf => ?_
          refine wl_end ?_
          refine then_n ?_
          refine wp_ret (then_r (blk_r (then_r (then_r (blk_r (then_r (then_r (?_))))))))
          have H := H.rowOwn 1 rfl rfl
          obtain ⟨F3, H⟩ := H.freezeOwn 1 rfl
          have H := H.lend 0 rfl
          have H := H.rowOwn 0 rfl rfl
          obtain ⟨F4, H⟩ := H.freezeOwn 0 rfl
          have H := H.lend 0 rfl
          have H := H.frontD 1 rfl
          obtain rfl := Option.some.inj hR1
          replace hF := on_ret hF
          obtain rfl := Option.some.inj hF
          refine ret_3 (fn := Try.f145) (r := .tmp 6) (s := .tmp 7) (t := .tmp 8) hf rfl (rv_tmp hf rfl) (rv_tmp hf rfl) (rv_tmp hf rfl) ?_
          have hN := H.ends (X := [(⟨F3, MP.own F3 [(.slice A7 0 0)] (([] : List Int) : List Int)⟩ : DI), (⟨F4, MP.own F4 [(.slice A8 0 0)] (([] : List Int) : List Int)⟩ : DI)])
          simp only [List.flatMap_cons, List.flatMap_nil, List.append_nil, List.append_assoc] at hN
          exact ⟨_, rfl, H.bel, F3, F4, _, _, _, rfl, (mko_list (H.ownAt 0 rfl)), (mko_list (H.ownAt 1 rfl)), mk_bool, hN⟩
        · rw [if_neg (nt hc5)] at hR1
          refine cd_f hf rfl hc5 ?_
          refine wp_skip ?_
          refine then_n ?_
          refine sq ?_
          refine reg ?_
          refine pRun_ok (tb := tab) (n := 83) tabOk 2 _ _ hf rfl rfl fun a hf => ?_
          refine wl0 rfl (op_bslice hf H (.sh true) rfl 3 ([w64 (now - y4)] : List Int) [(.int .i64 (w64 (now - y4)))] rfl (fun w => by kernel_rfl) rfl (by decide) rfl trivial (el1 (y := w64 (now - y4)) rfl) (by decide) fun A9 a w hf H => ?_)
          obtain ⟨l, hl, hR1⟩ := bind_some hR1
          refine wl0 rfl (op_appR hf H Try.underlying35 TF.ai3 rfl (by decide) 2 0 rfl rfl rfl rfl (.inr rfl) hl (by decide) fun A10 c6 a w hf H => ?_)
          refine pRun_ok (tb := tab) (n := 83) tabOk 1 _ _ hf rfl rfl fun a hf => ?_
          refine wl_end ?_
          refine then_n ?_
          refine sq ?_
          refine sq ?_
          obtain ⟨c7, hGc7, hR1⟩ := bind_some hR1
          refine mid (fun a w => Fr a 83 [(0, (.slice A line.length c)), (1, (.slice A2 list.length c2)), (9, (.slice A10 l.length c6)), (10, (.slice A6 after.length c5)), (11, (.int .i64 (w64 (now - y4)))), (12, (.int .i64 at')), (13, (.int .i64 i)), (68, (.bool c7))] ∧ Mem ⟨w0, []⟩ S [] [⟨.sh true, 3, A6, c5, (after : List Int)⟩, ⟨.sh true, 3, A10, c6, (l : List Int)⟩] [] [(false, MP.val [(.slice A2 list.length c2)] (list : List Amplifier)), (false, MP.val [(.slice A line.length c)] (line : List Span))] w) ?_ ?_
          · refine reg ?_
            refine pRun_ok (tb := tab) (n := 83) tabOk 5 _ _ hf rfl rfl fun a hf => ?_
            refine (Bool.eq_false_or_eq_true (decide (at' < (list.length : Int)))).elim (fun hc6 => ?_) (fun hc6 => ?_)
            · rw [if_pos hc6] at hGc7
              have hf := hf.lit 60 rfl hc6
              refine pRun_ok (tb := tab) (n := 83) tabOk 2 _ _ hf rfl rfl fun a hf => ?_
              obtain ⟨e2, he2, hGc7⟩ := bind_some hGc7
              refine wlg hf rfl rfl rfl (op_iaddr hf H Try.underlying63 TF.sz88 1 rfl rfl rfl he2 (by decide) fun p2 o2 cs2 a hf hr2 H => ?_)
              obtain rfl := Amplifier_cells hr2
              refine pRun_ok (tb := tab) (n := 83) tabOk 1 _ _ hf rfl rfl fun a hf => ?_
              refine wlg hf rfl rfl rfl (op_q hf (rq_loadI hf H TF.ls3 0 0 rfl rfl rfl) rfl (by decide) fun a hf => ?_)
              refine pRun_ok (tb := tab) (n := 83) tabOk 3 _ _ hf rfl rfl fun a hf => ?_
              obtain rfl := Option.some.inj hGc7
              have hf := hf.prune [0, 1, 9, 10, 11, 12, 13, 68] rfl
              have H := H.let [] [false, true, true] [] [2, 3]
              exact wl_end ⟨hf, H⟩
            · rw [if_neg (nt hc6)] at hGc7
              have hf := hf.lit 60 rfl hc6
              refine pRun_ok (tb := tab) (n := 83) tabOk 8 _ _ hf rfl rfl fun a hf => ?_
              obtain rfl := Option.some.inj hGc7
              have hf := hf.prune [0, 1, 9, 10, 11, 12, 13, 68] rfl
              have H := H.let [] [false, true, true] [] [1, 2]
              exact wl_end ⟨hf, H⟩
          rintro a w ⟨hf, H⟩
          refine then_n ?_
          refine (Bool.eq_false_or_eq_true (c7)).elim (fun hc7 => ?_) (fun hc7 => ?_)
          · rw [if_pos hc7] at hR1
            refine cd_t hf rfl hc7 ?_
            refine sq ?_
            refine reg ?_
            refine pRun_ok (tb := tab) (n := 83) tabOk 2 _ _ hf rfl rfl fun a hf => ?_
            obtain ⟨e3, he3, hR1⟩ := bind_some hR1
            refine wl0 rfl (op_iaddr hf H Try.underlying63 TF.sz88 0 rfl rfl rfl he3 (by decide) fun p3 o3 cs3 a hf hr3 H => ?_)
            obtain rfl := Amplifier_cells hr3
            refine wl0 rfl (op_q hf (rq_loadIN hf H TF.la88 0 0 rfl rfl rfl rfl) rfl (by decide) fun a hf => ?_)
            refine pRun_ok (tb := tab) (n := 83) tabOk 1 _ _ hf rfl rfl fun a hf => ?_
            obtain ⟨y6, hy6, hR1⟩ := bind_some hR1
            refine wl0 rfl (op_call hf TF.cl140 rfl (by decide) (spec_l22Raise_ok (S := fun _ => True) Amplifier_mkv mk_int hy6) fun v6 w a hp6 hf => ?_)
            obtain ⟨hb6, hp6⟩ := hp6
            obtain rfl := VR_int hp6
            have H := H.keep hb6
            refine pRun_ok (tb := tab) (n := 83) tabOk 1 _ _ hf rfl rfl fun a hf => ?_
            refine wl_end ?_
            refine then_n ?_
            refine reg ?_
            refine pRun_ok (tb := tab) (n := 83) tabOk 3 _ _ hf rfl rfl fun a hf => ?_
            refine wl_end ?_
            refine then_n ?_
            refine reg ?_
            refine pRun_ok (tb := tab) (n := 83) tabOk 2 _ _ hf rfl rfl fun a hf => ?_
            refine wl0 rfl (op_bslice hf H (.sh true) rfl 3 ([y6] : List Int) [(.int .i64 y6)] rfl (fun w => by kernel_rfl) rfl (by decide) rfl trivial (el1 (y := y6) rfl) (by decide) fun A11 a w hf H => ?_)
            obtain ⟨l2, hl2, hR1⟩ := bind_some hR1
            refine wl0 rfl (op_appR hf H Try.underlying35 TF.ai3 rfl (by decide) 1 0 rfl rfl rfl rfl (.inr rfl) hl2 (by decide) fun A12 c8 a w hf H => ?_)
            refine pRun_ok (tb := tab) (n := 83) tabOk 1 _ _ hf rfl rfl fun a hf => ?_
            have hf := hf.prune [0, 1, 9, 10, 11, 12, 13] rfl
            refine wl_end ?_
            refine blk_n ?_
            refine then_n ?_
            refine reg ?_
            refine pRun_ok (tb := tab) (n := 83) tabOk 3 _ _ hf rfl rfl fun a hf => ?_
            refine wl_end ?_
            have hf := hf.prune [0, 1, 9, 10, 11, 12, 13] rfl
            have H := H.let [] [false, true, true] [] [1, 2]
            exact then_n ⟨(l, l2, y6, w64 (at' + 1), w64 (i + 1)), hR1, A10, c6, A12, c8, hf, H⟩
          · rw [if_neg (nt hc7)] at hR1
            refine cd_f hf rfl hc7 ?_
            refine wp_skip ?_
            refine then_n ?_
            refine reg ?_
            refine pRun_ok (tb := tab) (n := 83) tabOk 2 _ _ hf rfl rfl fun a hf => ?_
            refine wl0 rfl (op_bslice hf H (.sh true) rfl 3 ([w64 (now - y4)] : List Int) [(.int .i64 (w64 (now - y4)))] rfl (fun w => by kernel_rfl) rfl (by decide) rfl trivial (el1 (y := w64 (now - y4)) rfl) (by decide) fun A13 a w hf H => ?_)
            obtain ⟨l3, hl3, hR1⟩ := bind_some hR1
            refine wl0 rfl (op_appR hf H Try.underlying35 TF.ai3 rfl (by decide) 1 0 rfl rfl rfl rfl (.inr rfl) hl3 (by decide) fun A14 c9 a w hf H => ?_)
            refine pRun_ok (tb := tab) (n := 83) tabOk 1 _ _ hf rfl rfl fun a hf => ?_
            refine wl_end ?_
            refine blk_n ?_
            refine then_n ?_
            refine reg ?_
            refine pRun_ok (tb := tab) (n := 83) tabOk 3 _ _ hf rfl rfl fun a hf => ?_
            refine wl_end ?_
            have hf := hf.prune [0, 1, 9, 10, 11, 12, 13] rfl
            have H := H.let [] [false, true, true] [] [0, 1]
            exact then_n ⟨(l, l3, w64 (now - y4), at', w64 (i + 1)), hR1, A10, c6, A14, c9, hf, H⟩
      · rw [if_neg (nt hc4)] at hR1
        refine cd_f hf rfl hc4 ?_
        refine wp_exit (then_x (then_x (blk_e (?_))))
        have hf := hf.prune [0, 1, 9, 10, 11, 12, 13] rfl
        have H := H.let [] [true, true] [] [0, 1]
        exact ⟨(before, after, now, at', i), (Option.some.inj hR1).symm, A5, c4, A6, c5, hf, H⟩
    rintro a w ⟨⟨before2, after2, now2, at2, i2⟩, rfl, A15, c10, A16, c11, hf, H⟩
    replace hF := on_next hF
    dsimp only at hF
    refine then_n ?_
    refine sq ?_
    refine reg ?_
    refine pRun_ok (tb := tab) (n := 83) tabOk 5 _ _ hf rfl rfl fun a hf => ?_
    refine wl_end ?_
    refine then_n ?_
    refine wp_ret (?_)
    have H := H.rowOwn 1 rfl rfl
    obtain ⟨F5, H⟩ := H.freezeOwn 1 rfl
    have H := H.lend 0 rfl
    have H := H.rowOwn 0 rfl rfl
    obtain ⟨F6, H⟩ := H.freezeOwn 0 rfl
    have H := H.lend 0 rfl
    have H := H.frontD 1 rfl
    obtain rfl := Option.some.inj hF
    refine ret_3 (fn := Try.f145) (r := .tmp 6) (s := .tmp 7) (t := .tmp 8) hf rfl (rv_tmp hf rfl) (rv_tmp hf rfl) (rv_tmp hf rfl) ?_
    have hN := H.ends (X := [(⟨F5, MP.own F5 [(.slice A15 before2.length c10)] (before2 : List Int)⟩ : DI), (⟨F6, MP.own F6 [(.slice A16 after2.length c11)] (after2 : List Int)⟩ : DI)])
    simp only [List.flatMap_cons, List.flatMap_nil, List.append_nil, List.append_assoc] at hN
    exact ⟨_, rfl, H.bel, F5, F6, _, _, _, rfl, (mko_list (H.ownAt 0 rfl)), (mko_list (H.ownAt 1 rfl)), mk_bool, hN⟩

/- loop.example/g00897/spec.PowerMargin -/
set_option maxHeartbeats 1000000 in
theorem spec_PowerMargin_ok {fu : Nat} {w0 : World} {S : Nat → Prop} {v0_ : Value} {v1_ : Value} {v2_ : Value} {v3_ : Value} {line : List Span} {list : List Amplifier} {launch : Int} {need : Int} {r : Int × Bool} (h0 : VR w0 S v0_ line) (h1 : VR w0 S v1_ list) (h2 : VR w0 S v2_ launch) (h3 : VR w0 S v3_ need) (hF : spec_PowerMargin fu line list launch need = some r) :
    Calls Try.prog 89 [v0_, v1_, v2_, v3_].toArray w0 fun e w' => ∃ v, e = .returned v ∧ (Below w0.heap.size w0 w' ∧ ∃ u0 u1, v = .tuple #[u0, u1] ∧ VR w' (St ⟨w0, []⟩ S [] [] [] true) u0 r.1 ∧ VR w' (St ⟨w0, []⟩ S [] [] [] true) u1 r.2) := by
  obtain ⟨A, c, rfl, hl⟩ := VR_list h0
  obtain ⟨A2, c2, rfl, hl2⟩ := VR_list h1
  obtain rfl := VR_int h2
  obtain rfl := VR_int h3
  have H := Mem.start ⟨w0, []⟩ S
  have H := H.pushArg (MP.val [(.slice A line.length c)] line) hl
  have H := H.pushArg (MP.val [(.slice A2 list.length c2)] list) hl2
  refine enter Try.func89 rfl rfl (nle rfl) rfl fun a hf => ?_
  rw [spec_PowerMargin] at hF
  refine sq ?_
  refine reg ?_
  refine pRun_ok (tb := tab) (n := 48) tabOk 2 _ _ hf rfl rfl fun a hf => ?_
  refine wl_end ?_
  refine then_n ?_
  refine sq ?_
  refine reg ?_
  refine pRun_ok (tb := tab) (n := 48) tabOk 3 _ _ hf rfl rfl fun a hf => ?_
  obtain ⟨y, hy, hF⟩ := bind_some hF
  refine wl0 rfl (op_call hf TF.cl145 rfl (by decide) (spec_l22Levels_ok (S := fun _ => True) (mk_list (rep_true (α := List Span) (H.get 1 rfl))) (mk_list (rep_true (α := List Amplifier) (H.get 0 rfl))) mk_int hy) fun v w a hp hf => ?_)
  obtain ⟨hb, F, F2, v2, v3, v4, rfl, hp2, hp3, hp4, hN⟩ := hp
  obtain ⟨A3, c3, rfl, hl3⟩ := VO_list hp2
  obtain ⟨A4, c4, rfl, hl4⟩ := VO_list hp3
  obtain rfl := VR_bool hp4
  have H := H.addOwn hb (X := [(⟨F, MP.own F [(.slice A3 y.1.length c3)] (y.1 : List Int)⟩ : DI), (⟨F2, MP.own F2 [(.slice A4 y.2.1.length c4)] (y.2.1 : List Int)⟩ : DI)]) (by simpa using hN.1) (ps1 hl3 (ps1 hl4 ps0)) (by simpa using hN.2)
  have H := H.lend 0 rfl
  have H := H.lend 1 rfl
  refine pRun_ok (tb := tab) (n := 48) tabOk 7 _ _ hf rfl rfl fun a hf => ?_
  have hf := hf.prune [3, 11, 12] rfl
  refine wl_end ?_
  refine then_n ?_
  refine sq ?_
  refine sq ?_
  obtain ⟨c5, hGc5, hF⟩ := bind_some hF
  refine mid (fun a w => Fr a 48 [(3, (.int .i64 need)), (11, (.slice A4 y.2.1.length c4)), (39, (.bool c5))] ∧ Mem ⟨w0, []⟩ S [] [] [⟨F2, MP.own F2 [(.slice A4 y.2.1.length c4)] (y.2.1 : List Int)⟩] [(true, MP.val [(.slice A4 y.2.1.length c4)] (y.2.1 : List Int))] w) ?_ ?_
  · refine reg ?_
    refine pRun_ok (tb := tab) (n := 48) tabOk 3 _ _ hf rfl rfl fun a hf => ?_
    refine (Bool.eq_false_or_eq_true (!y.2.2)).elim (fun hc => ?_) (fun hc => ?_)
    · rw [if_pos hc] at hGc5
      have hf := hf.lit 23 rfl hc
      refine pRun_ok (tb := tab) (n := 48) tabOk 16 _ _ hf rfl rfl fun a hf => ?_
      obtain rfl := Option.some.inj hGc5
      have hf := hf.prune [3, 11, 39] rfl
      have H := H.let [] [] [false, true] [0]
      exact wl_end ⟨hf, H⟩
    · rw [if_neg (nt hc)] at hGc5
      have hf := hf.lit 23 rfl hc
      refine pRun_ok (tb := tab) (n := 48) tabOk 1 _ _ hf rfl rfl fun a hf => ?_
      obtain ⟨y2, hy2, hGc5⟩ := bind_some hGc5
      refine wlg hf rfl rfl rfl (op_call hf TF.cl106 rfl (by decide) (spec_l22Level_ok (S := fun _ => True) mk_int hy2) fun v5 w a hp5 hf => ?_)
      obtain ⟨hb2, hp5⟩ := hp5
      obtain rfl := VR_bool hp5
      have H := H.keep hb2
      refine pRun_ok (tb := tab) (n := 48) tabOk 3 _ _ hf rfl rfl fun a hf => ?_
      refine (Bool.eq_false_or_eq_true (!y2)).elim (fun hc2 => ?_) (fun hc2 => ?_)
      · rw [if_pos hc2] at hGc5
        have hf := hf.lit 28 rfl hc2
        refine pRun_ok (tb := tab) (n := 48) tabOk 11 _ _ hf rfl rfl fun a hf => ?_
        obtain rfl := Option.some.inj hGc5
        have hf := hf.prune [3, 11, 39] rfl
        have H := H.let [] [] [false, true] [0]
        exact wl_end ⟨hf, H⟩
      · rw [if_neg (nt hc2)] at hGc5
        have hf := hf.lit 28 rfl hc2
        refine pRun_ok (tb := tab) (n := 48) tabOk 4 _ _ hf rfl rfl fun a hf => ?_
        obtain ⟨e, he, hGc5⟩ := bind_some hGc5
        refine wlg hf rfl rfl rfl (op_iaddr hf H Try.underlying35 TF.sz3 0 rfl rfl rfl he (by decide) fun p o cs a hf hr H => ?_)
        obtain rfl := hr
        refine wlg hf rfl rfl rfl (op_q hf (rq_loadI hf H TF.ls3 0 0 rfl rfl rfl) rfl (by decide) fun a hf => ?_)
        refine pRun_ok (tb := tab) (n := 48) tabOk 2 _ _ hf rfl rfl fun a hf => ?_
        obtain ⟨y3, hy3, hGc5⟩ := bind_some hGc5
        refine wlg hf rfl rfl rfl (op_call hf TF.cl106 rfl (by decide) (spec_l22Level_ok (S := fun _ => True) mk_int hy3) fun v6 w a hp6 hf => ?_)
        obtain ⟨hb3, hp6⟩ := hp6
        obtain rfl := VR_bool hp6
        have H := H.keep hb3
        refine pRun_ok (tb := tab) (n := 48) tabOk 2 _ _ hf rfl rfl fun a hf => ?_
        obtain rfl := Option.some.inj hGc5
        have hf := hf.prune [3, 11, 39] rfl
        have H := H.let [] [] [false, true] [1]
        exact wl_end ⟨hf, H⟩
  rintro a w ⟨hf, H⟩
  refine then_n ?_
  refine (Bool.eq_false_or_eq_true (c5)).elim (fun hc3 => ?_) (fun hc3 => ?_)
  · rw [if_pos hc3] at hF
    refine cd_t hf rfl hc3 ?_
    refine sq ?_
    refine reg ?_
    refine pRun_ok (tb := tab) (n := 48) tabOk 2 _ _ hf rfl rfl fun a hf => ?_
    refine wl_end ?_
    refine then_n ?_
    refine wp_ret (then_r (?_))
    obtain rfl := Option.some.inj hF
    refine ret_2 (fn := Try.f89) (r := .tmp 8) (s := .tmp 9) hf rfl (rv_tmp hf rfl) (rv_tmp hf rfl) ?_
    exact ⟨_, rfl, H.bel, _, _, rfl, mk_int, mk_bool⟩
  · rw [if_neg (nt hc3)] at hF
    refine cd_f hf rfl hc3 ?_
    refine wp_skip ?_
    refine then_n ?_
    refine sq ?_
    refine reg ?_
    refine pRun_ok (tb := tab) (n := 48) tabOk 4 _ _ hf rfl rfl fun a hf => ?_
    obtain ⟨e2, he2, hF⟩ := bind_some hF
    refine wl0 rfl (op_iaddr hf H Try.underlying35 TF.sz3 0 rfl rfl rfl he2 (by decide) fun p2 o2 cs2 a hf hr2 H => ?_)
    obtain rfl := hr2
    refine wl0 rfl (op_q hf (rq_loadI hf H TF.ls3 0 0 rfl rfl rfl) rfl (by decide) fun a hf => ?_)
    refine pRun_ok (tb := tab) (n := 48) tabOk 4 _ _ hf rfl rfl fun a hf => ?_
    refine wl_end ?_
    refine then_n ?_
    refine wp_ret (?_)
    obtain rfl := Option.some.inj hF
    refine ret_2 (fn := Try.f89) (r := .tmp 8) (s := .tmp 9) hf rfl (rv_tmp hf rfl) (rv_tmp hf rfl) ?_
    exact ⟨_, rfl, H.bel, _, _, rfl, mk_int, mk_bool⟩

/- loop.example/g00897/impl.PowerProfile -/
set_option maxHeartbeats 1000000 in
theorem impl_PowerProfile_ok {fu : Nat} {w0 : World} {S : Nat → Prop} {v0_ : Value} {v1_ : Value} {v2_ : Value} {line : List Span} {list : List Amplifier} {launch : Int} {r : List Int × Bool} (h0 : VR w0 S v0_ line) (h1 : VR w0 S v1_ list) (h2 : VR w0 S v2_ launch) (hF : impl_PowerProfile fu line list launch = some r) :
    Calls Try.prog 94 [v0_, v1_, v2_].toArray w0 fun e w' => ∃ v, e = .returned v ∧ (Below w0.heap.size w0 w' ∧ ∃ F0, ∃ u0 u1, v = .tuple #[u0, u1] ∧ VO w' F0 u0 r.1 ∧ VR w' (St ⟨w0, []⟩ S [] [] [] true) u1 r.2 ∧ New w0 w' F0) := by
  obtain ⟨A, c, rfl, hl⟩ := VR_list h0
  obtain ⟨A2, c2, rfl, hl2⟩ := VR_list h1
  obtain rfl := VR_int h2
  have H := Mem.start ⟨w0, []⟩ S
  have H := H.pushArg (MP.val [(.slice A line.length c)] line) hl
  have H := H.pushArg (MP.val [(.slice A2 list.length c2)] list) hl2
  refine enter Try.func94 rfl rfl (nle rfl) rfl fun a hf => ?_
  rw [impl_PowerProfile] at hF
  refine sq ?_
  refine reg ?_
  refine pRun_ok (tb := tab) (n := 21) tabOk 2 _ _ hf rfl rfl fun a hf => ?_
  refine wl_end ?_
  refine then_n ?_
  refine sq ?_
  refine reg ?_
  refine pRun_ok (tb := tab) (n := 21) tabOk 3 _ _ hf rfl rfl fun a hf => ?_
  obtain ⟨y, hy, hF⟩ := bind_some hF
  refine wl0 rfl (op_call hf TF.cl146 rfl (by decide) (impl_profile_ok (S := fun _ => True) (mk_list (rep_true (α := List Span) (H.get 1 rfl))) (mk_list (rep_true (α := List Amplifier) (H.get 0 rfl))) mk_int hy) fun v w a hp hf => ?_)
  obtain ⟨hb, F, F2, v2, v3, v4, rfl, hp2, hp3, hp4, hN⟩ := hp
  obtain ⟨A3, c3, rfl, hl3⟩ := VO_list hp2
  obtain ⟨A4, c4, rfl, hl4⟩ := VO_list hp3
  obtain rfl := VR_bool hp4
  have H := H.addOwn hb (X := [(⟨F, MP.own F [(.slice A3 y.1.length c3)] (y.1 : List Int)⟩ : DI), (⟨F2, MP.own F2 [(.slice A4 y.2.1.length c4)] (y.2.1 : List Int)⟩ : DI)]) (by simpa using hN.1) (ps1 hl3 (ps1 hl4 ps0)) (by simpa using hN.2)
  have H := H.lend 0 rfl
  have H := H.lend 1 rfl
  refine pRun_ok (tb := tab) (n := 21) tabOk 7 _ _ hf rfl rfl fun a hf => ?_
  have hf := hf.prune [9, 10] rfl
  refine wl_end ?_
  refine then_n ?_
  refine sq ?_
  refine reg ?_
  refine pRun_ok (tb := tab) (n := 21) tabOk 4 _ _ hf rfl rfl fun a hf => ?_
  refine wl_end ?_
  refine then_n ?_
  refine wp_ret (?_)
  have H := H.frontD 1 rfl
  obtain rfl := Option.some.inj hF
  refine ret_2 (fn := Try.f94) (r := .tmp 6) (s := .tmp 7) hf rfl (rv_tmp hf rfl) (rv_tmp hf rfl) ?_
  have hN := H.ends (X := [(⟨F2, MP.own F2 [(.slice A4 y.2.1.length c4)] (y.2.1 : List Int)⟩ : DI)])
  simp only [List.flatMap_cons, List.flatMap_nil, List.append_nil, List.append_assoc] at hN
  exact ⟨_, rfl, H.bel, F2, _, _, rfl, (mko_list (H.ownAt 0 rfl)), mk_bool, hN⟩

/- loop.example/g00897/laws.FnPower -/
set_option maxHeartbeats 1000000 in
theorem laws_FnPower_ok {fu : Nat} {w0 : World} {S : Nat → Prop} {v0_ : Value} {code : List By} {r : Bool} (h0 : VR w0 S v0_ code) (hF : laws_FnPower fu code = some r) :
    Calls Try.prog 23 [v0_].toArray w0 fun e w' => ∃ v, e = .returned v ∧ (Below w0.heap.size w0 w' ∧ VR w' (St ⟨w0, []⟩ S [] [] [] true) v r) := by
  obtain ⟨A, c, rfl, hl⟩ := VR_list h0
  have H := Mem.start ⟨w0, []⟩ S
  have H := H.pushArg (MP.val [(.slice A code.length c)] code) hl
  refine enter Try.func23 rfl rfl (nle rfl) rfl fun a hf => ?_
  rw [laws_FnPower] at hF
  refine sq ?_
  refine reg ?_
  refine pRun_ok (tb := tab) (n := 173) tabOk 1 _ _ hf rfl rfl fun a hf => ?_
  refine wl_end ?_
  refine then_n ?_
  refine sq ?_
  refine sq ?_
  refine reg ?_
  refine pRun_ok (tb := tab) (n := 173) tabOk 1 _ _ hf rfl rfl fun a hf => ?_
  obtain ⟨y, hy, hF⟩ := bind_some hF
  refine wl0 rfl (op_call hf TF.cl76 rfl (by decide) (laws_vBig_ok (S := fun _ => True) (mk_list (rep_true (α := List By) (H.get 0 rfl))) hy) fun v w a hp hf => ?_)
  obtain ⟨hb, hp⟩ := hp
  obtain rfl := VR_bool hp
  have H := H.keep hb
  refine wl_end ?_
  refine then_n ?_
  refine (Bool.eq_false_or_eq_true (y)).elim (fun hc => ?_) (fun hc => ?_)
  · rw [if_pos hc] at hF
    refine cd_t hf rfl hc ?_
    refine sq ?_
    refine reg ?_
    refine pRun_ok (tb := tab) (n := 173) tabOk 1 _ _ hf rfl rfl fun a hf => ?_
    refine wl_end ?_
    refine then_n ?_
    refine wp_ret (then_r (?_))
    obtain rfl := Option.some.inj hF
    refine ret_1 (fn := Try.f23) (r := .tmp 2) hf rfl (rv_tmp hf rfl) ?_
    exact ⟨_, rfl, H.bel, mk_bool⟩
  · rw [if_neg (nt hc)] at hF
    refine cd_f hf rfl hc ?_
    refine wp_skip ?_
    refine then_n ?_
    refine sq ?_
    refine reg ?_
    refine pRun_ok (tb := tab) (n := 173) tabOk 1 _ _ hf rfl rfl fun a hf => ?_
    obtain ⟨y2, hy2, hF⟩ := bind_some hF
    refine wl0 rfl (op_call hf TF.cl95 rfl (by decide) (spec_DrawPlaceAmplifiers_ok (S := fun _ => True) (mk_list (rep_true (α := List By) (H.get 0 rfl))) hy2) fun v2 w a hp2 hf => ?_)
    obtain ⟨hb2, v3, v4, v5, v6, rfl, hp3, hp4, hp5, hp6⟩ := hp2
    obtain ⟨A2, c2, rfl, hl2⟩ := VR_list hp3
    replace hl2 := H.resF (f := MP.val [(.slice A2 y2.1.length c2)] y2.1) hl2
    obtain rfl := Amplifier_open hp4
    obtain rfl := VR_int hp5
    obtain rfl := VR_int hp6
    have H := H.keep hb2
    have H := H.push (true, MP.val [(.slice A2 y2.1.length c2)] y2.1) hl2
    refine pRun_ok (tb := tab) (n := 173) tabOk 5 _ _ hf rfl rfl fun a hf => ?_
    refine wl0 rfl (op_alloc hf H TF.zv88 rfl (by decide) fun b' a w hf H => ?_)
    refine pRun_ok (tb := tab) (n := 173) tabOk 1 _ _ hf rfl rfl fun a hf => ?_
    refine wl0 rfl (op_storeB hf H 0 TF.sz88 rfl rfl rfl rfl rfl rfl (nle rfl) fun w H => ?_)
    refine pRun_ok (tb := tab) (n := 173) tabOk 2 _ _ hf rfl rfl fun a hf => ?_
    refine wl_end ?_
    refine then_n ?_
    refine sq ?_
    refine reg ?_
    refine pRun_ok (tb := tab) (n := 173) tabOk 1 _ _ hf rfl rfl fun a hf => ?_
    refine wl0 rfl (op_q hf (rq_loadBN hf H TF.la88 0 rfl rfl rfl rfl) rfl (by decide) fun a hf => ?_)
    refine pRun_ok (tb := tab) (n := 173) tabOk 2 _ _ hf rfl rfl fun a hf => ?_
    obtain ⟨y3, hy3, hF⟩ := bind_some hF
    refine wl0 rfl (op_call hf TF.cl84 rfl (by decide) (impl_PlaceAmplifiers_ok (S := fun _ => True) (mk_list (rep_true (α := List Span) (H.get 0 rfl))) Amplifier_mkv mk_int mk_int hy3) fun v7 w a hp7 hf => ?_)
    obtain ⟨hb3, F, v8, v9, rfl, hp8, hp9, hN⟩ := hp7
    obtain ⟨A3, c3, rfl, hl3⟩ := VO_list hp8
    obtain rfl := VR_bool hp9
    have H := H.addOwn hb3 (X := [(⟨F, MP.own F [(.slice A3 y3.1.length c3)] (y3.1 : List Amplifier)⟩ : DI)]) (by simpa using hN.1) (ps1 hl3 ps0) (by simpa using hN.2)
    have H := H.lend 0 rfl
    refine pRun_ok (tb := tab) (n := 173) tabOk 5 _ _ hf rfl rfl fun a hf => ?_
    have hf := hf.prune [0, 3, 4, 5, 6, 7, 8] rfl
    refine wl_end ?_
    refine then_n ?_
    refine sq ?_
    refine sq ?_
    refine reg ?_
    refine pRun_ok (tb := tab) (n := 173) tabOk 1 _ _ hf rfl rfl fun a hf => ?_
    refine wl0 rfl (op_q hf (rq_loadBN hf H TF.la88 0 rfl rfl rfl rfl) rfl (by decide) fun a hf => ?_)
    refine pRun_ok (tb := tab) (n := 173) tabOk 2 _ _ hf rfl rfl fun a hf => ?_
    obtain ⟨y4, hy4, hF⟩ := bind_some hF
    refine wl0 rfl (op_call hf TF.cl81 rfl (by decide) (spec_PlaceAmplifiers_ok (S := fun _ => True) (mk_list (rep_true (α := List Span) (H.get 1 rfl))) Amplifier_mkv mk_int mk_int hy4) fun v10 w a hp10 hf => ?_)
    obtain ⟨hb4, F3, v11, v12, rfl, hp11, hp12, hN2⟩ := hp10
    obtain ⟨A4, c4, rfl, hl4⟩ := VO_list hp11
    obtain rfl := VR_bool hp12
    have H := H.addOwn hb4 (X := [(⟨F3, MP.own F3 [(.slice A4 y4.1.length c4)] (y4.1 : List Amplifier)⟩ : DI)]) (by simpa using hN2.1) (ps1 hl4 ps0) (by simpa using hN2.2)
    have H := H.lend 0 rfl
    refine pRun_ok (tb := tab) (n := 173) tabOk 5 _ _ hf rfl rfl fun a hf => ?_
    refine wl_end ?_
    refine then_n ?_
    refine sq ?_
    obtain ⟨c5, hGc5, hF⟩ := bind_some hF
    refine mid (fun a w => Fr a 173 [(0, (.slice A code.length c)), (3, (.slice A2 y2.1.length c2)), (5, (.int .i64 y2.2.2.1)), (6, (.int .i64 y2.2.2.2)), (7, (.slice A3 y3.1.length c3)), (8, (.bool y3.2)), (61, (.bool c5))] ∧ Mem ⟨w0, []⟩ S [] [] [⟨F, MP.own F [(.slice A3 y3.1.length c3)] (y3.1 : List Amplifier)⟩] [(true, MP.val [(.slice A3 y3.1.length c3)] (y3.1 : List Amplifier)), (true, MP.val [(.slice A2 y2.1.length c2)] (y2.1 : List Span)), (false, MP.val [(.slice A code.length c)] (code : List By))] w) ?_ ?_
    · refine reg ?_
      refine pRun_ok (tb := tab) (n := 173) tabOk 4 _ _ hf rfl rfl fun a hf => ?_
      refine (Bool.eq_false_or_eq_true (y3.2 != y4.2)).elim (fun hc2 => ?_) (fun hc2 => ?_)
      · rw [if_pos hc2] at hGc5
        have hf := hf.lit 55 rfl hc2
        refine pRun_ok (tb := tab) (n := 173) tabOk 6 _ _ hf rfl rfl fun a hf => ?_
        obtain rfl := Option.some.inj hGc5
        have hf := hf.prune [0, 3, 5, 6, 7, 8, 61] rfl
        have H := H.let [false] [] [false, true] [1, 2, 3]
        exact wl_end ⟨hf, H⟩
      · rw [if_neg (nt hc2)] at hGc5
        have hf := hf.lit 55 rfl hc2
        refine pRun_ok (tb := tab) (n := 173) tabOk 6 _ _ hf rfl rfl fun a hf => ?_
        obtain rfl := Option.some.inj hGc5
        have hf := hf.prune [0, 3, 5, 6, 7, 8, 61] rfl
        have H := H.let [false] [] [false, true] [1, 2, 3]
        exact wl_end ⟨hf, H⟩
    rintro a w ⟨hf, H⟩
    refine then_n ?_
    refine (Bool.eq_false_or_eq_true (c5)).elim (fun hc3 => ?_) (fun hc3 => ?_)
    · rw [if_pos hc3] at hF
      refine cd_t hf rfl hc3 ?_
      refine sq ?_
      refine reg ?_
      refine pRun_ok (tb := tab) (n := 173) tabOk 1 _ _ hf rfl rfl fun a hf => ?_
      refine wl_end ?_
      refine then_n ?_
      refine wp_ret (then_r (?_))
      obtain rfl := Option.some.inj hF
      refine ret_1 (fn := Try.f23) (r := .tmp 2) hf rfl (rv_tmp hf rfl) ?_
      exact ⟨_, rfl, H.bel, mk_bool⟩
    · rw [if_neg (nt hc3)] at hF
      refine cd_f hf rfl hc3 ?_
      refine wp_skip ?_
      refine then_n ?_
      refine sq ?_
      refine sq ?_
      refine reg ?_
      refine pRun_ok (tb := tab) (n := 173) tabOk 1 _ _ hf rfl rfl fun a hf => ?_
      refine wl_end ?_
      refine then_n ?_
      refine (Bool.eq_false_or_eq_true (y3.2)).elim (fun hc4 => ?_) (fun hc4 => ?_)
      · rw [if_pos hc4] at hF
        refine cd_t hf rfl hc4 ?_
        refine sq ?_
        refine reg ?_
        refine pRun_ok (tb := tab) (n := 173) tabOk 3 _ _ hf rfl rfl fun a hf => ?_
        obtain ⟨y5, hy5, hF⟩ := bind_some hF
        refine wl0 rfl (op_call hf TF.cl92 rfl (by decide) (impl_WorstLevel_ok (S := fun _ => True) (mk_list (rep_true (α := List Span) (H.get 1 rfl))) (mk_list (rep_true (α := List Amplifier) (H.get 0 rfl))) mk_int hy5) fun v13 w a hp13 hf => ?_)
        obtain ⟨hb5, v14, v15, v16, rfl, hp14, hp15, hp16⟩ := hp13
        obtain rfl := VR_int hp14
        obtain rfl := VR_int hp15
        obtain rfl := VR_bool hp16
        have H := H.keep hb5
        refine pRun_ok (tb := tab) (n := 173) tabOk 7 _ _ hf rfl rfl fun a hf => ?_
        have hf := hf.prune [0, 6, 11, 13] rfl
        refine wl_end ?_
        refine then_n ?_
        refine sq ?_
        obtain ⟨c6, hGc6, hF⟩ := bind_some hF
        refine mid (fun a w => Fr a 173 [(0, (.slice A code.length c)), (77, (.bool c6))] ∧ Mem ⟨w0, []⟩ S [] [] [] [(false, MP.val [(.slice A code.length c)] (code : List By))] w) ?_ ?_
        · refine reg ?_
          refine pRun_ok (tb := tab) (n := 173) tabOk 3 _ _ hf rfl rfl fun a hf => ?_
          refine (Bool.eq_false_or_eq_true (!y5.2.2)).elim (fun hc5 => ?_) (fun hc5 => ?_)
          · rw [if_pos hc5] at hGc6
            have hf := hf.lit 73 rfl hc5
            refine pRun_ok (tb := tab) (n := 173) tabOk 4 _ _ hf rfl rfl fun a hf => ?_
            obtain rfl := Option.some.inj hGc6
            have hf := hf.prune [0, 77] rfl
            have H := H.let [] [] [false] [2]
            exact wl_end ⟨hf, H⟩
          · rw [if_neg (nt hc5)] at hGc6
            have hf := hf.lit 73 rfl hc5
            refine pRun_ok (tb := tab) (n := 173) tabOk 4 _ _ hf rfl rfl fun a hf => ?_
            obtain rfl := Option.some.inj hGc6
            have hf := hf.prune [0, 77] rfl
            have H := H.let [] [] [false] [2]
            exact wl_end ⟨hf, H⟩
        rintro a w ⟨hf, H⟩
        refine then_n ?_
        refine (Bool.eq_false_or_eq_true (c6)).elim (fun hc6 => ?_) (fun hc6 => ?_)
        · rw [if_pos hc6] at hF
          refine cd_t hf rfl hc6 ?_
          refine sq ?_
          refine reg ?_
          refine pRun_ok (tb := tab) (n := 173) tabOk 1 _ _ hf rfl rfl fun a hf => ?_
          refine wl_end ?_
          refine then_n ?_
          refine wp_ret (then_r (?_))
          obtain rfl := Option.some.inj hF
          refine ret_1 (fn := Try.f23) (r := .tmp 2) hf rfl (rv_tmp hf rfl) ?_
          exact ⟨_, rfl, H.bel, mk_bool⟩
        · rw [if_neg (nt hc6)] at hF
          refine cd_f hf rfl hc6 ?_
          refine wp_skip ?_
          refine then_n ?_
          refine sq ?_
          refine reg ?_
          refine pRun_ok (tb := tab) (n := 173) tabOk 1 _ _ hf rfl rfl fun a hf => ?_
          obtain ⟨y6, hy6, hF⟩ := bind_some hF
          refine wl0 rfl (op_call hf TF.cl96 rfl (by decide) (spec_DrawPowerMargin_ok (S := fun _ => True) (mk_list (rep_true (α := List By) (H.get 0 rfl))) hy6) fun v17 w a hp17 hf => ?_)
          obtain ⟨hb6, v18, v19, v20, v21, rfl, hp18, hp19, hp20, hp21⟩ := hp17
          obtain ⟨A5, c7, rfl, hl5⟩ := VR_list hp18
          replace hl5 := H.resF (f := MP.val [(.slice A5 y6.1.length c7)] y6.1) hl5
          obtain ⟨A6, c8, rfl, hl6⟩ := VR_list hp19
          replace hl6 := H.resF (f := MP.val [(.slice A6 y6.2.1.length c8)] y6.2.1) hl6
          obtain rfl := VR_int hp20
          obtain rfl := VR_int hp21
          have H := H.keep hb6
          have H := H.push (true, MP.val [(.slice A5 y6.1.length c7)] y6.1) hl5
          have H := H.push (true, MP.val [(.slice A6 y6.2.1.length c8)] y6.2.1) hl6
          refine pRun_ok (tb := tab) (n := 173) tabOk 9 _ _ hf rfl rfl fun a hf => ?_
          refine wl_end ?_
          refine then_n ?_
          refine sq ?_
          refine reg ?_
          refine pRun_ok (tb := tab) (n := 173) tabOk 4 _ _ hf rfl rfl fun a hf => ?_
          obtain ⟨y7, hy7, hF⟩ := bind_some hF
          refine wl0 rfl (op_call hf TF.cl90 rfl (by decide) (impl_PowerMargin_ok (S := fun _ => True) (mk_list (rep_true (α := List Span) (H.get 1 rfl))) (mk_list (rep_true (α := List Amplifier) (H.get 0 rfl))) mk_int mk_int hy7) fun v22 w a hp22 hf => ?_)
          obtain ⟨hb7, v23, v24, rfl, hp23, hp24⟩ := hp22
          obtain rfl := VR_int hp23
          obtain rfl := VR_bool hp24
          have H := H.keep hb7
          refine pRun_ok (tb := tab) (n := 173) tabOk 5 _ _ hf rfl rfl fun a hf => ?_
          have hf := hf.prune [14, 15, 16, 17, 18, 19] rfl
          refine wl_end ?_
          refine then_n ?_
          refine sq ?_
          refine sq ?_
          refine reg ?_
          refine pRun_ok (tb := tab) (n := 173) tabOk 4 _ _ hf rfl rfl fun a hf => ?_
          obtain ⟨y8, hy8, hF⟩ := bind_some hF
          refine wl0 rfl (op_call hf TF.cl89 rfl (by decide) (spec_PowerMargin_ok (S := fun _ => True) (mk_list (rep_true (α := List Span) (H.get 1 rfl))) (mk_list (rep_true (α := List Amplifier) (H.get 0 rfl))) mk_int mk_int hy8) fun v25 w a hp25 hf => ?_)
          obtain ⟨hb8, v26, v27, rfl, hp26, hp27⟩ := hp25
          obtain rfl := VR_int hp26
          obtain rfl := VR_bool hp27
          have H := H.keep hb8
          refine pRun_ok (tb := tab) (n := 173) tabOk 5 _ _ hf rfl rfl fun a hf => ?_
          refine wl_end ?_
          refine then_n ?_
          refine sq ?_
          obtain ⟨c9, hGc9, hF⟩ := bind_some hF
          refine mid (fun a w => Fr a 173 [(14, (.slice A5 y6.1.length c7)), (15, (.slice A6 y6.2.1.length c8)), (16, (.int .i64 y6.2.2.1)), (17, (.int .i64 y6.2.2.2)), (18, (.int .i64 y7.1)), (19, (.bool y7.2)), (20, (.int .i64 y8.1)), (21, (.bool y8.2)), (112, (.bool c9))] ∧ Mem ⟨w0, []⟩ S [] [] [] [(true, MP.val [(.slice A6 y6.2.1.length c8)] (y6.2.1 : List Amplifier)), (true, MP.val [(.slice A5 y6.1.length c7)] (y6.1 : List Span))] w) ?_ ?_
          · refine reg ?_
            refine pRun_ok (tb := tab) (n := 173) tabOk 4 _ _ hf rfl rfl fun a hf => ?_
            refine (Bool.eq_false_or_eq_true (y7.1 != y8.1)).elim (fun hc7 => ?_) (fun hc7 => ?_)
            · rw [if_pos hc7] at hGc9
              have hf := hf.lit 104 rfl hc7
              refine pRun_ok (tb := tab) (n := 173) tabOk 8 _ _ hf rfl rfl fun a hf => ?_
              obtain rfl := Option.some.inj hGc9
              have hf := hf.prune [14, 15, 16, 17, 18, 19, 20, 21, 112] rfl
              have H := H.let [] [] [] [0, 1]
              exact wl_end ⟨hf, H⟩
            · rw [if_neg (nt hc7)] at hGc9
              have hf := hf.lit 104 rfl hc7
              refine pRun_ok (tb := tab) (n := 173) tabOk 5 _ _ hf rfl rfl fun a hf => ?_
              refine (Bool.eq_false_or_eq_true (y7.2 != y8.2)).elim (fun hc8 => ?_) (fun hc8 => ?_)
              · rw [if_pos hc8] at hGc9
                have hf := hf.lit 109 rfl hc8
                refine pRun_ok (tb := tab) (n := 173) tabOk 3 _ _ hf rfl rfl fun a hf => ?_
                obtain rfl := Option.some.inj hGc9
                have hf := hf.prune [14, 15, 16, 17, 18, 19, 20, 21, 112] rfl
                have H := H.let [] [] [] [0, 1]
                exact wl_end ⟨hf, H⟩
              · rw [if_neg (nt hc8)] at hGc9
                have hf := hf.lit 109 rfl hc8
                refine pRun_ok (tb := tab) (n := 173) tabOk 3 _ _ hf rfl rfl fun a hf => ?_
                obtain rfl := Option.some.inj hGc9
                have hf := hf.prune [14, 15, 16, 17, 18, 19, 20, 21, 112] rfl
                have H := H.let [] [] [] [0, 1]
                exact wl_end ⟨hf, H⟩
          rintro a w ⟨hf, H⟩
          refine then_n ?_
          refine (Bool.eq_false_or_eq_true (c9)).elim (fun hc9 => ?_) (fun hc9 => ?_)
          · rw [if_pos hc9] at hF
            refine cd_t hf rfl hc9 ?_
            refine sq ?_
            obtain ⟨c10, hGc10, hF⟩ := bind_some hF
            refine mid (fun a w => Fr a 173 [(2, (.bool c10))] ∧ Mem ⟨w0, []⟩ S [] [] [] [] w) ?_ ?_
            · refine reg ?_
              refine pRun_ok (tb := tab) (n := 173) tabOk 4 _ _ hf rfl rfl fun a hf => ?_
              refine (Bool.eq_false_or_eq_true (y7.1 == y8.1)).elim (fun hc10 => ?_) (fun hc10 => ?_)
              · rw [if_pos hc10] at hGc10
                have hf := hf.lit 116 rfl hc10
                refine pRun_ok (tb := tab) (n := 173) tabOk 5 _ _ hf rfl rfl fun a hf => ?_
                obtain rfl := Option.some.inj hGc10
                have hf := hf.prune [2] rfl
                have H := H.let [] [] [] []
                exact wl_end ⟨hf, H⟩
              · rw [if_neg (nt hc10)] at hGc10
                have hf := hf.lit 116 rfl hc10
                refine pRun_ok (tb := tab) (n := 173) tabOk 5 _ _ hf rfl rfl fun a hf => ?_
                obtain rfl := Option.some.inj hGc10
                have hf := hf.prune [2] rfl
                have H := H.let [] [] [] []
                exact wl_end ⟨hf, H⟩
            rintro a w ⟨hf, H⟩
            refine then_n ?_
            refine wp_ret (then_r (?_))
            obtain rfl := Option.some.inj hF
            refine ret_1 (fn := Try.f23) (r := .tmp 2) hf rfl (rv_tmp hf rfl) ?_
            exact ⟨_, rfl, H.bel, mk_bool⟩
          · rw [if_neg (nt hc9)] at hF
            refine cd_f hf rfl hc9 ?_
            refine wp_skip ?_
            refine then_n ?_
            refine sq ?_
            refine reg ?_
            refine pRun_ok (tb := tab) (n := 173) tabOk 3 _ _ hf rfl rfl fun a hf => ?_
            obtain ⟨y9, hy9, hF⟩ := bind_some hF
            refine wl0 rfl (op_call hf TF.cl94 rfl (by decide) (impl_PowerProfile_ok (S := fun _ => True) (mk_list (rep_true (α := List Span) (H.get 1 rfl))) (mk_list (rep_true (α := List Amplifier) (H.get 0 rfl))) mk_int hy9) fun v28 w a hp28 hf => ?_)
            obtain ⟨hb9, F5, v29, v30, rfl, hp29, hp30, hN3⟩ := hp28
            obtain ⟨A7, c11, rfl, hl7⟩ := VO_list hp29
            obtain rfl := VR_bool hp30
            have H := H.addOwn hb9 (X := [(⟨F5, MP.own F5 [(.slice A7 y9.1.length c11)] (y9.1 : List Int)⟩ : DI)]) (by simpa using hN3.1) (ps1 hl7 ps0) (by simpa using hN3.2)
            have H := H.lend 0 rfl
            refine pRun_ok (tb := tab) (n := 173) tabOk 5 _ _ hf rfl rfl fun a hf => ?_
            refine wl_end ?_
            refine then_n ?_
            refine sq ?_
            refine reg ?_
            refine pRun_ok (tb := tab) (n := 173) tabOk 3 _ _ hf rfl rfl fun a hf => ?_
            obtain ⟨y10, hy10, hF⟩ := bind_some hF
            refine wl0 rfl (op_call hf TF.cl92 rfl (by decide) (impl_WorstLevel_ok (S := fun _ => True) (mk_list (rep_true (α := List Span) (H.get 2 rfl))) (mk_list (rep_true (α := List Amplifier) (H.get 1 rfl))) mk_int hy10) fun v31 w a hp31 hf => ?_)
            obtain ⟨hb10, v32, v33, v34, rfl, hp32, hp33, hp34⟩ := hp31
            obtain rfl := VR_int hp32
            obtain rfl := VR_int hp33
            obtain rfl := VR_bool hp34
            have H := H.keep hb10
            refine pRun_ok (tb := tab) (n := 173) tabOk 7 _ _ hf rfl rfl fun a hf => ?_
            have hf := hf.prune [14, 17, 18, 22, 23, 24, 25, 26] rfl
            refine wl_end ?_
            refine then_n ?_
            refine sq ?_
            obtain ⟨c12, hGc12, hF⟩ := bind_some hF
            refine mid (fun a w => Fr a 173 [(2, (.bool c12))] ∧ Mem ⟨w0, []⟩ S [] [] [] [] w) ?_ ?_
            · refine reg ?_
              refine pRun_ok (tb := tab) (n := 173) tabOk 2 _ _ hf rfl rfl fun a hf => ?_
              refine (Bool.eq_false_or_eq_true (y9.2)).elim (fun hc11 => ?_) (fun hc11 => ?_)
              · rw [if_pos hc11] at hGc12
                have hf := hf.lit 137 rfl hc11
                refine pRun_ok (tb := tab) (n := 173) tabOk 3 _ _ hf rfl rfl fun a hf => ?_
                refine (Bool.eq_false_or_eq_true (y10.2.2)).elim (fun hc12 => ?_) (fun hc12 => ?_)
                · rw [if_pos hc12] at hGc12
                  have hf := hf.lit 140 rfl hc12
                  refine pRun_ok (tb := tab) (n := 173) tabOk 7 _ _ hf rfl rfl fun a hf => ?_
                  refine (Bool.eq_false_or_eq_true ((y9.1.length : Int) == (y6.1.length : Int))).elim (fun hc13 => ?_) (fun hc13 => ?_)
                  · rw [if_pos hc13] at hGc12
                    have hf := hf.lit 147 rfl hc13
                    refine pRun_ok (tb := tab) (n := 173) tabOk 4 _ _ hf rfl rfl fun a hf => ?_
                    obtain ⟨e, he, hGc12⟩ := bind_some hGc12
                    refine wlg hf rfl rfl rfl (op_iaddr hf H Try.underlying35 TF.sz3 0 rfl rfl rfl he (by decide) fun p o cs a hf hr H => ?_)
                    obtain rfl := hr
                    refine wlg hf rfl rfl rfl (op_q hf (rq_loadI hf H TF.ls3 0 0 rfl rfl rfl) rfl (by decide) fun a hf => ?_)
                    refine pRun_ok (tb := tab) (n := 173) tabOk 6 _ _ hf rfl rfl fun a hf => ?_
                    refine (Bool.eq_false_or_eq_true ((w64 (e - y6.2.2.2)) == y7.1)).elim (fun hc14 => ?_) (fun hc14 => ?_)
                    · rw [if_pos hc14] at hGc12
                      have hf := hf.lit 159 rfl hc14
                      refine pRun_ok (tb := tab) (n := 173) tabOk 6 _ _ hf rfl rfl fun a hf => ?_
                      refine (Bool.eq_false_or_eq_true (decide (y10.2.1 < (y9.1.length : Int)))).elim (fun hc15 => ?_) (fun hc15 => ?_)
                      · rw [if_pos hc15] at hGc12
                        have hf := hf.lit 165 rfl hc15
                        refine pRun_ok (tb := tab) (n := 173) tabOk 3 _ _ hf rfl rfl fun a hf => ?_
                        obtain ⟨e2, he2, hGc12⟩ := bind_some hGc12
                        refine wlg hf rfl rfl rfl (op_iaddr hf H Try.underlying35 TF.sz3 1 rfl rfl rfl he2 (by decide) fun p2 o2 cs2 a hf hr2 H => ?_)
                        obtain rfl := hr2
                        refine wlg hf rfl rfl rfl (op_q hf (rq_loadI hf H TF.ls3 0 0 rfl rfl rfl) rfl (by decide) fun a hf => ?_)
                        refine pRun_ok (tb := tab) (n := 173) tabOk 3 _ _ hf rfl rfl fun a hf => ?_
                        obtain rfl := Option.some.inj hGc12
                        have hf := hf.prune [2] rfl
                        have H := H.let [] [] [false] []
                        exact wl_end ⟨hf, H⟩
                      · rw [if_neg (nt hc15)] at hGc12
                        have hf := hf.lit 165 rfl hc15
                        refine pRun_ok (tb := tab) (n := 173) tabOk 8 _ _ hf rfl rfl fun a hf => ?_
                        obtain rfl := Option.some.inj hGc12
                        have hf := hf.prune [2] rfl
                        have H := H.let [] [] [false] []
                        exact wl_end ⟨hf, H⟩
                    · rw [if_neg (nt hc14)] at hGc12
                      have hf := hf.lit 159 rfl hc14
                      refine pRun_ok (tb := tab) (n := 173) tabOk 14 _ _ hf rfl rfl fun a hf => ?_
                      obtain rfl := Option.some.inj hGc12
                      have hf := hf.prune [2] rfl
                      have H := H.let [] [] [false] []
                      exact wl_end ⟨hf, H⟩
                  · rw [if_neg (nt hc13)] at hGc12
                    have hf := hf.lit 147 rfl hc13
                    refine pRun_ok (tb := tab) (n := 173) tabOk 26 _ _ hf rfl rfl fun a hf => ?_
                    obtain rfl := Option.some.inj hGc12
                    have hf := hf.prune [2] rfl
                    have H := H.let [] [] [false] []
                    exact wl_end ⟨hf, H⟩
                · rw [if_neg (nt hc12)] at hGc12
                  have hf := hf.lit 140 rfl hc12
                  refine pRun_ok (tb := tab) (n := 173) tabOk 33 _ _ hf rfl rfl fun a hf => ?_
                  obtain rfl := Option.some.inj hGc12
                  have hf := hf.prune [2] rfl
                  have H := H.let [] [] [false] []
                  exact wl_end ⟨hf, H⟩
              · rw [if_neg (nt hc11)] at hGc12
                have hf := hf.lit 137 rfl hc11
                refine pRun_ok (tb := tab) (n := 173) tabOk 36 _ _ hf rfl rfl fun a hf => ?_
                obtain rfl := Option.some.inj hGc12
                have hf := hf.prune [2] rfl
                have H := H.let [] [] [false] []
                exact wl_end ⟨hf, H⟩
            rintro a w ⟨hf, H⟩
            refine then_n ?_
            refine wp_ret (?_)
            obtain rfl := Option.some.inj hF
            refine ret_1 (fn := Try.f23) (r := .tmp 2) hf rfl (rv_tmp hf rfl) ?_
            exact ⟨_, rfl, H.bel, mk_bool⟩
      · rw [if_neg (nt hc4)] at hF
        refine cd_f hf rfl hc4 ?_
        refine wp_skip ?_
        refine then_n ?_
        refine sq ?_
        refine reg ?_
        refine pRun_ok (tb := tab) (n := 173) tabOk 1 _ _ hf rfl rfl fun a hf => ?_
        obtain ⟨y11, hy11, hF⟩ := bind_some hF
        refine wl0 rfl (op_call hf TF.cl96 rfl (by decide) (spec_DrawPowerMargin_ok (S := fun _ => True) (mk_list (rep_true (α := List By) (H.get 2 rfl))) hy11) fun v35 w a hp35 hf => ?_)
        obtain ⟨hb11, v36, v37, v38, v39, rfl, hp36, hp37, hp38, hp39⟩ := hp35
        obtain ⟨A8, c13, rfl, hl8⟩ := VR_list hp36
        replace hl8 := H.resF (f := MP.val [(.slice A8 y11.1.length c13)] y11.1) hl8
        obtain ⟨A9, c14, rfl, hl9⟩ := VR_list hp37
        replace hl9 := H.resF (f := MP.val [(.slice A9 y11.2.1.length c14)] y11.2.1) hl9
        obtain rfl := VR_int hp38
        obtain rfl := VR_int hp39
        have H := H.keep hb11
        have H := H.push (true, MP.val [(.slice A8 y11.1.length c13)] y11.1) hl8
        have H := H.push (true, MP.val [(.slice A9 y11.2.1.length c14)] y11.2.1) hl9
        refine pRun_ok (tb := tab) (n := 173) tabOk 9 _ _ hf rfl rfl fun a hf => ?_
        have hf := hf.prune [14, 15, 16, 17] rfl
        refine wl_end ?_
        refine then_n ?_
        refine sq ?_
        refine reg ?_
        refine pRun_ok (tb := tab) (n := 173) tabOk 4 _ _ hf rfl rfl fun a hf => ?_
        obtain ⟨y12, hy12, hF⟩ := bind_some hF
        refine wl0 rfl (op_call hf TF.cl90 rfl (by decide) (impl_PowerMargin_ok (S := fun _ => True) (mk_list (rep_true (α := List Span) (H.get 1 rfl))) (mk_list (rep_true (α := List Amplifier) (H.get 0 rfl))) mk_int mk_int hy12) fun v40 w a hp40 hf => ?_)
        obtain ⟨hb12, v41, v42, rfl, hp41, hp42⟩ := hp40
        obtain rfl := VR_int hp41
        obtain rfl := VR_bool hp42
        have H := H.keep hb12
        refine pRun_ok (tb := tab) (n := 173) tabOk 5 _ _ hf rfl rfl fun a hf => ?_
        refine wl_end ?_
        refine then_n ?_
        refine sq ?_
        refine sq ?_
        refine reg ?_
        refine pRun_ok (tb := tab) (n := 173) tabOk 4 _ _ hf rfl rfl fun a hf => ?_
        obtain ⟨y13, hy13, hF⟩ := bind_some hF
        refine wl0 rfl (op_call hf TF.cl89 rfl (by decide) (spec_PowerMargin_ok (S := fun _ => True) (mk_list (rep_true (α := List Span) (H.get 1 rfl))) (mk_list (rep_true (α := List Amplifier) (H.get 0 rfl))) mk_int mk_int hy13) fun v43 w a hp43 hf => ?_)
        obtain ⟨hb13, v44, v45, rfl, hp44, hp45⟩ := hp43
        obtain rfl := VR_int hp44
        obtain rfl := VR_bool hp45
        have H := H.keep hb13
        refine pRun_ok (tb := tab) (n := 173) tabOk 5 _ _ hf rfl rfl fun a hf => ?_
        have hf := hf.prune [14, 15, 16, 17, 18, 19, 20, 21] rfl
        refine wl_end ?_
        refine then_n ?_
        refine sq ?_
        obtain ⟨c15, hGc15, hF⟩ := bind_some hF
        refine mid (fun a w => Fr a 173 [(14, (.slice A8 y11.1.length c13)), (15, (.slice A9 y11.2.1.length c14)), (16, (.int .i64 y11.2.2.1)), (17, (.int .i64 y11.2.2.2)), (18, (.int .i64 y12.1)), (19, (.bool y12.2)), (20, (.int .i64 y13.1)), (21, (.bool y13.2)), (112, (.bool c15))] ∧ Mem ⟨w0, []⟩ S [] [] [] [(true, MP.val [(.slice A9 y11.2.1.length c14)] (y11.2.1 : List Amplifier)), (true, MP.val [(.slice A8 y11.1.length c13)] (y11.1 : List Span))] w) ?_ ?_
        · refine reg ?_
          refine pRun_ok (tb := tab) (n := 173) tabOk 4 _ _ hf rfl rfl fun a hf => ?_
          refine (Bool.eq_false_or_eq_true (y12.1 != y13.1)).elim (fun hc16 => ?_) (fun hc16 => ?_)
          · rw [if_pos hc16] at hGc15
            have hf := hf.lit 104 rfl hc16
            refine pRun_ok (tb := tab) (n := 173) tabOk 8 _ _ hf rfl rfl fun a hf => ?_
            obtain rfl := Option.some.inj hGc15
            have hf := hf.prune [14, 15, 16, 17, 18, 19, 20, 21, 112] rfl
            have H := H.let [] [] [false] [0, 1]
            exact wl_end ⟨hf, H⟩
          · rw [if_neg (nt hc16)] at hGc15
            have hf := hf.lit 104 rfl hc16
            refine pRun_ok (tb := tab) (n := 173) tabOk 5 _ _ hf rfl rfl fun a hf => ?_
            refine (Bool.eq_false_or_eq_true (y12.2 != y13.2)).elim (fun hc17 => ?_) (fun hc17 => ?_)
            · rw [if_pos hc17] at hGc15
              have hf := hf.lit 109 rfl hc17
              refine pRun_ok (tb := tab) (n := 173) tabOk 3 _ _ hf rfl rfl fun a hf => ?_
              obtain rfl := Option.some.inj hGc15
              have hf := hf.prune [14, 15, 16, 17, 18, 19, 20, 21, 112] rfl
              have H := H.let [] [] [false] [0, 1]
              exact wl_end ⟨hf, H⟩
            · rw [if_neg (nt hc17)] at hGc15
              have hf := hf.lit 109 rfl hc17
              refine pRun_ok (tb := tab) (n := 173) tabOk 3 _ _ hf rfl rfl fun a hf => ?_
              obtain rfl := Option.some.inj hGc15
              have hf := hf.prune [14, 15, 16, 17, 18, 19, 20, 21, 112] rfl
              have H := H.let [] [] [false] [0, 1]
              exact wl_end ⟨hf, H⟩
        rintro a w ⟨hf, H⟩
        refine then_n ?_
        refine (Bool.eq_false_or_eq_true (c15)).elim (fun hc18 => ?_) (fun hc18 => ?_)
        · rw [if_pos hc18] at hF
          refine cd_t hf rfl hc18 ?_
          refine sq ?_
          obtain ⟨c16, hGc16, hF⟩ := bind_some hF
          refine mid (fun a w => Fr a 173 [(2, (.bool c16))] ∧ Mem ⟨w0, []⟩ S [] [] [] [] w) ?_ ?_
          · refine reg ?_
            refine pRun_ok (tb := tab) (n := 173) tabOk 4 _ _ hf rfl rfl fun a hf => ?_
            refine (Bool.eq_false_or_eq_true (y12.1 == y13.1)).elim (fun hc19 => ?_) (fun hc19 => ?_)
            · rw [if_pos hc19] at hGc16
              have hf := hf.lit 116 rfl hc19
              refine pRun_ok (tb := tab) (n := 173) tabOk 5 _ _ hf rfl rfl fun a hf => ?_
              obtain rfl := Option.some.inj hGc16
              have hf := hf.prune [2] rfl
              have H := H.let [] [] [] []
              exact wl_end ⟨hf, H⟩
            · rw [if_neg (nt hc19)] at hGc16
              have hf := hf.lit 116 rfl hc19
              refine pRun_ok (tb := tab) (n := 173) tabOk 5 _ _ hf rfl rfl fun a hf => ?_
              obtain rfl := Option.some.inj hGc16
              have hf := hf.prune [2] rfl
              have H := H.let [] [] [] []
              exact wl_end ⟨hf, H⟩
          rintro a w ⟨hf, H⟩
          refine then_n ?_
          refine wp_ret (then_r (?_))
          obtain rfl := Option.some.inj hF
          refine ret_1 (fn := Try.f23) (r := .tmp 2) hf rfl (rv_tmp hf rfl) ?_
          exact ⟨_, rfl, H.bel, mk_bool⟩
        · rw [if_neg (nt hc18)] at hF
          refine cd_f hf rfl hc18 ?_
          refine wp_skip ?_
          refine then_n ?_
          refine sq ?_
          refine reg ?_
          refine pRun_ok (tb := tab) (n := 173) tabOk 3 _ _ hf rfl rfl fun a hf => ?_
          obtain ⟨y14, hy14, hF⟩ := bind_some hF
          refine wl0 rfl (op_call hf TF.cl94 rfl (by decide) (impl_PowerProfile_ok (S := fun _ => True) (mk_list (rep_true (α := List Span) (H.get 1 rfl))) (mk_list (rep_true (α := List Amplifier) (H.get 0 rfl))) mk_int hy14) fun v46 w a hp46 hf => ?_)
          obtain ⟨hb14, F7, v47, v48, rfl, hp47, hp48, hN4⟩ := hp46
          obtain ⟨A10, c17, rfl, hl10⟩ := VO_list hp47
          obtain rfl := VR_bool hp48
          have H := H.addOwn hb14 (X := [(⟨F7, MP.own F7 [(.slice A10 y14.1.length c17)] (y14.1 : List Int)⟩ : DI)]) (by simpa using hN4.1) (ps1 hl10 ps0) (by simpa using hN4.2)
          have H := H.lend 0 rfl
          refine pRun_ok (tb := tab) (n := 173) tabOk 5 _ _ hf rfl rfl fun a hf => ?_
          refine wl_end ?_
          refine then_n ?_
          refine sq ?_
          refine reg ?_
          refine pRun_ok (tb := tab) (n := 173) tabOk 3 _ _ hf rfl rfl fun a hf => ?_
          obtain ⟨y15, hy15, hF⟩ := bind_some hF
          refine wl0 rfl (op_call hf TF.cl92 rfl (by decide) (impl_WorstLevel_ok (S := fun _ => True) (mk_list (rep_true (α := List Span) (H.get 2 rfl))) (mk_list (rep_true (α := List Amplifier) (H.get 1 rfl))) mk_int hy15) fun v49 w a hp49 hf => ?_)
          obtain ⟨hb15, v50, v51, v52, rfl, hp50, hp51, hp52⟩ := hp49
          obtain rfl := VR_int hp50
          obtain rfl := VR_int hp51
          obtain rfl := VR_bool hp52
          have H := H.keep hb15
          refine pRun_ok (tb := tab) (n := 173) tabOk 7 _ _ hf rfl rfl fun a hf => ?_
          have hf := hf.prune [14, 17, 18, 22, 23, 24, 25, 26] rfl
          refine wl_end ?_
          refine then_n ?_
          refine sq ?_
          obtain ⟨c18, hGc18, hF⟩ := bind_some hF
          refine mid (fun a w => Fr a 173 [(2, (.bool c18))] ∧ Mem ⟨w0, []⟩ S [] [] [] [] w) ?_ ?_
          · refine reg ?_
            refine pRun_ok (tb := tab) (n := 173) tabOk 2 _ _ hf rfl rfl fun a hf => ?_
            refine (Bool.eq_false_or_eq_true (y14.2)).elim (fun hc20 => ?_) (fun hc20 => ?_)
            · rw [if_pos hc20] at hGc18
              have hf := hf.lit 137 rfl hc20
              refine pRun_ok (tb := tab) (n := 173) tabOk 3 _ _ hf rfl rfl fun a hf => ?_
              refine (Bool.eq_false_or_eq_true (y15.2.2)).elim (fun hc21 => ?_) (fun hc21 => ?_)
              · rw [if_pos hc21] at hGc18
                have hf := hf.lit 140 rfl hc21
                refine pRun_ok (tb := tab) (n := 173) tabOk 7 _ _ hf rfl rfl fun a hf => ?_
                refine (Bool.eq_false_or_eq_true ((y14.1.length : Int) == (y11.1.length : Int))).elim (fun hc22 => ?_) (fun hc22 => ?_)
                · rw [if_pos hc22] at hGc18
                  have hf := hf.lit 147 rfl hc22
                  refine pRun_ok (tb := tab) (n := 173) tabOk 4 _ _ hf rfl rfl fun a hf => ?_
                  obtain ⟨e3, he3, hGc18⟩ := bind_some hGc18
                  refine wlg hf rfl rfl rfl (op_iaddr hf H Try.underlying35 TF.sz3 0 rfl rfl rfl he3 (by decide) fun p3 o3 cs3 a hf hr3 H => ?_)
                  obtain rfl := hr3
                  refine wlg hf rfl rfl rfl (op_q hf (rq_loadI hf H TF.ls3 0 0 rfl rfl rfl) rfl (by decide) fun a hf => ?_)
                  refine pRun_ok (tb := tab) (n := 173) tabOk 6 _ _ hf rfl rfl fun a hf => ?_
                  refine (Bool.eq_false_or_eq_true ((w64 (e3 - y11.2.2.2)) == y12.1)).elim (fun hc23 => ?_) (fun hc23 => ?_)
                  · rw [if_pos hc23] at hGc18
                    have hf := hf.lit 159 rfl hc23
                    refine pRun_ok (tb := tab) (n := 173) tabOk 6 _ _ hf rfl rfl fun a hf => ?_
                    refine (Bool.eq_false_or_eq_true (decide (y15.2.1 < (y14.1.length : Int)))).elim (fun hc24 => ?_) (fun hc24 => ?_)
                    · rw [if_pos hc24] at hGc18
                      have hf := hf.lit 165 rfl hc24
                      refine pRun_ok (tb := tab) (n := 173) tabOk 3 _ _ hf rfl rfl fun a hf => ?_
                      obtain ⟨e4, he4, hGc18⟩ := bind_some hGc18
                      refine wlg hf rfl rfl rfl (op_iaddr hf H Try.underlying35 TF.sz3 1 rfl rfl rfl he4 (by decide) fun p4 o4 cs4 a hf hr4 H => ?_)
                      obtain rfl := hr4
                      refine wlg hf rfl rfl rfl (op_q hf (rq_loadI hf H TF.ls3 0 0 rfl rfl rfl) rfl (by decide) fun a hf => ?_)
                      refine pRun_ok (tb := tab) (n := 173) tabOk 3 _ _ hf rfl rfl fun a hf => ?_
                      obtain rfl := Option.some.inj hGc18
                      have hf := hf.prune [2] rfl
                      have H := H.let [] [] [false] []
                      exact wl_end ⟨hf, H⟩
                    · rw [if_neg (nt hc24)] at hGc18
                      have hf := hf.lit 165 rfl hc24
                      refine pRun_ok (tb := tab) (n := 173) tabOk 8 _ _ hf rfl rfl fun a hf => ?_
                      obtain rfl := Option.some.inj hGc18
                      have hf := hf.prune [2] rfl
                      have H := H.let [] [] [false] []
                      exact wl_end ⟨hf, H⟩
                  · rw [if_neg (nt hc23)] at hGc18
                    have hf := hf.lit 159 rfl hc23
                    refine pRun_ok (tb := tab) (n := 173) tabOk 14 _ _ hf rfl rfl fun a hf => ?_
                    obtain rfl := Option.some.inj hGc18
                    have hf := hf.prune [2] rfl
                    have H := H.let [] [] [false] []
                    exact wl_end ⟨hf, H⟩
                · rw [if_neg (nt hc22)] at hGc18
                  have hf := hf.lit 147 rfl hc22
                  refine pRun_ok (tb := tab) (n := 173) tabOk 26 _ _ hf rfl rfl fun a hf => ?_
                  obtain rfl := Option.some.inj hGc18
                  have hf := hf.prune [2] rfl
                  have H := H.let [] [] [false] []
                  exact wl_end ⟨hf, H⟩
              · rw [if_neg (nt hc21)] at hGc18
                have hf := hf.lit 140 rfl hc21
                refine pRun_ok (tb := tab) (n := 173) tabOk 33 _ _ hf rfl rfl fun a hf => ?_
                obtain rfl := Option.some.inj hGc18
                have hf := hf.prune [2] rfl
                have H := H.let [] [] [false] []
                exact wl_end ⟨hf, H⟩
            · rw [if_neg (nt hc20)] at hGc18
              have hf := hf.lit 137 rfl hc20
              refine pRun_ok (tb := tab) (n := 173) tabOk 36 _ _ hf rfl rfl fun a hf => ?_
              obtain rfl := Option.some.inj hGc18
              have hf := hf.prune [2] rfl
              have H := H.let [] [] [false] []
              exact wl_end ⟨hf, H⟩
          rintro a w ⟨hf, H⟩
          refine then_n ?_
          refine wp_ret (?_)
          obtain rfl := Option.some.inj hF
          refine ret_1 (fn := Try.f23) (r := .tmp 2) hf rfl (rv_tmp hf rfl) ?_
          exact ⟨_, rfl, H.bel, mk_bool⟩
end AT
