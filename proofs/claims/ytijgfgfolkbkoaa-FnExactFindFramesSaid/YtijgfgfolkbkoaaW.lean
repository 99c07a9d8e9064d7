/- The Go functions do what is told of them, by program (gen.py). -/
import Derived.Test.YtijgfgfolkbkoaaT
set_option linter.unusedVariables false
set_option linter.unusedSimpArgs false
set_option maxRecDepth 100000
namespace AT
open Go Go.RowKit Go.Proofs

/- loop.example/g00897/laws.toIntS -/
set_option maxHeartbeats 1000000 in
theorem laws_toIntS_ok {fu : Nat} {w0 : World} {S : Nat → Prop} {v0_ : Value} {a' : List Int} {r : List Int} (h0 : VR w0 S v0_ a') (hF : laws_toIntS fu a' = some r) :
    Calls Try.prog 41 [v0_].toArray w0 fun e w' => ∃ v, e = .returned v ∧ (Below w0.heap.size w0 w' ∧ ∃ F0, VO w' F0 v r ∧ New w0 w' F0) := by
  obtain ⟨A, c, rfl, hl⟩ := VR_list h0
  have H := Mem.start ⟨w0, []⟩ S
  have H := H.pushArg (MP.val [(.slice A a'.length c)] a') hl
  refine enter Try.func41 rfl rfl (nle rfl) rfl fun a hf => ?_
  rw [laws_toIntS] at hF
  refine sq ?_
  refine reg ?_
  refine pRun_ok (tb := tab) (n := 22) tabOk 1 _ _ hf rfl rfl fun a hf => ?_
  refine wl_end ?_
  refine then_n ?_
  refine sq ?_
  refine reg ?_
  refine pRun_ok (tb := tab) (n := 22) tabOk 2 _ _ hf rfl rfl fun a hf => ?_
  obtain ⟨l, hl, hF⟩ := bind_some hF
  refine wl0 rfl (op_make (z0 := (0 : Int)) hf H Try.underlying35 TF.ai3 rfl (by decide) rfl rfl rfl hl (by decide) fun A2 c2 a w hf H => ?_)
  refine pRun_ok (tb := tab) (n := 22) tabOk 1 _ _ hf rfl rfl fun a hf => ?_
  refine wl_end ?_
  refine then_n ?_
  refine sq ?_
  refine sq ?_
  refine reg ?_
  refine pRun_ok (tb := tab) (n := 22) tabOk 1 _ _ hf rfl rfl fun a hf => ?_
  refine wl_end ?_
  refine then_n ?_
  obtain ⟨out2, hB1, hF⟩ := bind_some hF
  have hf := hf.prune [0, 3, 4] rfl
  have H := H.let [] [true] [] [0]
  have hI : (fun (s : List Int × Int) (a : Act) (w : World) => match s with | (out', i) => ∃ (A3 : Option Addr) (c3 : Nat), Fr a 22 [(0, (.slice A a'.length c)), (3, (.slice A3 out'.length c3)), (4, (.int .i64 i))] ∧ Mem ⟨w0, []⟩ S [] [⟨.sh true, 3, A3, c3, (out' : List Int)⟩] [] [(false, MP.val [(.slice A a'.length c)] (a' : List Int))] w) (l, 0) a w := ⟨A2, c2, hf, H⟩
  refine mid (fun a w => ∃ s : List Int × Int, out2 = s ∧ (fun (s : List Int × Int) (a : Act) (w : World) => match s with | (out', i) => ∃ (A3 : Option Addr) (c3 : Nat), Fr a 22 [(0, (.slice A a'.length c)), (3, (.slice A3 out'.length c3)), (4, (.int .i64 i))] ∧ Mem ⟨w0, []⟩ S [] [⟨.sh true, 3, A3, c3, (out' : List Int)⟩] [] [(false, MP.val [(.slice A a'.length c)] (a' : List Int))] w) s a w) ?_ ?_
  · refine wp_block ?_
    refine loop_rule (fun k (s : List Int × Int) => laws_toIntS_L1 fu a' k s.1 s.2 = some out2) (fun (s : List Int × Int) (a : Act) (w : World) => match s with | (out', i) => ∃ (A3 : Option Addr) (c3 : Nat), Fr a 22 [(0, (.slice A a'.length c)), (3, (.slice A3 out'.length c3)), (4, (.int .i64 i))] ∧ Mem ⟨w0, []⟩ S [] [⟨.sh true, 3, A3, c3, (out' : List Int)⟩] [] [(false, MP.val [(.slice A a'.length c)] (a' : List Int))] w) (fun s h => by cases h) ?_ fu (l, 0) a w hB1 hI
    rintro fk ⟨out', i⟩ a w hR1 hI
    replace hR1 : laws_toIntS_L1 fu a' (fk + 1) out' i = some out2 := hR1
    rw [laws_toIntS_L1] at hR1
    obtain ⟨A3, c3, hf, H⟩ := hI
    refine sq ?_
    refine sq ?_
    refine reg ?_
    refine pRun_ok (tb := tab) (n := 22) tabOk 4 _ _ hf rfl rfl fun a hf => ?_
    refine wl_end ?_
    refine then_n ?_
    refine (Bool.eq_false_or_eq_true (decide (i < (a'.length : Int)))).elim (fun hc => ?_) (fun hc => ?_)
    · rw [if_pos hc] at hR1
      refine cd_t hf rfl hc ?_
      refine wp_skip ?_
      refine then_n ?_
      refine sq ?_
      refine wp_block ?_
      refine reg ?_
      refine pRun_ok (tb := tab) (n := 22) tabOk 4 _ _ hf rfl rfl fun a hf => ?_
      obtain ⟨e, he, hR1⟩ := bind_some hR1
      refine wl0 rfl (op_iaddr hf H Try.underlying35 TF.sz3 0 rfl rfl rfl he (by decide) fun p o cs a hf hr H => ?_)
      obtain rfl := hr
      refine wl0 rfl (op_q hf (rq_loadI hf H TF.ls3 0 0 rfl rfl rfl) rfl (by decide) fun a hf => ?_)
      obtain ⟨e2, he2, hR1⟩ := bind_some hR1
      refine wl0 rfl (op_iaddrR hf H Try.underlying35 TF.sz3 0 rfl rfl rfl he2 (by decide) fun p2 o2 cs2 a hf hA hr2 hk => ?_)
      obtain rfl := hr2
      refine wl0 rfl (op_storeR (e' := e) hf H TF.sz3 0 rfl rfl rfl rfl rfl (nle rfl) rfl hA he2 (st_full rfl) fun w H => ?_)
      replace hf : Fr a 22 [(0, (.slice A a'.length c)), (3, (.slice A3 out'.length c3)), (4, (.int .i64 i)), (8, (.int .i64 i)), (9, (.slice A a'.length c)), (10, (.int .i64 (a'.length : Int))), (11, (.bool (decide (i < (a'.length : Int))))), (14, (.slice A3 out'.length c3)), (15, (.int .i64 i)), (16, (.slice A a'.length c)), (17, (.int .i64 i)), (18, (.pointer (some ⟨p, o + 0, none⟩))), (19, (.int .i64 e)), (20, (.pointer (some ⟨p2, o2 + 0, none⟩)))] := hf.prune [0, 3, 4, 8, 9, 10, 11, 14, 15, 16, 17, 18, 19, 20] rfl
      replace hf : Fr a 22 [(0, (.slice A a'.length c)), (3, (.slice A3 (out'.set (i).toNat e).length c3)), (4, (.int .i64 i)), (8, (.int .i64 i)), (9, (.slice A a'.length c)), (10, (.int .i64 (a'.length : Int))), (11, (.bool (decide (i < (a'.length : Int))))), (14, (.slice A3 (out'.set (i).toNat e).length c3)), (15, (.int .i64 i)), (16, (.slice A a'.length c)), (17, (.int .i64 i)), (18, (.pointer (some ⟨p, o + 0, none⟩))), (19, (.int .i64 e)), (20, (.pointer (some ⟨p2, o2 + 0, none⟩)))] := by simpa only [List.length_set, Nat.add_zero] using hf
      refine wl_end ?_
      refine blk_n ?_
      refine then_n ?_
      refine reg ?_
      refine pRun_ok (tb := tab) (n := 22) tabOk 3 _ _ hf rfl rfl fun a hf => ?_
      have hf := hf.prune [0, 3, 4] rfl
      refine wl_end ?_
      have hf := hf.prune [0, 3, 4] rfl
      have H := H.let [] [true] [] [1]
      exact then_n ⟨(out'.set (i).toNat e, w64 (i + 1)), hR1, A3, c3, hf, H⟩
    · rw [if_neg (nt hc)] at hR1
      refine cd_f hf rfl hc ?_
      refine wp_exit (then_x (then_x (blk_e (?_))))
      have hf := hf.prune [0, 3, 4] rfl
      have H := H.let [] [true] [] [0]
      exact ⟨(out', i), (Option.some.inj hR1).symm, A3, c3, hf, H⟩
  rintro a w ⟨⟨out3, i2⟩, rfl, A4, c4, hf, H⟩
  dsimp only at hF
  refine then_n ?_
  refine sq ?_
  refine reg ?_
  refine pRun_ok (tb := tab) (n := 22) tabOk 2 _ _ hf rfl rfl fun a hf => ?_
  refine wl_end ?_
  refine then_n ?_
  refine wp_ret (?_)
  have H := H.rowOwn 0 rfl rfl
  obtain ⟨F, H⟩ := H.freezeOwn 0 rfl
  have H := H.lend 0 rfl
  obtain rfl := Option.some.inj hF
  refine ret_1 (fn := Try.f41) (r := .tmp 2) hf rfl (rv_tmp hf rfl) ?_
  have hN := H.ends (X := [(⟨F, MP.own F [(.slice A4 out3.length c4)] (out3 : List Int)⟩ : DI)])
  simp only [List.flatMap_cons, List.flatMap_nil, List.append_nil, List.append_assoc] at hN
  exact ⟨_, rfl, H.bel, F, (mko_list (H.ownAt 0 rfl)), hN⟩

/- loop.example/g00897/spec.l1In -/
set_option maxHeartbeats 1000000 in
theorem spec_l1In_ok {fu : Nat} {w0 : World} {S : Nat → Prop} {v0_ : Value} {v1_ : Value} {v2_ : Value} {x1 : Int} {a' : Int} {b' : Int} {r : Bool} (h0 : VR w0 S v0_ x1) (h1 : VR w0 S v1_ a') (h2 : VR w0 S v2_ b') (hF : spec_l1In fu x1 a' b' = some r) :
    Calls Try.prog 97 [v0_, v1_, v2_].toArray w0 fun e w' => ∃ v, e = .returned v ∧ (Below w0.heap.size w0 w' ∧ VR w' (St ⟨w0, []⟩ S [] [] [] true) v r) := by
  obtain rfl := VR_int h0
  obtain rfl := VR_int h1
  obtain rfl := VR_int h2
  have H := Mem.start ⟨w0, []⟩ S
  refine enter Try.func97 rfl rfl (nle rfl) rfl fun a hf => ?_
  rw [spec_l1In] at hF
  refine sq ?_
  refine reg ?_
  refine pRun_ok (tb := tab) (n := 15) tabOk 1 _ _ hf rfl rfl fun a hf => ?_
  refine wl_end ?_
  refine then_n ?_
  refine sq ?_
  obtain ⟨c, hGc, hF⟩ := bind_some hF
  refine mid (fun a w => Fr a 15 [(6, (.bool c))] ∧ Mem ⟨w0, []⟩ S [] [] [] [] w) ?_ ?_
  · refine reg ?_
    refine pRun_ok (tb := tab) (n := 15) tabOk 4 _ _ hf rfl rfl fun a hf => ?_
    refine (Bool.eq_false_or_eq_true (decide (x1 ≥ a'))).elim (fun hc => ?_) (fun hc => ?_)
    · rw [if_pos hc] at hGc
      have hf := hf.lit 10 rfl hc
      refine pRun_ok (tb := tab) (n := 15) tabOk 5 _ _ hf rfl rfl fun a hf => ?_
      obtain rfl := Option.some.inj hGc
      have hf := hf.prune [6] rfl
      have H := H.let [] [] [] []
      exact wl_end ⟨hf, H⟩
    · rw [if_neg (nt hc)] at hGc
      have hf := hf.lit 10 rfl hc
      refine pRun_ok (tb := tab) (n := 15) tabOk 5 _ _ hf rfl rfl fun a hf => ?_
      obtain rfl := Option.some.inj hGc
      have hf := hf.prune [6] rfl
      have H := H.let [] [] [] []
      exact wl_end ⟨hf, H⟩
  rintro a w ⟨hf, H⟩
  refine then_n ?_
  refine wp_ret (?_)
  obtain rfl := Option.some.inj hF
  refine ret_1 (fn := Try.f97) (r := .tmp 6) hf rfl (rv_tmp hf rfl) ?_
  exact ⟨_, rfl, H.bel, mk_bool⟩

/- loop.example/g00897/spec.l23Bytes -/
set_option maxHeartbeats 1000000 in
theorem spec_l23Bytes_ok {fu : Nat} {w0 : World} {S : Nat → Prop} {v0_ : Value} {list : List Int} {r : Bool} (h0 : VR w0 S v0_ list) (hF : spec_l23Bytes fu list = some r) :
    Calls Try.prog 130 [v0_].toArray w0 fun e w' => ∃ v, e = .returned v ∧ (Below w0.heap.size w0 w' ∧ VR w' (St ⟨w0, []⟩ S [] [] [] true) v r) := by
  obtain ⟨A, c, rfl, hl⟩ := VR_list h0
  have H := Mem.start ⟨w0, []⟩ S
  have H := H.pushArg (MP.val [(.slice A list.length c)] list) hl
  refine enter Try.func130 rfl rfl (nle rfl) rfl fun a hf => ?_
  rw [spec_l23Bytes] at hF
  refine sq ?_
  refine reg ?_
  refine pRun_ok (tb := tab) (n := 16) tabOk 1 _ _ hf rfl rfl fun a hf => ?_
  refine wl_end ?_
  refine then_n ?_
  refine sq ?_
  refine sq ?_
  refine reg ?_
  refine pRun_ok (tb := tab) (n := 16) tabOk 1 _ _ hf rfl rfl fun a hf => ?_
  refine wl_end ?_
  refine then_n ?_
  obtain ⟨out', hB1, hF⟩ := bind_some hF
  have hf := hf.prune [0, 3] rfl
  have H := H.let [] [] [] [0]
  have hI : (fun (s : Int) (a : Act) (w : World) => match s with | i => Fr a 16 [(0, (.slice A list.length c)), (3, (.int .i64 i))] ∧ Mem ⟨w0, []⟩ S [] [] [] [(false, MP.val [(.slice A list.length c)] (list : List Int))] w) 0 a w0 := ⟨hf, H⟩
  refine mid (fun a w => ∃ s : Int, out' = Out.next s ∧ (fun (s : Int) (a : Act) (w : World) => match s with | i => Fr a 16 [(0, (.slice A list.length c)), (3, (.int .i64 i))] ∧ Mem ⟨w0, []⟩ S [] [] [] [(false, MP.val [(.slice A list.length c)] (list : List Int))] w) s a w) ?_ ?_
  · refine wp_block ?_
    refine loop_rule (fun k (s : Int) => spec_l23Bytes_L1 fu list k s = some out') (fun (s : Int) (a : Act) (w : World) => match s with | i => Fr a 16 [(0, (.slice A list.length c)), (3, (.int .i64 i))] ∧ Mem ⟨w0, []⟩ S [] [] [] [(false, MP.val [(.slice A list.length c)] (list : List Int))] w) (fun s h => by cases h) ?_ fu 0 a w0 hB1 hI
    rintro fk i a w hR1 hI
    replace hR1 : spec_l23Bytes_L1 fu list (fk + 1) i = some out' := hR1
    rw [spec_l23Bytes_L1] at hR1
    obtain ⟨hf, H⟩ := hI
    refine sq ?_
    refine sq ?_
    refine reg ?_
    refine pRun_ok (tb := tab) (n := 16) tabOk 4 _ _ hf rfl rfl fun a hf => ?_
    refine wl_end ?_
    refine then_n ?_
    refine (Bool.eq_false_or_eq_true (decide (i < (list.length : Int)))).elim (fun hc => ?_) (fun hc => ?_)
    · rw [if_pos hc] at hR1
      refine cd_t hf rfl hc ?_
      refine wp_skip ?_
      refine then_n ?_
      refine sq ?_
      refine wp_block ?_
      refine sq ?_
      refine reg ?_
      refine pRun_ok (tb := tab) (n := 16) tabOk 2 _ _ hf rfl rfl fun a hf => ?_
      obtain ⟨e, he, hR1⟩ := bind_some hR1
      refine wl0 rfl (op_iaddr hf H Try.underlying35 TF.sz3 0 rfl rfl rfl he (by decide) fun p o cs a hf hr H => ?_)
      obtain rfl := hr
      refine wl0 rfl (op_q hf (rq_loadI hf H TF.ls3 0 0 rfl rfl rfl) rfl (by decide) fun a hf => ?_)
      obtain ⟨y, hy, hR1⟩ := bind_some hR1
      refine wl0 rfl (op_call hf TF.cl97 rfl (by decide) (spec_l1In_ok (S := fun _ => True) mk_int mk_int mk_int hy) fun v w a hp hf => ?_)
      obtain ⟨hb, hp⟩ := hp
      obtain rfl := VR_bool hp
      have H := H.keep hb
      refine pRun_ok (tb := tab) (n := 16) tabOk 1 _ _ hf rfl rfl fun a hf => ?_
      refine wl_end ?_
      refine then_n ?_
      refine (Bool.eq_false_or_eq_true (!y)).elim (fun hc2 => ?_) (fun hc2 => ?_)
      · rw [if_pos hc2] at hR1
        refine cd_t hf rfl hc2 ?_
        refine sq ?_
        refine reg ?_
        refine pRun_ok (tb := tab) (n := 16) tabOk 1 _ _ hf rfl rfl fun a hf => ?_
        refine wl_end ?_
        refine then_n ?_
        refine wp_ret (blk_r (then_r (then_r (blk_r (then_r (then_r (?_)))))))
        obtain rfl := Option.some.inj hR1
        replace hF := on_ret hF
        obtain rfl := Option.some.inj hF
        refine ret_1 (fn := Try.f130) (r := .tmp 2) hf rfl (rv_tmp hf rfl) ?_
        exact ⟨_, rfl, H.bel, mk_bool⟩
      · rw [if_neg (nt hc2)] at hR1
        refine cd_f hf rfl hc2 ?_
        refine wp_skip ?_
        refine blk_n ?_
        refine then_n ?_
        refine reg ?_
        refine pRun_ok (tb := tab) (n := 16) tabOk 3 _ _ hf rfl rfl fun a hf => ?_
        refine wl_end ?_
        have hf := hf.prune [0, 3] rfl
        have H := H.let [] [] [] [1]
        exact then_n ⟨w64 (i + 1), hR1, hf, H⟩
    · rw [if_neg (nt hc)] at hR1
      refine cd_f hf rfl hc ?_
      refine wp_exit (then_x (then_x (blk_e (?_))))
      have hf := hf.prune [0, 3] rfl
      have H := H.let [] [] [] [0]
      exact ⟨i, (Option.some.inj hR1).symm, hf, H⟩
  rintro a w ⟨i2, rfl, hf, H⟩
  replace hF := on_next hF
  refine then_n ?_
  refine sq ?_
  refine reg ?_
  refine pRun_ok (tb := tab) (n := 16) tabOk 1 _ _ hf rfl rfl fun a hf => ?_
  refine wl_end ?_
  refine then_n ?_
  refine wp_ret (?_)
  obtain rfl := Option.some.inj hF
  refine ret_1 (fn := Try.f130) (r := .tmp 2) hf rfl (rv_tmp hf rfl) ?_
  exact ⟨_, rfl, H.bel, mk_bool⟩

/- loop.example/g00897/spec.l1Own -/
set_option maxHeartbeats 1000000 in
theorem spec_l1Own_ok {fu : Nat} {w0 : World} {S : Nat → Prop} {v0_ : Value} {l : List Int} {r : List Int} (h0 : VR w0 S v0_ l) (hF : spec_l1Own fu l = some r) :
    Calls Try.prog 126 [v0_].toArray w0 fun e w' => ∃ v, e = .returned v ∧ (Below w0.heap.size w0 w' ∧ ∃ F0, VO w' F0 v r ∧ New w0 w' F0) := by
  obtain ⟨A, c, rfl, hl⟩ := VR_list h0
  have H := Mem.start ⟨w0, []⟩ S
  have H := H.pushArg (MP.val [(.slice A l.length c)] l) hl
  refine enter Try.func126 rfl rfl (nle rfl) rfl fun a hf => ?_
  rw [spec_l1Own] at hF
  refine sq ?_
  refine reg ?_
  refine pRun_ok (tb := tab) (n := 6) tabOk 1 _ _ hf rfl rfl fun a hf => ?_
  refine wl_end ?_
  refine then_n ?_
  refine sq ?_
  refine reg ?_
  refine wl0 rfl (op_bslice hf H (.sh true) rfl 3 ([] : List Int) [] rfl (fun w => by kernel_rfl) rfl (by decide) rfl trivial el0 (by decide) fun A2 a w hf H => ?_)
  refine pRun_ok (tb := tab) (n := 6) tabOk 1 _ _ hf rfl rfl fun a hf => ?_
  obtain ⟨l2, hl2, hF⟩ := bind_some hF
  have H := H.rowWeak 0 rfl
  refine wl0 rfl (op_appI hf H Try.underlying35 TF.ai3 rfl (by decide) 0 0 rfl rfl rfl rfl (.inl rfl) hl2 (by decide) fun A3 c2 a w hf H => ?_)
  refine pRun_ok (tb := tab) (n := 6) tabOk 1 _ _ hf rfl rfl fun a hf => ?_
  refine wl_end ?_
  refine then_n ?_
  refine wp_ret (?_)
  have H := H.rowOwn 0 rfl rfl
  obtain ⟨F, H⟩ := H.freezeOwn 0 rfl
  have H := H.lend 0 rfl
  obtain rfl := Option.some.inj hF
  refine ret_1 (fn := Try.f126) (r := .tmp 2) hf rfl (rv_tmp hf rfl) ?_
  have hN := H.ends (X := [(⟨F, MP.own F [(.slice A3 l2.length c2)] (l2 : List Int)⟩ : DI)])
  simp only [List.flatMap_cons, List.flatMap_nil, List.append_nil, List.append_assoc] at hN
  exact ⟨_, rfl, H.bel, F, (mko_list (H.ownAt 0 rfl)), hN⟩

/- loop.example/g00897/spec.l23Good -/
set_option maxHeartbeats 1000000 in
theorem spec_l23Good_ok {fu : Nat} {w0 : World} {S : Nat → Prop} {v0_ : Value} {f : Frame} {r : Bool} (h0 : VR w0 S v0_ f) (hF : spec_l23Good fu f = some r) :
    Calls Try.prog 110 [v0_].toArray w0 fun e w' => ∃ v, e = .returned v ∧ (Below w0.heap.size w0 w' ∧ VR w' (St ⟨w0, []⟩ S [] [] [] true) v r) := by
  obtain ⟨A, c, rfl, hl⟩ := Frame_open h0
  have H := Mem.start ⟨w0, []⟩ S
  have H := H.pushArg (MP.val [(.slice A f.Payload.length c)] f.Payload) hl
  refine enter Try.func110 rfl rfl (nle rfl) rfl fun a hf => ?_
  rw [spec_l23Good] at hF
  refine sq ?_
  refine reg ?_
  refine wl0 rfl (op_box hf H rfl rfl (by decide) fun b' a w hf H => ?_)
  refine pRun_ok (tb := tab) (n := 22) tabOk 1 _ _ hf rfl rfl fun a hf => ?_
  refine wl_end ?_
  refine then_n ?_
  refine sq ?_
  obtain ⟨c2, hGc2, hF⟩ := bind_some hF
  refine mid (fun a w => Fr a 22 [(2, (.bool c2))] ∧ Mem ⟨w0, []⟩ S [] [] [] [] w) ?_ ?_
  · refine reg ?_
    refine pRun_ok (tb := tab) (n := 22) tabOk 1 _ _ hf rfl rfl fun a hf => ?_
    refine wl0 rfl (op_q hf (rq_loadB hf H TF.ls3 0 rfl rfl rfl) rfl (by decide) fun a hf => ?_)
    obtain ⟨y, hy, hGc2⟩ := bind_some hGc2
    refine wl0 rfl (op_call hf TF.cl97 rfl (by decide) (spec_l1In_ok (S := fun _ => True) mk_int mk_int mk_int hy) fun v w a hp hf => ?_)
    obtain ⟨hb, hp⟩ := hp
    obtain rfl := VR_bool hp
    have H := H.keep hb
    refine pRun_ok (tb := tab) (n := 22) tabOk 1 _ _ hf rfl rfl fun a hf => ?_
    refine (Bool.eq_false_or_eq_true (y)).elim (fun hc => ?_) (fun hc => ?_)
    · rw [if_pos hc] at hGc2
      have hf := hf.lit 6 rfl hc
      refine pRun_ok (tb := tab) (n := 22) tabOk 1 _ _ hf rfl rfl fun a hf => ?_
      refine wlg hf rfl rfl rfl (op_q hf (rq_loadB hf H TF.ls3 0 rfl rfl rfl) rfl (by decide) fun a hf => ?_)
      obtain ⟨y2, hy2, hGc2⟩ := bind_some hGc2
      refine wlg hf rfl rfl rfl (op_call hf TF.cl97 rfl (by decide) (spec_l1In_ok (S := fun _ => True) mk_int mk_int mk_int hy2) fun v2 w a hp2 hf => ?_)
      obtain ⟨hb2, hp2⟩ := hp2
      obtain rfl := VR_bool hp2
      have H := H.keep hb2
      refine pRun_ok (tb := tab) (n := 22) tabOk 2 _ _ hf rfl rfl fun a hf => ?_
      refine (Bool.eq_false_or_eq_true (y2)).elim (fun hc2 => ?_) (fun hc2 => ?_)
      · rw [if_pos hc2] at hGc2
        have hf := hf.lit 11 rfl hc2
        refine pRun_ok (tb := tab) (n := 22) tabOk 1 _ _ hf rfl rfl fun a hf => ?_
        refine wlg hf rfl rfl rfl (op_q hf (rq_loadB hf H TF.ls35 0 rfl rfl rfl) rfl (by decide) fun a hf => ?_)
        refine pRun_ok (tb := tab) (n := 22) tabOk 4 _ _ hf rfl rfl fun a hf => ?_
        refine (Bool.eq_false_or_eq_true ((f.Payload.length : Int) == 12)).elim (fun hc3 => ?_) (fun hc3 => ?_)
        · rw [if_pos hc3] at hGc2
          have hf := hf.lit 17 rfl hc3
          refine pRun_ok (tb := tab) (n := 22) tabOk 1 _ _ hf rfl rfl fun a hf => ?_
          refine wlg hf rfl rfl rfl (op_q hf (rq_loadB hf H TF.ls35 0 rfl rfl rfl) rfl (by decide) fun a hf => ?_)
          obtain ⟨y3, hy3, hGc2⟩ := bind_some hGc2
          refine wlg hf rfl rfl rfl (op_call hf TF.cl130 rfl (by decide) (spec_l23Bytes_ok (S := fun _ => True) (mk_list (rep_true (α := List Int) (H.get 0 rfl))) hy3) fun v3 w a hp3 hf => ?_)
          obtain ⟨hb3, hp3⟩ := hp3
          obtain rfl := VR_bool hp3
          have H := H.keep hb3
          refine pRun_ok (tb := tab) (n := 22) tabOk 2 _ _ hf rfl rfl fun a hf => ?_
          obtain rfl := Option.some.inj hGc2
          have hf := hf.prune [2] rfl
          have H := H.let [false] [] [] []
          exact wl_end ⟨hf, H⟩
        · rw [if_neg (nt hc3)] at hGc2
          have hf := hf.lit 17 rfl hc3
          refine pRun_ok (tb := tab) (n := 22) tabOk 5 _ _ hf rfl rfl fun a hf => ?_
          obtain rfl := Option.some.inj hGc2
          have hf := hf.prune [2] rfl
          have H := H.let [false] [] [] []
          exact wl_end ⟨hf, H⟩
      · rw [if_neg (nt hc2)] at hGc2
        have hf := hf.lit 11 rfl hc2
        refine pRun_ok (tb := tab) (n := 22) tabOk 11 _ _ hf rfl rfl fun a hf => ?_
        obtain rfl := Option.some.inj hGc2
        have hf := hf.prune [2] rfl
        have H := H.let [false] [] [] []
        exact wl_end ⟨hf, H⟩
    · rw [if_neg (nt hc)] at hGc2
      have hf := hf.lit 6 rfl hc
      refine pRun_ok (tb := tab) (n := 22) tabOk 16 _ _ hf rfl rfl fun a hf => ?_
      obtain rfl := Option.some.inj hGc2
      have hf := hf.prune [2] rfl
      have H := H.let [false] [] [] []
      exact wl_end ⟨hf, H⟩
  rintro a w ⟨hf, H⟩
  refine then_n ?_
  refine wp_ret (?_)
  obtain rfl := Option.some.inj hF
  refine ret_1 (fn := Try.f110) (r := .tmp 2) hf rfl (rv_tmp hf rfl) ?_
  exact ⟨_, rfl, H.bel, mk_bool⟩

/- loop.example/g00897/spec.l23Parity -/
set_option maxHeartbeats 1000000 in
theorem spec_l23Parity_ok {fu : Nat} {w0 : World} {S : Nat → Prop} {v0_ : Value} {list : List Int} {r : Int} (h0 : VR w0 S v0_ list) (hF : spec_l23Parity fu list = some r) :
    Calls Try.prog 156 [v0_].toArray w0 fun e w' => ∃ v, e = .returned v ∧ (Below w0.heap.size w0 w' ∧ VR w' (St ⟨w0, []⟩ S [] [] [] true) v r) := by
  obtain ⟨A, c, rfl, hl⟩ := VR_list h0
  have H := Mem.start ⟨w0, []⟩ S
  have H := H.pushArg (MP.val [(.slice A list.length c)] list) hl
  refine enter Try.func156 rfl rfl (nle rfl) rfl fun a hf => ?_
  rw [spec_l23Parity] at hF
  refine sq ?_
  refine reg ?_
  refine pRun_ok (tb := tab) (n := 18) tabOk 1 _ _ hf rfl rfl fun a hf => ?_
  refine wl_end ?_
  refine then_n ?_
  refine sq ?_
  refine reg ?_
  refine pRun_ok (tb := tab) (n := 18) tabOk 1 _ _ hf rfl rfl fun a hf => ?_
  refine wl_end ?_
  refine then_n ?_
  refine sq ?_
  refine sq ?_
  refine reg ?_
  refine pRun_ok (tb := tab) (n := 18) tabOk 1 _ _ hf rfl rfl fun a hf => ?_
  refine wl_end ?_
  refine then_n ?_
  obtain ⟨out2, hB1, hF⟩ := bind_some hF
  have hf := hf.prune [0, 3, 4] rfl
  have H := H.let [] [] [] [0]
  have hI : (fun (s : Int × Int) (a : Act) (w : World) => match s with | (out', i) => Fr a 18 [(0, (.slice A list.length c)), (3, (.int .i64 out')), (4, (.int .i64 i))] ∧ Mem ⟨w0, []⟩ S [] [] [] [(false, MP.val [(.slice A list.length c)] (list : List Int))] w) (0, 0) a w0 := ⟨hf, H⟩
  refine mid (fun a w => ∃ s : Int × Int, out2 = s ∧ (fun (s : Int × Int) (a : Act) (w : World) => match s with | (out', i) => Fr a 18 [(0, (.slice A list.length c)), (3, (.int .i64 out')), (4, (.int .i64 i))] ∧ Mem ⟨w0, []⟩ S [] [] [] [(false, MP.val [(.slice A list.length c)] (list : List Int))] w) s a w) ?_ ?_
  · refine wp_block ?_
    refine loop_rule (fun k (s : Int × Int) => spec_l23Parity_L1 fu list k s.1 s.2 = some out2) (fun (s : Int × Int) (a : Act) (w : World) => match s with | (out', i) => Fr a 18 [(0, (.slice A list.length c)), (3, (.int .i64 out')), (4, (.int .i64 i))] ∧ Mem ⟨w0, []⟩ S [] [] [] [(false, MP.val [(.slice A list.length c)] (list : List Int))] w) (fun s h => by cases h) ?_ fu (0, 0) a w0 hB1 hI
    rintro fk ⟨out', i⟩ a w hR1 hI
    replace hR1 : spec_l23Parity_L1 fu list (fk + 1) out' i = some out2 := hR1
    rw [spec_l23Parity_L1] at hR1
    obtain ⟨hf, H⟩ := hI
    refine sq ?_
    refine sq ?_
    refine reg ?_
    refine pRun_ok (tb := tab) (n := 18) tabOk 4 _ _ hf rfl rfl fun a hf => ?_
    refine wl_end ?_
    refine then_n ?_
    refine (Bool.eq_false_or_eq_true (decide (i < (list.length : Int)))).elim (fun hc => ?_) (fun hc => ?_)
    · rw [if_pos hc] at hR1
      refine cd_t hf rfl hc ?_
      refine wp_skip ?_
      refine then_n ?_
      refine sq ?_
      refine wp_block ?_
      refine reg ?_
      refine pRun_ok (tb := tab) (n := 18) tabOk 3 _ _ hf rfl rfl fun a hf => ?_
      obtain ⟨e, he, hR1⟩ := bind_some hR1
      refine wl0 rfl (op_iaddr hf H Try.underlying35 TF.sz3 0 rfl rfl rfl he (by decide) fun p o cs a hf hr H => ?_)
      obtain rfl := hr
      refine wl0 rfl (op_q hf (rq_loadI hf H TF.ls3 0 0 rfl rfl rfl) rfl (by decide) fun a hf => ?_)
      refine pRun_ok (tb := tab) (n := 18) tabOk 2 _ _ hf rfl rfl fun a hf => ?_
      refine wl_end ?_
      refine blk_n ?_
      refine then_n ?_
      refine reg ?_
      refine pRun_ok (tb := tab) (n := 18) tabOk 3 _ _ hf rfl rfl fun a hf => ?_
      refine wl_end ?_
      have hf := hf.prune [0, 3, 4] rfl
      have H := H.let [] [] [] [1]
      exact then_n ⟨(bxor out' e, w64 (i + 1)), hR1, hf, H⟩
    · rw [if_neg (nt hc)] at hR1
      refine cd_f hf rfl hc ?_
      refine wp_exit (then_x (then_x (blk_e (?_))))
      have hf := hf.prune [0, 3, 4] rfl
      have H := H.let [] [] [] [0]
      exact ⟨(out', i), (Option.some.inj hR1).symm, hf, H⟩
  rintro a w ⟨⟨out3, i2⟩, rfl, hf, H⟩
  dsimp only at hF
  refine then_n ?_
  refine sq ?_
  refine reg ?_
  refine pRun_ok (tb := tab) (n := 18) tabOk 2 _ _ hf rfl rfl fun a hf => ?_
  refine wl_end ?_
  refine then_n ?_
  refine wp_ret (?_)
  obtain rfl := Option.some.inj hF
  refine ret_1 (fn := Try.f156) (r := .tmp 2) hf rfl (rv_tmp hf rfl) ?_
  exact ⟨_, rfl, H.bel, mk_int⟩

/- loop.example/g00897/spec.l23List -/
set_option maxHeartbeats 1000000 in
theorem spec_l23List_ok {fu : Nat} {w0 : World} {S : Nat → Prop} {v0_ : Value} {f : Frame} {r : List Int} (h0 : VR w0 S v0_ f) (hF : spec_l23List fu f = some r) :
    Calls Try.prog 118 [v0_].toArray w0 fun e w' => ∃ v, e = .returned v ∧ (Below w0.heap.size w0 w' ∧ ∃ F0, VO w' F0 v r ∧ New w0 w' F0) := by
  obtain ⟨A, c, rfl, hl⟩ := Frame_open h0
  have H := Mem.start ⟨w0, []⟩ S
  have H := H.pushArg (MP.val [(.slice A f.Payload.length c)] f.Payload) hl
  refine enter Try.func118 rfl rfl (nle rfl) rfl fun a hf => ?_
  rw [spec_l23List] at hF
  refine sq ?_
  refine reg ?_
  refine wl0 rfl (op_box hf H rfl rfl (by decide) fun b' a w hf H => ?_)
  refine pRun_ok (tb := tab) (n := 17) tabOk 1 _ _ hf rfl rfl fun a hf => ?_
  refine wl_end ?_
  refine then_n ?_
  refine sq ?_
  refine reg ?_
  refine pRun_ok (tb := tab) (n := 17) tabOk 1 _ _ hf rfl rfl fun a hf => ?_
  refine wl0 rfl (op_q hf (rq_loadB hf H TF.ls3 0 rfl rfl rfl) rfl (by decide) fun a hf => ?_)
  refine pRun_ok (tb := tab) (n := 17) tabOk 1 _ _ hf rfl rfl fun a hf => ?_
  refine wl0 rfl (op_q hf (rq_loadB hf H TF.ls3 0 rfl rfl rfl) rfl (by decide) fun a hf => ?_)
  refine wl0 rfl (op_bslice hf H (.sh true) rfl 3 ([246, 40, f.Counter, f.Pointer] : List Int) [(.int .i64 246), (.int .i64 40), (.int .i64 f.Counter), (.int .i64 f.Pointer)] rfl (fun w => by kernel_rfl) rfl (by decide) rfl trivial (elI [246, 40, f.Counter, f.Pointer]) (by decide) fun A2 a w hf H => ?_)
  refine pRun_ok (tb := tab) (n := 17) tabOk 1 _ _ hf rfl rfl fun a hf => ?_
  refine wl0 rfl (op_q hf (rq_loadB hf H TF.ls35 0 rfl rfl rfl) rfl (by decide) fun a hf => ?_)
  obtain ⟨l, hl, hF⟩ := bind_some hF
  have H := H.rowWeak 0 rfl
  refine wl0 rfl (op_appI hf H Try.underlying35 TF.ai3 rfl (by decide) 0 0 rfl rfl rfl rfl (.inl rfl) hl (by decide) fun A3 c2 a w hf H => ?_)
  refine pRun_ok (tb := tab) (n := 17) tabOk 1 _ _ hf rfl rfl fun a hf => ?_
  refine wl_end ?_
  refine then_n ?_
  refine sq ?_
  refine reg ?_
  refine pRun_ok (tb := tab) (n := 17) tabOk 2 _ _ hf rfl rfl fun a hf => ?_
  obtain ⟨y, hy, hF⟩ := bind_some hF
  refine wl0 rfl (op_call hf TF.cl156 rfl (by decide) (spec_l23Parity_ok (S := fun _ => True) (mk_list (H.rowTrue 0 rfl)) hy) fun v w a hp hf => ?_)
  obtain ⟨hb, hp⟩ := hp
  obtain rfl := VR_int hp
  have H := H.keep hb
  refine wl0 rfl (op_bslice hf H (.sh true) rfl 3 ([y] : List Int) [(.int .i64 y)] rfl (fun w => by kernel_rfl) rfl (by decide) rfl trivial (el1 (y := y) rfl) (by decide) fun A4 a w hf H => ?_)
  obtain ⟨l2, hl2, hF⟩ := bind_some hF
  refine wl0 rfl (op_appR hf H Try.underlying35 TF.ai3 rfl (by decide) 1 0 rfl rfl rfl rfl (.inl rfl) hl2 (by decide) fun A5 c3 a w hf H => ?_)
  refine pRun_ok (tb := tab) (n := 17) tabOk 1 _ _ hf rfl rfl fun a hf => ?_
  have hf := hf.prune [2] rfl
  refine wl_end ?_
  refine then_n ?_
  refine wp_ret (?_)
  have H := H.rowOwn 1 rfl rfl
  obtain ⟨F, H⟩ := H.freezeOwn 1 rfl
  have H := H.lend 0 rfl
  obtain rfl := Option.some.inj hF
  refine ret_1 (fn := Try.f118) (r := .tmp 2) hf rfl (rv_tmp hf rfl) ?_
  have hN := H.ends (X := [(⟨F, MP.own F [(.slice A5 l2.length c3)] (l2 : List Int)⟩ : DI)])
  simp only [List.flatMap_cons, List.flatMap_nil, List.append_nil, List.append_assoc] at hN
  exact ⟨_, rfl, H.bel, F, (mko_list (H.ownAt 0 rfl)), hN⟩

/- loop.example/g00897/spec.l1Same -/
set_option maxHeartbeats 1000000 in
theorem spec_l1Same_ok {fu : Nat} {w0 : World} {S : Nat → Prop} {v0_ : Value} {v1_ : Value} {a' : List Int} {b' : List Int} {r : Bool} (h0 : VR w0 S v0_ a') (h1 : VR w0 S v1_ b') (hF : spec_l1Same fu a' b' = some r) :
    Calls Try.prog 127 [v0_, v1_].toArray w0 fun e w' => ∃ v, e = .returned v ∧ (Below w0.heap.size w0 w' ∧ VR w' (St ⟨w0, []⟩ S [] [] [] true) v r) := by
  obtain ⟨A, c, rfl, hl⟩ := VR_list h0
  obtain ⟨A2, c2, rfl, hl2⟩ := VR_list h1
  have H := Mem.start ⟨w0, []⟩ S
  have H := H.pushArg (MP.val [(.slice A a'.length c)] a') hl
  have H := H.pushArg (MP.val [(.slice A2 b'.length c2)] b') hl2
  refine enter Try.func127 rfl rfl (nle rfl) rfl fun a hf => ?_
  rw [spec_l1Same] at hF
  refine sq ?_
  refine reg ?_
  refine pRun_ok (tb := tab) (n := 26) tabOk 1 _ _ hf rfl rfl fun a hf => ?_
  refine wl_end ?_
  refine then_n ?_
  refine sq ?_
  refine sq ?_
  refine reg ?_
  refine pRun_ok (tb := tab) (n := 26) tabOk 5 _ _ hf rfl rfl fun a hf => ?_
  refine wl_end ?_
  refine then_n ?_
  refine (Bool.eq_false_or_eq_true ((a'.length : Int) != (b'.length : Int))).elim (fun hc => ?_) (fun hc => ?_)
  · rw [if_pos hc] at hF
    refine cd_t hf rfl hc ?_
    refine sq ?_
    refine reg ?_
    refine pRun_ok (tb := tab) (n := 26) tabOk 1 _ _ hf rfl rfl fun a hf => ?_
    refine wl_end ?_
    refine then_n ?_
    refine wp_ret (then_r (?_))
    obtain rfl := Option.some.inj hF
    refine ret_1 (fn := Try.f127) (r := .tmp 4) hf rfl (rv_tmp hf rfl) ?_
    exact ⟨_, rfl, H.bel, mk_bool⟩
  · rw [if_neg (nt hc)] at hF
    refine cd_f hf rfl hc ?_
    refine wp_skip ?_
    refine then_n ?_
    refine sq ?_
    refine sq ?_
    refine reg ?_
    refine pRun_ok (tb := tab) (n := 26) tabOk 1 _ _ hf rfl rfl fun a hf => ?_
    refine wl_end ?_
    refine then_n ?_
    obtain ⟨out', hB1, hF⟩ := bind_some hF
    have hf := hf.prune [0, 1, 5] rfl
    have H := H.let [] [] [] [0, 1]
    have hI : (fun (s : Int) (a : Act) (w : World) => match s with | i => Fr a 26 [(0, (.slice A a'.length c)), (1, (.slice A2 b'.length c2)), (5, (.int .i64 i))] ∧ Mem ⟨w0, []⟩ S [] [] [] [(false, MP.val [(.slice A2 b'.length c2)] (b' : List Int)), (false, MP.val [(.slice A a'.length c)] (a' : List Int))] w) 0 a w0 := ⟨hf, H⟩
    refine mid (fun a w => ∃ s : Int, out' = Out.next s ∧ (fun (s : Int) (a : Act) (w : World) => match s with | i => Fr a 26 [(0, (.slice A a'.length c)), (1, (.slice A2 b'.length c2)), (5, (.int .i64 i))] ∧ Mem ⟨w0, []⟩ S [] [] [] [(false, MP.val [(.slice A2 b'.length c2)] (b' : List Int)), (false, MP.val [(.slice A a'.length c)] (a' : List Int))] w) s a w) ?_ ?_
    · refine wp_block ?_
      refine loop_rule (fun k (s : Int) => spec_l1Same_L1 fu a' b' k s = some out') (fun (s : Int) (a : Act) (w : World) => match s with | i => Fr a 26 [(0, (.slice A a'.length c)), (1, (.slice A2 b'.length c2)), (5, (.int .i64 i))] ∧ Mem ⟨w0, []⟩ S [] [] [] [(false, MP.val [(.slice A2 b'.length c2)] (b' : List Int)), (false, MP.val [(.slice A a'.length c)] (a' : List Int))] w) (fun s h => by cases h) ?_ fu 0 a w0 hB1 hI
      rintro fk i a w hR1 hI
      replace hR1 : spec_l1Same_L1 fu a' b' (fk + 1) i = some out' := hR1
      rw [spec_l1Same_L1] at hR1
      obtain ⟨hf, H⟩ := hI
      refine sq ?_
      refine sq ?_
      refine reg ?_
      refine pRun_ok (tb := tab) (n := 26) tabOk 4 _ _ hf rfl rfl fun a hf => ?_
      refine wl_end ?_
      refine then_n ?_
      refine (Bool.eq_false_or_eq_true (decide (i < (a'.length : Int)))).elim (fun hc2 => ?_) (fun hc2 => ?_)
      · rw [if_pos hc2] at hR1
        refine cd_t hf rfl hc2 ?_
        refine wp_skip ?_
        refine then_n ?_
        refine sq ?_
        refine wp_block ?_
        refine sq ?_
        refine drawn [] (bs := [false, false, false, false, false, false, false, false, false]) (fuel := 9) (Checked.mixed Try.checked) rfl rfl fun w hb => ?_
        have H := H.keep hb
        refine tkP (i := 0) (bs' := [true, false, false, false, false, false, false, false, false]) rfl rfl rfl (by decide) hf (by kernel_rfl) (fun _ => trivial) (fun w => pOp_ok (tb := tab) tabOk hf rfl) rfl fun a hf => ?_
        refine tkP (i := 1) (bs' := [true, true, false, false, false, false, false, false, false]) rfl rfl rfl (by decide) hf (by kernel_rfl) (fun _ => trivial) (fun w => pOp_ok (tb := tab) tabOk hf rfl) rfl fun a hf => ?_
        obtain ⟨e, he, hR1⟩ := bind_some hR1
        obtain ⟨p, o, cs, hx, hr, H⟩ := pre_iaddr H Try.underlying35 TF.sz3 1 rfl he
        refine tkP (i := 2) (bs' := [true, true, true, false, false, false, false, false, false]) rfl rfl rfl (by decide) hf (by kernel_rfl) (fun _ => trivial) (fun w => rq_iaddrE hf rfl rfl rfl hx w) rfl fun a hf => ?_
        obtain rfl := hr
        refine str (fun w => Mem ⟨w0, []⟩ S [] [] [] [(false, MP.cells ⟨p, o, none⟩ [(.int .i64 e)]), (false, MP.val [(.slice A2 b'.length c2)] (b' : List Int)), (false, MP.val [(.slice A a'.length c)] (a' : List Int))] w) (fun w H => trivial) ?_
        have hS : Mem ⟨w0, []⟩ S [] [] [] [(false, MP.cells ⟨p, o, none⟩ [(.int .i64 e)]), (false, MP.val [(.slice A2 b'.length c2)] (b' : List Int)), (false, MP.val [(.slice A a'.length c)] (a' : List Int))] w := H.let [] [] [] [0, 1, 2]
        refine tkS (i := 3) (bs' := [true, true, true, true, false, false, false, false, false]) [] rfl rfl rfl (by decide) hf (by kernel_rfl) (by kernel_rfl) hS (fun w H => rq_loadI hf H TF.ls3 0 0 rfl rfl rfl) rfl fun a hf => ?_
        refine tkP (i := 4) (bs' := [true, true, true, true, true, false, false, false, false]) rfl rfl rfl (by decide) hf (by kernel_rfl) (fun _ => hS) (fun w => pOp_ok (tb := tab) tabOk hf rfl) rfl fun a hf => ?_
        refine tkP (i := 5) (bs' := [true, true, true, true, true, true, false, false, false]) rfl rfl rfl (by decide) hf (by kernel_rfl) (fun _ => hS) (fun w => pOp_ok (tb := tab) tabOk hf rfl) rfl fun a hf => ?_
        obtain ⟨e2, he2, hR1⟩ := bind_some hR1
        obtain ⟨p2, o2, cs2, hx2, hr2, H⟩ := pre_iaddr H Try.underlying35 TF.sz3 1 rfl he2
        refine tkP (i := 6) (bs' := [true, true, true, true, true, true, true, false, false]) rfl rfl rfl (by decide) hf (by kernel_rfl) (fun _ => hS) (fun w => rq_iaddrE hf rfl rfl rfl hx2 w) rfl fun a hf => ?_
        obtain rfl := hr2
        refine str (fun w => Mem ⟨w0, []⟩ S [] [] [] [(false, MP.cells ⟨p2, o2, none⟩ [(.int .i64 e2)]), (false, MP.cells ⟨p, o, none⟩ [(.int .i64 e)]), (false, MP.val [(.slice A2 b'.length c2)] (b' : List Int)), (false, MP.val [(.slice A a'.length c)] (a' : List Int))] w) (fun w H => H.let [] [] [] [1, 2, 3]) ?_
        have hS : Mem ⟨w0, []⟩ S [] [] [] [(false, MP.cells ⟨p2, o2, none⟩ [(.int .i64 e2)]), (false, MP.cells ⟨p, o, none⟩ [(.int .i64 e)]), (false, MP.val [(.slice A2 b'.length c2)] (b' : List Int)), (false, MP.val [(.slice A a'.length c)] (a' : List Int))] w := H.let [] [] [] [0, 1, 2, 3]
        refine tkS (i := 7) (bs' := [true, true, true, true, true, true, true, true, false]) [] rfl rfl rfl (by decide) hf (by kernel_rfl) (by kernel_rfl) hS (fun w H => rq_loadI hf H TF.ls3 0 0 rfl rfl rfl) rfl fun a hf => ?_
        refine tkP (i := 8) (bs' := [true, true, true, true, true, true, true, true, true]) rfl rfl rfl (by decide) hf (by kernel_rfl) (fun _ => hS) (fun w => pOp_ok (tb := tab) tabOk hf rfl) rfl fun a hf => ?_
        refine dn (by kernel_rfl) ?_
        refine then_n ?_
        refine (Bool.eq_false_or_eq_true (e != e2)).elim (fun hc3 => ?_) (fun hc3 => ?_)
        · rw [if_pos hc3] at hR1
          refine cd_t hf rfl hc3 ?_
          refine sq ?_
          refine reg ?_
          refine pRun_ok (tb := tab) (n := 26) tabOk 1 _ _ hf rfl rfl fun a hf => ?_
          have hf := hf.prune [4] rfl
          refine wl_end ?_
          refine then_n ?_
          refine wp_ret (blk_r (then_r (then_r (blk_r (then_r (then_r (?_)))))))
          obtain rfl := Option.some.inj hR1
          replace hF := on_ret hF
          obtain rfl := Option.some.inj hF
          refine ret_1 (fn := Try.f127) (r := .tmp 4) hf rfl (rv_tmp hf rfl) ?_
          exact ⟨_, rfl, H.bel, mk_bool⟩
        · rw [if_neg (nt hc3)] at hR1
          refine cd_f hf rfl hc3 ?_
          refine wp_skip ?_
          refine blk_n ?_
          refine then_n ?_
          refine reg ?_
          refine pRun_ok (tb := tab) (n := 26) tabOk 3 _ _ hf rfl rfl fun a hf => ?_
          have hf := hf.prune [0, 1, 5] rfl
          refine wl_end ?_
          have hf := hf.prune [0, 1, 5] rfl
          have H := H.let [] [] [] [2, 3]
          exact then_n ⟨w64 (i + 1), hR1, hf, H⟩
      · rw [if_neg (nt hc2)] at hR1
        refine cd_f hf rfl hc2 ?_
        refine wp_exit (then_x (then_x (blk_e (?_))))
        have hf := hf.prune [0, 1, 5] rfl
        have H := H.let [] [] [] [0, 1]
        exact ⟨i, (Option.some.inj hR1).symm, hf, H⟩
    rintro a w ⟨i2, rfl, hf, H⟩
    replace hF := on_next hF
    refine then_n ?_
    refine sq ?_
    refine reg ?_
    refine pRun_ok (tb := tab) (n := 26) tabOk 1 _ _ hf rfl rfl fun a hf => ?_
    refine wl_end ?_
    refine then_n ?_
    refine wp_ret (?_)
    obtain rfl := Option.some.inj hF
    refine ret_1 (fn := Try.f127) (r := .tmp 4) hf rfl (rv_tmp hf rfl) ?_
    exact ⟨_, rfl, H.bel, mk_bool⟩

/- loop.example/g00897/spec.ParseFrame -/
set_option maxHeartbeats 1000000 in
theorem spec_ParseFrame_ok {fu : Nat} {w0 : World} {S : Nat → Prop} {v0_ : Value} {list : List Int} {r : Frame × Bool} (h0 : VR w0 S v0_ list) (hF : spec_ParseFrame fu list = some r) :
    Calls Try.prog 65 [v0_].toArray w0 fun e w' => ∃ v, e = .returned v ∧ (Below w0.heap.size w0 w' ∧ ∃ F0, ∃ u0 u1, v = .tuple #[u0, u1] ∧ VO w' F0 u0 r.1 ∧ VR w' (St ⟨w0, []⟩ S [] [] [] true) u1 r.2 ∧ New w0 w' F0) := by
  obtain ⟨A, c, rfl, hl⟩ := VR_list h0
  have H := Mem.start ⟨w0, []⟩ S
  have H := H.pushArg (MP.val [(.slice A list.length c)] list) hl
  refine enter Try.func65 rfl rfl (nle rfl) rfl fun a hf => ?_
  rw [spec_ParseFrame] at hF
  refine sq ?_
  refine reg ?_
  refine wl0 rfl (op_alloc hf H TF.zv40 rfl (by decide) fun b' a w hf H => ?_)
  refine pRun_ok (tb := tab) (n := 31) tabOk 1 _ _ hf rfl rfl fun a hf => ?_
  refine wl_end ?_
  refine then_n ?_
  refine sq ?_
  refine sq ?_
  refine reg ?_
  refine pRun_ok (tb := tab) (n := 31) tabOk 3 _ _ hf rfl rfl fun a hf => ?_
  refine wl_end ?_
  refine then_n ?_
  refine (Bool.eq_false_or_eq_true ((list.length : Int) != 17)).elim (fun hc => ?_) (fun hc => ?_)
  · rw [if_pos hc] at hF
    refine cd_t hf rfl hc ?_
    refine sq ?_
    refine reg ?_
    refine wl0 rfl (op_q hf (rq_build hf (cs := [(.int .i64 0), (.int .i64 0), (.slice none 0 0)]) rfl (fun w => by kernel_rfl)) rfl (by decide) fun a hf => ?_)
    refine wl0 rfl (op_storeB hf H 0 TF.sz40 rfl rfl rfl rfl rfl rfl (nle rfl) fun w H => ?_)
    refine pRun_ok (tb := tab) (n := 31) tabOk 1 _ _ hf rfl rfl fun a hf => ?_
    refine wl_end ?_
    refine then_n ?_
    refine wp_ret (then_r (?_))
    have H := H.ownNil (Int)
    have H := H.lend 0 rfl
    obtain rfl := Option.some.inj hF
    refine ret_2 (fn := Try.f65) (r := .cell 2 40) (s := .tmp 3) hf rfl (rv_cellN hf H 0 TF.la40 rfl rfl rfl) (rv_tmp hf rfl) ?_
    have hN := H.ends (X := [(⟨[], MP.own [] [(.slice none 0 0)] ([] : List Int)⟩ : DI)])
    simp only [List.flatMap_cons, List.flatMap_nil, List.append_nil, List.append_assoc] at hN
    exact ⟨_, rfl, H.bel, [], _, _, rfl, ⟨_, Frame_ownmk (x := ({ Counter := 0, Pointer := 0, Payload := [] } : Frame)) (H.ownAt 0 rfl), rfl⟩, mk_bool, hN⟩
  · rw [if_neg (nt hc)] at hF
    refine cd_f hf rfl hc ?_
    refine wp_skip ?_
    refine then_n ?_
    refine sq ?_
    refine drawn [11] (bs := [false, false, false, false, false, false, false, false, false, false, false, false]) (fuel := 12) (Checked.mixed Try.checked) rfl rfl fun w hb => ?_
    have H := H.keep hb
    refine tkP (i := 0) (bs' := [true, false, false, false, false, false, false, false, false, false, false, false]) rfl rfl rfl (by decide) hf (by kernel_rfl) (fun _ => trivial) (fun w => pOp_ok (tb := tab) tabOk hf rfl) rfl fun a hf => ?_
    obtain ⟨e, he, hF⟩ := bind_some hF
    obtain ⟨p, o, cs, hx, hr, H⟩ := pre_iaddr H Try.underlying35 TF.sz3 0 rfl he
    refine tkP (i := 1) (bs' := [true, true, false, false, false, false, false, false, false, false, false, false]) rfl rfl rfl (by decide) hf (by kernel_rfl) (fun _ => trivial) (fun w => rq_iaddrE hf rfl rfl rfl hx w) rfl fun a hf => ?_
    obtain rfl := hr
    refine str (fun w => Mem ⟨w0, []⟩ S [⟨b', 40, [(.int .i64 0), (.int .i64 0), (.slice none 0 0)]⟩] [] [] [(false, MP.cells ⟨p, o, none⟩ [(.int .i64 e)]), (false, MP.val [(.slice A list.length c)] (list : List Int))] w) (fun w H => trivial) ?_
    have hS : Mem ⟨w0, []⟩ S [⟨b', 40, [(.int .i64 0), (.int .i64 0), (.slice none 0 0)]⟩] [] [] [(false, MP.cells ⟨p, o, none⟩ [(.int .i64 e)]), (false, MP.val [(.slice A list.length c)] (list : List Int))] w := H.let [true] [] [] [0, 1]
    refine tkS (i := 2) (bs' := [true, true, true, false, false, false, false, false, false, false, false, false]) [2, 9, 11] rfl rfl rfl (by decide) hf (by kernel_rfl) (by kernel_rfl) hS (fun w H => rq_loadI hf H TF.ls3 0 0 rfl rfl rfl) rfl fun a hf => ?_
    refine tkP (i := 3) (bs' := [true, true, true, true, false, false, false, false, false, false, false, false]) rfl rfl rfl (by decide) hf (by kernel_rfl) (fun _ => hS) (fun w => pOp_ok (tb := tab) tabOk hf rfl) rfl fun a hf => ?_
    obtain ⟨e2, he2, hF⟩ := bind_some hF
    obtain ⟨p2, o2, cs2, hx2, hr2, H⟩ := pre_iaddr H Try.underlying35 TF.sz3 1 rfl he2
    refine tkP (i := 4) (bs' := [true, true, true, true, true, false, false, false, false, false, false, false]) rfl rfl rfl (by decide) hf (by kernel_rfl) (fun _ => hS) (fun w => rq_iaddrE hf rfl rfl rfl hx2 w) rfl fun a hf => ?_
    obtain rfl := hr2
    refine str (fun w => Mem ⟨w0, []⟩ S [⟨b', 40, [(.int .i64 0), (.int .i64 0), (.slice none 0 0)]⟩] [] [] [(false, MP.cells ⟨p2, o2, none⟩ [(.int .i64 e2)]), (false, MP.cells ⟨p, o, none⟩ [(.int .i64 e)]), (false, MP.val [(.slice A list.length c)] (list : List Int))] w) (fun w H => H.let [true] [] [] [1, 2]) ?_
    have hS : Mem ⟨w0, []⟩ S [⟨b', 40, [(.int .i64 0), (.int .i64 0), (.slice none 0 0)]⟩] [] [] [(false, MP.cells ⟨p2, o2, none⟩ [(.int .i64 e2)]), (false, MP.cells ⟨p, o, none⟩ [(.int .i64 e)]), (false, MP.val [(.slice A list.length c)] (list : List Int))] w := H.let [true] [] [] [0, 1, 2]
    refine tkS (i := 5) (bs' := [true, true, true, true, true, true, false, false, false, false, false, false]) [5, 9, 11] rfl rfl rfl (by decide) hf (by kernel_rfl) (by kernel_rfl) hS (fun w H => rq_loadI hf H TF.ls3 0 0 rfl rfl rfl) rfl fun a hf => ?_
    refine tkP (i := 6) (bs' := [true, true, true, true, true, true, true, false, false, false, false, false]) rfl rfl rfl (by decide) hf (by kernel_rfl) (fun _ => hS) (fun w => pOp_ok (tb := tab) tabOk hf rfl) rfl fun a hf => ?_
    obtain ⟨l, hl, hF⟩ := bind_some hF
    obtain ⟨A2, c2, hx3, H⟩ := pre_slice H Try.underlying35 TF.sz3 2 (lov := some (.int .i64 4)) (hiv := some (.int .i64 16)) (.inr rfl) (.inr rfl) rfl hl
    refine tkP (i := 7) (bs' := [true, true, true, true, true, true, true, true, false, false, false, false]) rfl rfl rfl (by decide) hf (by kernel_rfl) (fun _ => hS) (fun w => rq_sliceE hf rfl rfl rfl hx3 w) rfl fun a hf => ?_
    refine on2 (i := 8) (j := 10) (bi := [true, true, true, true, true, true, true, true, true, false, false, false]) (bj := [true, true, true, true, true, true, true, true, false, false, true, false]) (by kernel_rfl) rfl rfl rfl rfl rfl rfl ?_ ?_
    · skip
      obtain ⟨y, hy, hF⟩ := bind_some hF
      refine (op_call hf TF.cl126 rfl (by decide) (spec_l1Own_ok (S := fun _ => True) (mk_list (rep_true (α := List Int) (H.get 0 rfl))) hy) fun v w a hp hf => ?_)
      obtain ⟨hb, F, hp2, hN⟩ := hp
      obtain ⟨A3, c3, rfl, hl2⟩ := VO_list hp2
      have H := H.addOwn hb (X := [(⟨F, MP.own F [(.slice A3 y.length c3)] (y : List Int)⟩ : DI)]) (by simpa using hN.1) (ps1 hl2 ps0) (by simpa using hN.2)
      have H := H.lend 0 rfl
      have hS : Mem ⟨w0, []⟩ S [⟨b', 40, [(.int .i64 0), (.int .i64 0), (.slice none 0 0)]⟩] [] [] [(false, MP.cells ⟨p2, o2, none⟩ [(.int .i64 e2)]), (false, MP.cells ⟨p, o, none⟩ [(.int .i64 e)]), (false, MP.val [(.slice A list.length c)] (list : List Int))] w := H.let [true] [] [false] [2, 3, 4]
      refine ⟨fun _ => hS, ?_⟩
      refine tkP (i := 9) (bs' := [true, true, true, true, true, true, true, true, true, true, false, false]) rfl rfl rfl (by decide) hf (by kernel_rfl) (fun _ => hS) (fun w => rq_build hf (cs := [(.int .i64 e), (.int .i64 e2), (.slice A3 y.length c3)]) rfl (fun w => by kernel_rfl)) rfl fun a hf => ?_
      refine on1 (i := 10) (bs' := [true, true, true, true, true, true, true, true, true, true, true, false]) (by kernel_rfl) rfl rfl rfl (op_alloc hf H TF.zv40 rfl (by decide) fun b2 a w hf H => ?_)
      have hS : Mem ⟨w0, []⟩ S [⟨b', 40, [(.int .i64 0), (.int .i64 0), (.slice none 0 0)]⟩] [] [] [(false, MP.cells ⟨p2, o2, none⟩ [(.int .i64 e2)]), (false, MP.cells ⟨p, o, none⟩ [(.int .i64 e)]), (false, MP.val [(.slice A list.length c)] (list : List Int))] w := H.let [false, true] [] [false] [2, 3, 4]
      refine ⟨fun _ => hS, ?_⟩
      refine on1 (i := 11) (bs' := [true, true, true, true, true, true, true, true, true, true, true, true]) (by kernel_rfl) rfl rfl rfl (op_storeB hf H 0 TF.sz40 rfl rfl rfl rfl rfl rfl (nle rfl) fun w H => ?_)
      refine ⟨fun h => absurd h (by decide), ?_⟩
      refine dn (by kernel_rfl) ?_
      have hf := hf.prune [0, 2, 4] rfl
      refine then_n ?_
      refine sq ?_
      refine sq ?_
      obtain ⟨c4, hGc4, hF⟩ := bind_some hF
      refine mid (fun a w => Fr a 31 [(2, (.pointer (some ⟨b', 0, none⟩))), (4, (.pointer (some ⟨b2, 0, none⟩))), (28, (.bool c4))] ∧ Mem ⟨w0, []⟩ S [⟨b2, 40, [(.int .i64 e), (.int .i64 e2), (.slice A3 y.length c3)]⟩, ⟨b', 40, [(.int .i64 0), (.int .i64 0), (.slice none 0 0)]⟩] [] [⟨F, MP.own F [(.slice A3 y.length c3)] (y : List Int)⟩] [(true, MP.val [(.slice A3 y.length c3)] (y : List Int))] w) ?_ ?_
      · refine reg ?_
        refine wl0 rfl (op_q hf (rq_loadBN hf H TF.la40 0 rfl rfl rfl rfl) rfl (by decide) fun a hf => ?_)
        obtain ⟨y2, hy2, hGc4⟩ := bind_some hGc4
        refine wl0 rfl (op_call hf TF.cl110 rfl (by decide) (spec_l23Good_ok (S := fun _ => True) (Frame_mkv (x := ({ Counter := e, Pointer := e2, Payload := y } : Frame)) (rep_true (α := List Int) (H.get 0 rfl))) hy2) fun v2 w a hp3 hf => ?_)
        obtain ⟨hb2, hp3⟩ := hp3
        obtain rfl := VR_bool hp3
        have H := H.keep hb2
        refine pRun_ok (tb := tab) (n := 31) tabOk 2 _ _ hf rfl rfl fun a hf => ?_
        refine (Bool.eq_false_or_eq_true (!y2)).elim (fun hc2 => ?_) (fun hc2 => ?_)
        · rw [if_pos hc2] at hGc4
          have hf := hf.lit 22 rfl hc2
          refine pRun_ok (tb := tab) (n := 31) tabOk 6 _ _ hf rfl rfl fun a hf => ?_
          obtain rfl := Option.some.inj hGc4
          have hf := hf.prune [2, 4, 28] rfl
          have H := H.let [true, true] [] [true] [0]
          exact wl_end ⟨hf, H⟩
        · rw [if_neg (nt hc2)] at hGc4
          have hf := hf.lit 22 rfl hc2
          refine wlg hf rfl rfl rfl (op_q hf (rq_loadBN hf H TF.la40 0 rfl rfl rfl rfl) rfl (by decide) fun a hf => ?_)
          obtain ⟨y3, hy3, hGc4⟩ := bind_some hGc4
          refine wlg hf rfl rfl rfl (op_call hf TF.cl118 rfl (by decide) (spec_l23List_ok (S := fun _ => True) (Frame_mkv (x := ({ Counter := e, Pointer := e2, Payload := y } : Frame)) (rep_true (α := List Int) (H.get 0 rfl))) hy3) fun v3 w a hp4 hf => ?_)
          obtain ⟨hb3, F3, hp5, hN2⟩ := hp4
          obtain ⟨A4, c5, rfl, hl3⟩ := VO_list hp5
          have H := H.addOwn hb3 (X := [(⟨F3, MP.own F3 [(.slice A4 y3.length c5)] (y3 : List Int)⟩ : DI)]) (by simpa using hN2.1) (ps1 hl3 ps0) (by simpa using hN2.2)
          have H := H.lend 0 rfl
          refine pRun_ok (tb := tab) (n := 31) tabOk 1 _ _ hf rfl rfl fun a hf => ?_
          obtain ⟨y4, hy4, hGc4⟩ := bind_some hGc4
          refine wlg hf rfl rfl rfl (op_call hf TF.cl127 rfl (by decide) (spec_l1Same_ok (S := fun _ => True) (mk_list (rep_true (α := List Int) (H.get 0 rfl))) (mk_list (rep_true (α := List Int) (H.get 5 rfl))) hy4) fun v4 w a hp6 hf => ?_)
          obtain ⟨hb4, hp6⟩ := hp6
          obtain rfl := VR_bool hp6
          have H := H.keep hb4
          refine pRun_ok (tb := tab) (n := 31) tabOk 2 _ _ hf rfl rfl fun a hf => ?_
          obtain rfl := Option.some.inj hGc4
          have hf := hf.prune [2, 4, 28] rfl
          have H := H.let [true, true] [] [false, true] [1]
          exact wl_end ⟨hf, H⟩
      rintro a w ⟨hf, H⟩
      refine then_n ?_
      refine (Bool.eq_false_or_eq_true (c4)).elim (fun hc3 => ?_) (fun hc3 => ?_)
      · rw [if_pos hc3] at hF
        refine cd_t hf rfl hc3 ?_
        refine sq ?_
        refine reg ?_
        refine wl0 rfl (op_q hf (rq_build hf (cs := [(.int .i64 0), (.int .i64 0), (.slice none 0 0)]) rfl (fun w => by kernel_rfl)) rfl (by decide) fun a hf => ?_)
        refine wl0 rfl (op_storeB hf H 1 TF.sz40 rfl rfl rfl rfl rfl rfl (nle rfl) fun w H => ?_)
        refine pRun_ok (tb := tab) (n := 31) tabOk 1 _ _ hf rfl rfl fun a hf => ?_
        refine wl_end ?_
        refine then_n ?_
        refine wp_ret (then_r (?_))
        have H := H.ownNil (Int)
        have H := H.lend 0 rfl
        obtain rfl := Option.some.inj hF
        refine ret_2 (fn := Try.f65) (r := .cell 2 40) (s := .tmp 3) hf rfl (rv_cellN hf H 1 TF.la40 rfl rfl rfl) (rv_tmp hf rfl) ?_
        have hN := H.ends (X := [(⟨[], MP.own [] [(.slice none 0 0)] ([] : List Int)⟩ : DI)])
        simp only [List.flatMap_cons, List.flatMap_nil, List.append_nil, List.append_assoc] at hN
        exact ⟨_, rfl, H.bel, [], _, _, rfl, ⟨_, Frame_ownmk (x := ({ Counter := 0, Pointer := 0, Payload := [] } : Frame)) (H.ownAt 0 rfl), rfl⟩, mk_bool, hN⟩
      · rw [if_neg (nt hc3)] at hF
        refine cd_f hf rfl hc3 ?_
        refine wp_skip ?_
        refine then_n ?_
        refine sq ?_
        refine reg ?_
        refine wl0 rfl (op_q hf (rq_loadBN hf H TF.la40 0 rfl rfl rfl rfl) rfl (by decide) fun a hf => ?_)
        refine wl0 rfl (op_storeB hf H 1 TF.sz40 rfl rfl rfl rfl rfl rfl (nle rfl) fun w H => ?_)
        refine pRun_ok (tb := tab) (n := 31) tabOk 1 _ _ hf rfl rfl fun a hf => ?_
        refine wl_end ?_
        refine then_n ?_
        refine wp_ret (?_)
        obtain rfl := Option.some.inj hF
        refine ret_2 (fn := Try.f65) (r := .cell 2 40) (s := .tmp 3) hf rfl (rv_cellN hf H 1 TF.la40 rfl rfl rfl) (rv_tmp hf rfl) ?_
        have hN := H.ends (X := [(⟨F, MP.own F [(.slice A3 y.length c3)] (y : List Int)⟩ : DI)])
        simp only [List.flatMap_cons, List.flatMap_nil, List.append_nil, List.append_assoc] at hN
        exact ⟨_, rfl, H.bel, F, _, _, rfl, ⟨_, Frame_ownmk (x := ({ Counter := e, Pointer := e2, Payload := y } : Frame)) (H.ownAt 0 rfl), rfl⟩, mk_bool, hN⟩
    · skip
      refine (op_alloc hf H TF.zv40 rfl (by decide) fun b2 a w hf H => ?_)
      have hS : Mem ⟨w0, []⟩ S [⟨b', 40, [(.int .i64 0), (.int .i64 0), (.slice none 0 0)]⟩] [] [] [(false, MP.cells ⟨p2, o2, none⟩ [(.int .i64 e2)]), (false, MP.cells ⟨p, o, none⟩ [(.int .i64 e)]), (false, MP.val [(.slice A list.length c)] (list : List Int))] w := H.let [false, true] [] [] [1, 2, 3]
      refine ⟨fun _ => hS, ?_⟩
      obtain ⟨y, hy, hF⟩ := bind_some hF
      refine on1 (i := 8) (bs' := [true, true, true, true, true, true, true, true, true, false, true, false]) (by kernel_rfl) rfl rfl rfl (op_call hf TF.cl126 rfl (by decide) (spec_l1Own_ok (S := fun _ => True) (mk_list (rep_true (α := List Int) (H.get 0 rfl))) hy) fun v w a hp hf => ?_)
      obtain ⟨hb, F, hp2, hN⟩ := hp
      obtain ⟨A3, c3, rfl, hl2⟩ := VO_list hp2
      have H := H.addOwn hb (X := [(⟨F, MP.own F [(.slice A3 y.length c3)] (y : List Int)⟩ : DI)]) (by simpa using hN.1) (ps1 hl2 ps0) (by simpa using hN.2)
      have H := H.lend 0 rfl
      have hS : Mem ⟨w0, []⟩ S [⟨b', 40, [(.int .i64 0), (.int .i64 0), (.slice none 0 0)]⟩] [] [] [(false, MP.cells ⟨p2, o2, none⟩ [(.int .i64 e2)]), (false, MP.cells ⟨p, o, none⟩ [(.int .i64 e)]), (false, MP.val [(.slice A list.length c)] (list : List Int))] w := H.let [false, true] [] [false] [2, 3, 4]
      refine ⟨fun _ => hS, ?_⟩
      refine tkP (i := 9) (bs' := [true, true, true, true, true, true, true, true, true, true, true, false]) rfl rfl rfl (by decide) hf (by kernel_rfl) (fun _ => hS) (fun w => rq_build hf (cs := [(.int .i64 e), (.int .i64 e2), (.slice A3 y.length c3)]) rfl (fun w => by kernel_rfl)) rfl fun a hf => ?_
      refine on1 (i := 11) (bs' := [true, true, true, true, true, true, true, true, true, true, true, true]) (by kernel_rfl) rfl rfl rfl (op_storeB hf H 0 TF.sz40 rfl rfl rfl rfl rfl rfl (nle rfl) fun w H => ?_)
      refine ⟨fun h => absurd h (by decide), ?_⟩
      refine dn (by kernel_rfl) ?_
      have hf := hf.prune [0, 2, 4] rfl
      refine then_n ?_
      refine sq ?_
      refine sq ?_
      obtain ⟨c4, hGc4, hF⟩ := bind_some hF
      refine mid (fun a w => Fr a 31 [(2, (.pointer (some ⟨b', 0, none⟩))), (4, (.pointer (some ⟨b2, 0, none⟩))), (28, (.bool c4))] ∧ Mem ⟨w0, []⟩ S [⟨b2, 40, [(.int .i64 e), (.int .i64 e2), (.slice A3 y.length c3)]⟩, ⟨b', 40, [(.int .i64 0), (.int .i64 0), (.slice none 0 0)]⟩] [] [⟨F, MP.own F [(.slice A3 y.length c3)] (y : List Int)⟩] [(true, MP.val [(.slice A3 y.length c3)] (y : List Int))] w) ?_ ?_
      · refine reg ?_
        refine wl0 rfl (op_q hf (rq_loadBN hf H TF.la40 0 rfl rfl rfl rfl) rfl (by decide) fun a hf => ?_)
        obtain ⟨y2, hy2, hGc4⟩ := bind_some hGc4
        refine wl0 rfl (op_call hf TF.cl110 rfl (by decide) (spec_l23Good_ok (S := fun _ => True) (Frame_mkv (x := ({ Counter := e, Pointer := e2, Payload := y } : Frame)) (rep_true (α := List Int) (H.get 0 rfl))) hy2) fun v2 w a hp3 hf => ?_)
        obtain ⟨hb2, hp3⟩ := hp3
        obtain rfl := VR_bool hp3
        have H := H.keep hb2
        refine pRun_ok (tb := tab) (n := 31) tabOk 2 _ _ hf rfl rfl fun a hf => ?_
        refine (Bool.eq_false_or_eq_true (!y2)).elim (fun hc2 => ?_) (fun hc2 => ?_)
        · rw [if_pos hc2] at hGc4
          have hf := hf.lit 22 rfl hc2
          refine pRun_ok (tb := tab) (n := 31) tabOk 6 _ _ hf rfl rfl fun a hf => ?_
          obtain rfl := Option.some.inj hGc4
          have hf := hf.prune [2, 4, 28] rfl
          have H := H.let [true, true] [] [true] [0]
          exact wl_end ⟨hf, H⟩
        · rw [if_neg (nt hc2)] at hGc4
          have hf := hf.lit 22 rfl hc2
          refine wlg hf rfl rfl rfl (op_q hf (rq_loadBN hf H TF.la40 0 rfl rfl rfl rfl) rfl (by decide) fun a hf => ?_)
          obtain ⟨y3, hy3, hGc4⟩ := bind_some hGc4
          refine wlg hf rfl rfl rfl (op_call hf TF.cl118 rfl (by decide) (spec_l23List_ok (S := fun _ => True) (Frame_mkv (x := ({ Counter := e, Pointer := e2, Payload := y } : Frame)) (rep_true (α := List Int) (H.get 0 rfl))) hy3) fun v3 w a hp4 hf => ?_)
          obtain ⟨hb3, F3, hp5, hN2⟩ := hp4
          obtain ⟨A4, c5, rfl, hl3⟩ := VO_list hp5
          have H := H.addOwn hb3 (X := [(⟨F3, MP.own F3 [(.slice A4 y3.length c5)] (y3 : List Int)⟩ : DI)]) (by simpa using hN2.1) (ps1 hl3 ps0) (by simpa using hN2.2)
          have H := H.lend 0 rfl
          refine pRun_ok (tb := tab) (n := 31) tabOk 1 _ _ hf rfl rfl fun a hf => ?_
          obtain ⟨y4, hy4, hGc4⟩ := bind_some hGc4
          refine wlg hf rfl rfl rfl (op_call hf TF.cl127 rfl (by decide) (spec_l1Same_ok (S := fun _ => True) (mk_list (rep_true (α := List Int) (H.get 0 rfl))) (mk_list (rep_true (α := List Int) (H.get 5 rfl))) hy4) fun v4 w a hp6 hf => ?_)
          obtain ⟨hb4, hp6⟩ := hp6
          obtain rfl := VR_bool hp6
          have H := H.keep hb4
          refine pRun_ok (tb := tab) (n := 31) tabOk 2 _ _ hf rfl rfl fun a hf => ?_
          obtain rfl := Option.some.inj hGc4
          have hf := hf.prune [2, 4, 28] rfl
          have H := H.let [true, true] [] [false, true] [1]
          exact wl_end ⟨hf, H⟩
      rintro a w ⟨hf, H⟩
      refine then_n ?_
      refine (Bool.eq_false_or_eq_true (c4)).elim (fun hc3 => ?_) (fun hc3 => ?_)
      · rw [if_pos hc3] at hF
        refine cd_t hf rfl hc3 ?_
        refine sq ?_
        refine reg ?_
        refine wl0 rfl (op_q hf (rq_build hf (cs := [(.int .i64 0), (.int .i64 0), (.slice none 0 0)]) rfl (fun w => by kernel_rfl)) rfl (by decide) fun a hf => ?_)
        refine wl0 rfl (op_storeB hf H 1 TF.sz40 rfl rfl rfl rfl rfl rfl (nle rfl) fun w H => ?_)
        refine pRun_ok (tb := tab) (n := 31) tabOk 1 _ _ hf rfl rfl fun a hf => ?_
        refine wl_end ?_
        refine then_n ?_
        refine wp_ret (then_r (?_))
        have H := H.ownNil (Int)
        have H := H.lend 0 rfl
        obtain rfl := Option.some.inj hF
        refine ret_2 (fn := Try.f65) (r := .cell 2 40) (s := .tmp 3) hf rfl (rv_cellN hf H 1 TF.la40 rfl rfl rfl) (rv_tmp hf rfl) ?_
        have hN := H.ends (X := [(⟨[], MP.own [] [(.slice none 0 0)] ([] : List Int)⟩ : DI)])
        simp only [List.flatMap_cons, List.flatMap_nil, List.append_nil, List.append_assoc] at hN
        exact ⟨_, rfl, H.bel, [], _, _, rfl, ⟨_, Frame_ownmk (x := ({ Counter := 0, Pointer := 0, Payload := [] } : Frame)) (H.ownAt 0 rfl), rfl⟩, mk_bool, hN⟩
      · rw [if_neg (nt hc3)] at hF
        refine cd_f hf rfl hc3 ?_
        refine wp_skip ?_
        refine then_n ?_
        refine sq ?_
        refine reg ?_
        refine wl0 rfl (op_q hf (rq_loadBN hf H TF.la40 0 rfl rfl rfl rfl) rfl (by decide) fun a hf => ?_)
        refine wl0 rfl (op_storeB hf H 1 TF.sz40 rfl rfl rfl rfl rfl rfl (nle rfl) fun w H => ?_)
        refine pRun_ok (tb := tab) (n := 31) tabOk 1 _ _ hf rfl rfl fun a hf => ?_
        refine wl_end ?_
        refine then_n ?_
        refine wp_ret (?_)
        obtain rfl := Option.some.inj hF
        refine ret_2 (fn := Try.f65) (r := .cell 2 40) (s := .tmp 3) hf rfl (rv_cellN hf H 1 TF.la40 rfl rfl rfl) (rv_tmp hf rfl) ?_
        have hN := H.ends (X := [(⟨F, MP.own F [(.slice A3 y.length c3)] (y : List Int)⟩ : DI)])
        simp only [List.flatMap_cons, List.flatMap_nil, List.append_nil, List.append_assoc] at hN
        exact ⟨_, rfl, H.bel, F, _, _, rfl, ⟨_, Frame_ownmk (x := ({ Counter := e, Pointer := e2, Payload := y } : Frame)) (H.ownAt 0 rfl), rfl⟩, mk_bool, hN⟩

/- loop.example/g00897/spec.FindFrames -/
set_option maxHeartbeats 1000000 in
theorem spec_FindFrames_ok {fu : Nat} {w0 : World} {S : Nat → Prop} {v0_ : Value} {stream : List Int} {r : List Int × Bool} (h0 : VR w0 S v0_ stream) (hF : spec_FindFrames fu stream = some r) :
    Calls Try.prog 68 [v0_].toArray w0 fun e w' => ∃ v, e = .returned v ∧ (Below w0.heap.size w0 w' ∧ ∃ F0, ∃ u0 u1, v = .tuple #[u0, u1] ∧ VO w' F0 u0 r.1 ∧ VR w' (St ⟨w0, []⟩ S [] [] [] true) u1 r.2 ∧ New w0 w' F0) := by
  obtain ⟨A, c, rfl, hl⟩ := VR_list h0
  have H := Mem.start ⟨w0, []⟩ S
  have H := H.pushArg (MP.val [(.slice A stream.length c)] stream) hl
  refine enter Try.func68 rfl rfl (nle rfl) rfl fun a hf => ?_
  rw [spec_FindFrames] at hF
  refine sq ?_
  refine reg ?_
  refine pRun_ok (tb := tab) (n := 43) tabOk 2 _ _ hf rfl rfl fun a hf => ?_
  refine wl_end ?_
  refine then_n ?_
  refine sq ?_
  refine reg ?_
  refine wl0 rfl (op_bslice hf H (.sh true) rfl 3 ([] : List Int) [] rfl (fun w => by kernel_rfl) rfl (by decide) rfl trivial el0 (by decide) fun A2 a w hf H => ?_)
  refine pRun_ok (tb := tab) (n := 43) tabOk 1 _ _ hf rfl rfl fun a hf => ?_
  refine wl_end ?_
  refine then_n ?_
  refine sq ?_
  refine sq ?_
  obtain ⟨c2, hGc2, hF⟩ := bind_some hF
  refine mid (fun a w => Fr a 43 [(0, (.slice A stream.length c)), (4, (.slice A2 0 0)), (16, (.bool c2))] ∧ Mem ⟨w0, []⟩ S [] [⟨.sh true, 3, A2, 0, (([] : List Int) : List Int)⟩] [] [(false, MP.val [(.slice A stream.length c)] (stream : List Int))] w) ?_ ?_
  · refine reg ?_
    refine pRun_ok (tb := tab) (n := 43) tabOk 4 _ _ hf rfl rfl fun a hf => ?_
    refine (Bool.eq_false_or_eq_true (decide ((stream.length : Int) > 400))).elim (fun hc => ?_) (fun hc => ?_)
    · rw [if_pos hc] at hGc2
      have hf := hf.lit 12 rfl hc
      refine pRun_ok (tb := tab) (n := 43) tabOk 4 _ _ hf rfl rfl fun a hf => ?_
      obtain rfl := Option.some.inj hGc2
      have hf := hf.prune [0, 4, 16] rfl
      have H := H.let [] [true] [] [0]
      exact wl_end ⟨hf, H⟩
    · rw [if_neg (nt hc)] at hGc2
      have hf := hf.lit 12 rfl hc
      refine pRun_ok (tb := tab) (n := 43) tabOk 1 _ _ hf rfl rfl fun a hf => ?_
      obtain ⟨y, hy, hGc2⟩ := bind_some hGc2
      refine wlg hf rfl rfl rfl (op_call hf TF.cl130 rfl (by decide) (spec_l23Bytes_ok (S := fun _ => True) (mk_list (rep_true (α := List Int) (H.get 0 rfl))) hy) fun v w a hp hf => ?_)
      obtain ⟨hb, hp⟩ := hp
      obtain rfl := VR_bool hp
      have H := H.keep hb
      refine pRun_ok (tb := tab) (n := 43) tabOk 2 _ _ hf rfl rfl fun a hf => ?_
      obtain rfl := Option.some.inj hGc2
      have hf := hf.prune [0, 4, 16] rfl
      have H := H.let [] [true] [] [0]
      exact wl_end ⟨hf, H⟩
  rintro a w ⟨hf, H⟩
  refine then_n ?_
  refine (Bool.eq_false_or_eq_true (c2)).elim (fun hc2 => ?_) (fun hc2 => ?_)
  · rw [if_pos hc2] at hF
    refine cd_t hf rfl hc2 ?_
    refine sq ?_
    refine reg ?_
    refine pRun_ok (tb := tab) (n := 43) tabOk 3 _ _ hf rfl rfl fun a hf => ?_
    refine wl_end ?_
    refine then_n ?_
    refine wp_ret (then_r (?_))
    have H := H.rowOwn 0 rfl rfl
    obtain ⟨F, H⟩ := H.freezeOwn 0 rfl
    have H := H.lend 0 rfl
    obtain rfl := Option.some.inj hF
    refine ret_2 (fn := Try.f68) (r := .tmp 2) (s := .tmp 3) hf rfl (rv_tmp hf rfl) (rv_tmp hf rfl) ?_
    have hN := H.ends (X := [(⟨F, MP.own F [(.slice A2 0 0)] (([] : List Int) : List Int)⟩ : DI)])
    simp only [List.flatMap_cons, List.flatMap_nil, List.append_nil, List.append_assoc] at hN
    exact ⟨_, rfl, H.bel, F, _, _, rfl, (mko_list (H.ownAt 0 rfl)), mk_bool, hN⟩
  · rw [if_neg (nt hc2)] at hF
    refine cd_f hf rfl hc2 ?_
    refine wp_skip ?_
    refine then_n ?_
    refine sq ?_
    refine sq ?_
    refine reg ?_
    refine pRun_ok (tb := tab) (n := 43) tabOk 1 _ _ hf rfl rfl fun a hf => ?_
    refine wl_end ?_
    refine then_n ?_
    obtain ⟨out2, hB1, hF⟩ := bind_some hF
    have hf := hf.prune [0, 4, 5] rfl
    have H := H.let [] [true] [] [0]
    have hI : (fun (s : List Int × Int) (a : Act) (w : World) => match s with | (out', i) => ∃ (A3 : Option Addr) (c3 : Nat), Fr a 43 [(0, (.slice A stream.length c)), (4, (.slice A3 out'.length c3)), (5, (.int .i64 i))] ∧ Mem ⟨w0, []⟩ S [] [⟨.sh true, 3, A3, c3, (out' : List Int)⟩] [] [(false, MP.val [(.slice A stream.length c)] (stream : List Int))] w) (([] : List Int), 0) a w := ⟨A2, 0, hf, H⟩
    refine mid (fun a w => ∃ s : List Int × Int, out2 = s ∧ (fun (s : List Int × Int) (a : Act) (w : World) => match s with | (out', i) => ∃ (A3 : Option Addr) (c3 : Nat), Fr a 43 [(0, (.slice A stream.length c)), (4, (.slice A3 out'.length c3)), (5, (.int .i64 i))] ∧ Mem ⟨w0, []⟩ S [] [⟨.sh true, 3, A3, c3, (out' : List Int)⟩] [] [(false, MP.val [(.slice A stream.length c)] (stream : List Int))] w) s a w) ?_ ?_
    · refine wp_block ?_
      refine loop_rule (fun k (s : List Int × Int) => spec_FindFrames_L1 fu stream k s.1 s.2 = some out2) (fun (s : List Int × Int) (a : Act) (w : World) => match s with | (out', i) => ∃ (A3 : Option Addr) (c3 : Nat), Fr a 43 [(0, (.slice A stream.length c)), (4, (.slice A3 out'.length c3)), (5, (.int .i64 i))] ∧ Mem ⟨w0, []⟩ S [] [⟨.sh true, 3, A3, c3, (out' : List Int)⟩] [] [(false, MP.val [(.slice A stream.length c)] (stream : List Int))] w) (fun s h => by cases h) ?_ fu (([] : List Int), 0) a w hB1 hI
      rintro fk ⟨out', i⟩ a w hR1 hI
      replace hR1 : spec_FindFrames_L1 fu stream (fk + 1) out' i = some out2 := hR1
      rw [spec_FindFrames_L1] at hR1
      obtain ⟨A3, c3, hf, H⟩ := hI
      refine sq ?_
      refine sq ?_
      refine reg ?_
      refine pRun_ok (tb := tab) (n := 43) tabOk 5 _ _ hf rfl rfl fun a hf => ?_
      refine wl_end ?_
      refine then_n ?_
      refine (Bool.eq_false_or_eq_true (decide ((w64 (i + 17)) ≤ (stream.length : Int)))).elim (fun hc3 => ?_) (fun hc3 => ?_)
      · rw [if_pos hc3] at hR1
        refine cd_t hf rfl hc3 ?_
        refine wp_skip ?_
        refine then_n ?_
        refine sq ?_
        refine wp_block ?_
        refine sq ?_
        refine reg ?_
        refine pRun_ok (tb := tab) (n := 43) tabOk 4 _ _ hf rfl rfl fun a hf => ?_
        obtain ⟨l, hl, hR1⟩ := bind_some hR1
        refine wl0 rfl (op_sliceI hf H Try.underlying35 TF.sz3 0 rfl rfl rfl rfl hl (by decide) fun A4 c4 a hf H => ?_)
        obtain ⟨y2, hy2, hR1⟩ := bind_some hR1
        refine wl0 rfl (op_call hf TF.cl65 rfl (by decide) (spec_ParseFrame_ok (S := fun _ => True) (mk_list (rep_true (α := List Int) (H.get 0 rfl))) hy2) fun v2 w a hp2 hf => ?_)
        obtain ⟨hb2, F2, v3, v4, rfl, hp3, hp4, hN⟩ := hp2
        obtain ⟨A5, c5, F3, rfl, rfl, hl2⟩ := Frame_vo hp3
        obtain rfl := VR_bool hp4
        have H := H.addOwn hb2 (X := [(⟨F3, MP.own F3 [(.slice A5 y2.1.Payload.length c5)] (y2.1.Payload : List Int)⟩ : DI)]) (by simpa using hN.1) (ps1 hl2 ps0) (by simpa using hN.2)
        have H := H.lend 0 rfl
        refine pRun_ok (tb := tab) (n := 43) tabOk 3 _ _ hf rfl rfl fun a hf => ?_
        refine wl0 rfl (op_alloc hf H TF.zv40 rfl (by decide) fun b' a w hf H => ?_)
        refine wl0 rfl (op_storeB hf H 0 TF.sz40 rfl rfl rfl rfl rfl rfl (nle rfl) fun w H => ?_)
        refine pRun_ok (tb := tab) (n := 43) tabOk 1 _ _ hf rfl rfl fun a hf => ?_
        have hf := hf.prune [0, 4, 5, 7] rfl
        refine wl_end ?_
        refine then_n ?_
        refine sq ?_
        refine reg ?_
        refine pRun_ok (tb := tab) (n := 43) tabOk 1 _ _ hf rfl rfl fun a hf => ?_
        refine wl_end ?_
        refine then_n ?_
        refine (Bool.eq_false_or_eq_true (y2.2)).elim (fun hc4 => ?_) (fun hc4 => ?_)
        · rw [if_pos hc4] at hR1
          refine cd_t hf rfl hc4 ?_
          refine sq ?_
          refine reg ?_
          refine pRun_ok (tb := tab) (n := 43) tabOk 2 _ _ hf rfl rfl fun a hf => ?_
          refine wl0 rfl (op_bslice hf H (.sh true) rfl 3 ([i] : List Int) [(.int .i64 i)] rfl (fun w => by kernel_rfl) rfl (by decide) rfl trivial (el1 (y := i) rfl) (by decide) fun A6 a w hf H => ?_)
          obtain ⟨l2, hl2, hR1⟩ := bind_some hR1
          refine wl0 rfl (op_appR hf H Try.underlying35 TF.ai3 rfl (by decide) 1 0 rfl rfl rfl rfl (.inr rfl) hl2 (by decide) fun A7 c6 a w hf H => ?_)
          refine pRun_ok (tb := tab) (n := 43) tabOk 1 _ _ hf rfl rfl fun a hf => ?_
          refine wl_end ?_
          refine then_n ?_
          refine reg ?_
          refine pRun_ok (tb := tab) (n := 43) tabOk 4 _ _ hf rfl rfl fun a hf => ?_
          refine wl_end ?_
          refine blk_n ?_
          refine then_n ?_
          refine reg ?_
          refine pRun_ok (tb := tab) (n := 43) tabOk 3 _ _ hf rfl rfl fun a hf => ?_
          refine wl_end ?_
          have hf := hf.prune [0, 4, 5] rfl
          have H := H.let [false] [false, true] [false] [2]
          exact then_n ⟨(l2, w64 ((w64 ((w64 (i + 17)) - 1)) + 1)), hR1, A7, c6, hf, H⟩
        · rw [if_neg (nt hc4)] at hR1
          refine cd_f hf rfl hc4 ?_
          refine wp_skip ?_
          refine blk_n ?_
          refine then_n ?_
          refine reg ?_
          refine pRun_ok (tb := tab) (n := 43) tabOk 3 _ _ hf rfl rfl fun a hf => ?_
          refine wl_end ?_
          have hf := hf.prune [0, 4, 5] rfl
          have H := H.let [false] [true] [false] [2]
          exact then_n ⟨(out', w64 (i + 1)), hR1, A3, c3, hf, H⟩
      · rw [if_neg (nt hc3)] at hR1
        refine cd_f hf rfl hc3 ?_
        refine wp_exit (then_x (then_x (blk_e (?_))))
        have hf := hf.prune [0, 4, 5] rfl
        have H := H.let [] [true] [] [0]
        exact ⟨(out', i), (Option.some.inj hR1).symm, A3, c3, hf, H⟩
    rintro a w ⟨⟨out3, i2⟩, rfl, A8, c7, hf, H⟩
    dsimp only at hF
    refine then_n ?_
    refine sq ?_
    refine reg ?_
    refine pRun_ok (tb := tab) (n := 43) tabOk 3 _ _ hf rfl rfl fun a hf => ?_
    refine wl_end ?_
    refine then_n ?_
    refine wp_ret (?_)
    have H := H.rowOwn 0 rfl rfl
    obtain ⟨F4, H⟩ := H.freezeOwn 0 rfl
    have H := H.lend 0 rfl
    obtain rfl := Option.some.inj hF
    refine ret_2 (fn := Try.f68) (r := .tmp 2) (s := .tmp 3) hf rfl (rv_tmp hf rfl) (rv_tmp hf rfl) ?_
    have hN := H.ends (X := [(⟨F4, MP.own F4 [(.slice A8 out3.length c7)] (out3 : List Int)⟩ : DI)])
    simp only [List.flatMap_cons, List.flatMap_nil, List.append_nil, List.append_assoc] at hN
    exact ⟨_, rfl, H.bel, F4, _, _, rfl, (mko_list (H.ownAt 0 rfl)), mk_bool, hN⟩

/- loop.example/g00897/impl.within -/
set_option maxHeartbeats 1000000 in
theorem impl_within_ok {fu : Nat} {w0 : World} {S : Nat → Prop} {v0_ : Value} {v1_ : Value} {v2_ : Value} {n' : Int} {low : Int} {high : Int} {r : Bool} (h0 : VR w0 S v0_ n') (h1 : VR w0 S v1_ low) (h2 : VR w0 S v2_ high) (hF : impl_within fu n' low high = some r) :
    Calls Try.prog 98 [v0_, v1_, v2_].toArray w0 fun e w' => ∃ v, e = .returned v ∧ (Below w0.heap.size w0 w' ∧ VR w' (St ⟨w0, []⟩ S [] [] [] true) v r) := by
  obtain rfl := VR_int h0
  obtain rfl := VR_int h1
  obtain rfl := VR_int h2
  have H := Mem.start ⟨w0, []⟩ S
  refine enter Try.func98 rfl rfl (nle rfl) rfl fun a hf => ?_
  rw [impl_within] at hF
  refine sq ?_
  refine reg ?_
  refine pRun_ok (tb := tab) (n := 15) tabOk 1 _ _ hf rfl rfl fun a hf => ?_
  refine wl_end ?_
  refine then_n ?_
  refine sq ?_
  obtain ⟨c, hGc, hF⟩ := bind_some hF
  refine mid (fun a w => Fr a 15 [(6, (.bool c))] ∧ Mem ⟨w0, []⟩ S [] [] [] [] w) ?_ ?_
  · refine reg ?_
    refine pRun_ok (tb := tab) (n := 15) tabOk 4 _ _ hf rfl rfl fun a hf => ?_
    refine (Bool.eq_false_or_eq_true (decide (low ≤ n'))).elim (fun hc => ?_) (fun hc => ?_)
    · rw [if_pos hc] at hGc
      have hf := hf.lit 10 rfl hc
      refine pRun_ok (tb := tab) (n := 15) tabOk 5 _ _ hf rfl rfl fun a hf => ?_
      obtain rfl := Option.some.inj hGc
      have hf := hf.prune [6] rfl
      have H := H.let [] [] [] []
      exact wl_end ⟨hf, H⟩
    · rw [if_neg (nt hc)] at hGc
      have hf := hf.lit 10 rfl hc
      refine pRun_ok (tb := tab) (n := 15) tabOk 5 _ _ hf rfl rfl fun a hf => ?_
      obtain rfl := Option.some.inj hGc
      have hf := hf.prune [6] rfl
      have H := H.let [] [] [] []
      exact wl_end ⟨hf, H⟩
  rintro a w ⟨hf, H⟩
  refine then_n ?_
  refine wp_ret (?_)
  obtain rfl := Option.some.inj hF
  refine ret_1 (fn := Try.f98) (r := .tmp 6) hf rfl (rv_tmp hf rfl) ?_
  exact ⟨_, rfl, H.bel, mk_bool⟩

/- loop.example/g00897/impl.areBytes$1 -/
set_option maxHeartbeats 1000000 in
theorem impl_areBytes_c1_ok {fu : Nat} {w0 : World} {S : Nat → Prop} {v0_ : Value} {b' : Int} {r : Bool} (h0 : VR w0 S v0_ b') (hF : impl_areBytes_c1 fu b' = some r) :
    Calls Try.prog 153 [v0_].toArray w0 fun e w' => ∃ v, e = .returned v ∧ (Below w0.heap.size w0 w' ∧ VR w' (St ⟨w0, []⟩ S [] [] [] true) v r) := by
  obtain rfl := VR_int h0
  have H := Mem.start ⟨w0, []⟩ S
  refine enter Try.func153 rfl rfl (nle rfl) rfl fun a hf => ?_
  rw [impl_areBytes_c1] at hF
  refine sq ?_
  refine reg ?_
  refine pRun_ok (tb := tab) (n := 6) tabOk 1 _ _ hf rfl rfl fun a hf => ?_
  refine wl_end ?_
  refine then_n ?_
  refine sq ?_
  refine reg ?_
  refine pRun_ok (tb := tab) (n := 6) tabOk 1 _ _ hf rfl rfl fun a hf => ?_
  obtain ⟨y, hy, hF⟩ := bind_some hF
  refine wl0 rfl (op_call hf TF.cl98 rfl (by decide) (impl_within_ok (S := fun _ => True) mk_int mk_int mk_int hy) fun v w a hp hf => ?_)
  obtain ⟨hb, hp⟩ := hp
  obtain rfl := VR_bool hp
  have H := H.keep hb
  refine pRun_ok (tb := tab) (n := 6) tabOk 2 _ _ hf rfl rfl fun a hf => ?_
  refine wl_end ?_
  refine then_n ?_
  refine wp_ret (?_)
  obtain rfl := Option.some.inj hF
  refine ret_1 (fn := Try.f153) (r := .tmp 2) hf rfl (rv_tmp hf rfl) ?_
  exact ⟨_, rfl, H.bel, mk_bool⟩

/- slices.IndexFunc[[]int,int] -/
set_option maxHeartbeats 1000000 in
theorem slices_IndexFunc_int_int_of_areBytes_c1_ok {fu : Nat} {w0 : World} {S : Nat → Prop} {v0_ : Value} {s' : List Int} {r : Int} (h0 : VR w0 S v0_ s') (hF : slices_IndexFunc_int_int_of_areBytes_c1 fu s' = some r) :
    Calls Try.prog 155 [v0_, (.func (.func 153) #[] #[])].toArray w0 fun e w' => ∃ v, e = .returned v ∧ (Below w0.heap.size w0 w' ∧ VR w' (St ⟨w0, []⟩ S [] [] [] true) v r) := by
  obtain ⟨A, c, rfl, hl⟩ := VR_list h0
  have H := Mem.start ⟨w0, []⟩ S
  have H := H.pushArg (MP.val [(.slice A s'.length c)] s') hl
  refine enter Try.func155 rfl rfl (nle rfl) rfl fun a hf => ?_
  rw [slices_IndexFunc_int_int_of_areBytes_c1] at hF
  refine sq ?_
  refine reg ?_
  refine pRun_ok (tb := tab) (n := 19) tabOk 1 _ _ hf rfl rfl fun a hf => ?_
  refine wl_end ?_
  refine then_n ?_
  refine sq ?_
  refine sq ?_
  refine reg ?_
  refine pRun_ok (tb := tab) (n := 19) tabOk 3 _ _ hf rfl rfl fun a hf => ?_
  refine wl_end ?_
  refine then_n ?_
  obtain ⟨out', hB1, hF⟩ := bind_some hF
  have hf := hf.prune [0, 1, 7, 8] rfl
  have H := H.let [] [] [] [0]
  have hI : (fun (s : Int) (a : Act) (w : World) => match s with | i => Fr a 19 [(0, (.slice A s'.length c)), (1, (.func (.func 153) #[] #[])), (7, (.int .i64 (s'.length : Int))), (8, (.int .i64 i))] ∧ Mem ⟨w0, []⟩ S [] [] [] [(false, MP.val [(.slice A s'.length c)] (s' : List Int))] w) 0 a w0 := ⟨hf, H⟩
  refine mid (fun a w => ∃ s : Int, out' = Out.next s ∧ (fun (s : Int) (a : Act) (w : World) => match s with | i => Fr a 19 [(0, (.slice A s'.length c)), (1, (.func (.func 153) #[] #[])), (7, (.int .i64 (s'.length : Int))), (8, (.int .i64 i))] ∧ Mem ⟨w0, []⟩ S [] [] [] [(false, MP.val [(.slice A s'.length c)] (s' : List Int))] w) s a w) ?_ ?_
  · refine wp_block ?_
    refine loop_rule (fun k (s : Int) => slices_IndexFunc_int_int_of_areBytes_c1_L1 fu s' k s = some out') (fun (s : Int) (a : Act) (w : World) => match s with | i => Fr a 19 [(0, (.slice A s'.length c)), (1, (.func (.func 153) #[] #[])), (7, (.int .i64 (s'.length : Int))), (8, (.int .i64 i))] ∧ Mem ⟨w0, []⟩ S [] [] [] [(false, MP.val [(.slice A s'.length c)] (s' : List Int))] w) (fun s h => by cases h) ?_ fu 0 a w0 hB1 hI
    rintro fk i a w hR1 hI
    replace hR1 : slices_IndexFunc_int_int_of_areBytes_c1_L1 fu s' (fk + 1) i = some out' := hR1
    rw [slices_IndexFunc_int_int_of_areBytes_c1_L1] at hR1
    obtain ⟨hf, H⟩ := hI
    refine sq ?_
    refine reg ?_
    refine pRun_ok (tb := tab) (n := 19) tabOk 1 _ _ hf rfl rfl fun a hf => ?_
    refine wl_end ?_
    refine then_n ?_
    refine sq ?_
    refine (Bool.eq_false_or_eq_true (decide (i < (s'.length : Int)))).elim (fun hc => ?_) (fun hc => ?_)
    · rw [if_pos hc] at hR1
      refine cd_t hf rfl hc ?_
      refine wp_skip ?_
      refine then_n ?_
      refine sq ?_
      refine wp_block ?_
      refine sq ?_
      refine reg ?_
      refine pRun_ok (tb := tab) (n := 19) tabOk 2 _ _ hf rfl rfl fun a hf => ?_
      refine wl_end ?_
      refine then_n ?_
      refine sq ?_
      refine reg ?_
      refine pRun_ok (tb := tab) (n := 19) tabOk 3 _ _ hf rfl rfl fun a hf => ?_
      obtain ⟨e, he, hR1⟩ := bind_some hR1
      refine wl0 rfl (op_iaddr hf H Try.underlying35 TF.sz3 0 rfl rfl rfl he (by decide) fun p o cs a hf hr H => ?_)
      obtain rfl := hr
      refine wl0 rfl (op_q hf (rq_loadI hf H TF.ls3 0 0 rfl rfl rfl) rfl (by decide) fun a hf => ?_)
      obtain ⟨y, hy, hR1⟩ := bind_some hR1
      refine wl0 rfl (op_callV hf TF.cl153 rfl rfl (by decide) (impl_areBytes_c1_ok (S := fun _ => True) mk_int hy) fun v w a hp hf => ?_)
      obtain ⟨hb, hp⟩ := hp
      obtain rfl := VR_bool hp
      have H := H.keep hb
      refine wl_end ?_
      refine then_n ?_
      refine (Bool.eq_false_or_eq_true (y)).elim (fun hc2 => ?_) (fun hc2 => ?_)
      · rw [if_pos hc2] at hR1
        refine cd_t hf rfl hc2 ?_
        refine sq ?_
        refine reg ?_
        refine pRun_ok (tb := tab) (n := 19) tabOk 2 _ _ hf rfl rfl fun a hf => ?_
        have hf := hf.prune [4] rfl
        refine wl_end ?_
        refine then_n ?_
        refine wp_ret (blk_r (then_r (then_r (blk_r (then_r (then_r (?_)))))))
        obtain rfl := Option.some.inj hR1
        replace hF := on_ret hF
        obtain rfl := Option.some.inj hF
        refine ret_1 (fn := Try.f155) (r := .tmp 4) hf rfl (rv_tmp hf rfl) ?_
        exact ⟨_, rfl, H.bel, mk_int⟩
      · rw [if_neg (nt hc2)] at hR1
        refine cd_f hf rfl hc2 ?_
        refine wp_skip ?_
        refine blk_n ?_
        refine then_n ?_
        refine reg ?_
        refine pRun_ok (tb := tab) (n := 19) tabOk 2 _ _ hf rfl rfl fun a hf => ?_
        refine wl_end ?_
        have hf := hf.prune [0, 1, 7, 8] rfl
        have H := H.let [] [] [] [1]
        exact then_n ⟨w64 (i + 1), hR1, hf, H⟩
    · rw [if_neg (nt hc)] at hR1
      refine cd_f hf rfl hc ?_
      refine wp_exit (then_x (then_x (blk_e (?_))))
      have hf := hf.prune [0, 1, 7, 8] rfl
      have H := H.let [] [] [] [0]
      exact ⟨i, (Option.some.inj hR1).symm, hf, H⟩
  rintro a w ⟨i2, rfl, hf, H⟩
  replace hF := on_next hF
  refine then_n ?_
  refine sq ?_
  refine reg ?_
  refine pRun_ok (tb := tab) (n := 19) tabOk 1 _ _ hf rfl rfl fun a hf => ?_
  refine wl_end ?_
  refine then_n ?_
  refine wp_ret (?_)
  obtain rfl := Option.some.inj hF
  refine ret_1 (fn := Try.f155) (r := .tmp 4) hf rfl (rv_tmp hf rfl) ?_
  exact ⟨_, rfl, H.bel, mk_int⟩

/- slices.ContainsFunc[[]int,int] -/
set_option maxHeartbeats 1000000 in
theorem slices_ContainsFunc_int_int_of_areBytes_c1_ok {fu : Nat} {w0 : World} {S : Nat → Prop} {v0_ : Value} {s' : List Int} {r : Bool} (h0 : VR w0 S v0_ s') (hF : slices_ContainsFunc_int_int_of_areBytes_c1 fu s' = some r) :
    Calls Try.prog 115 [v0_, (.func (.func 153) #[] #[])].toArray w0 fun e w' => ∃ v, e = .returned v ∧ (Below w0.heap.size w0 w' ∧ VR w' (St ⟨w0, []⟩ S [] [] [] true) v r) := by
  obtain ⟨A, c, rfl, hl⟩ := VR_list h0
  have H := Mem.start ⟨w0, []⟩ S
  have H := H.pushArg (MP.val [(.slice A s'.length c)] s') hl
  refine enter Try.func115 rfl rfl (nle rfl) rfl fun a hf => ?_
  rw [slices_ContainsFunc_int_int_of_areBytes_c1] at hF
  refine sq ?_
  refine reg ?_
  refine pRun_ok (tb := tab) (n := 9) tabOk 1 _ _ hf rfl rfl fun a hf => ?_
  refine wl_end ?_
  refine then_n ?_
  refine sq ?_
  refine reg ?_
  refine pRun_ok (tb := tab) (n := 9) tabOk 2 _ _ hf rfl rfl fun a hf => ?_
  obtain ⟨y, hy, hF⟩ := bind_some hF
  refine wl0 rfl (op_call hf TF.cl155 rfl (by decide) (slices_IndexFunc_int_int_of_areBytes_c1_ok (S := fun _ => True) (mk_list (rep_true (α := List Int) (H.get 0 rfl))) hy) fun v w a hp hf => ?_)
  obtain ⟨hb, hp⟩ := hp
  obtain rfl := VR_int hp
  have H := H.keep hb
  refine pRun_ok (tb := tab) (n := 9) tabOk 2 _ _ hf rfl rfl fun a hf => ?_
  refine wl_end ?_
  refine then_n ?_
  refine wp_ret (?_)
  obtain rfl := Option.some.inj hF
  refine ret_1 (fn := Try.f115) (r := .tmp 4) hf rfl (rv_tmp hf rfl) ?_
  exact ⟨_, rfl, H.bel, mk_bool⟩

/- loop.example/g00897/impl.areBytes -/
set_option maxHeartbeats 1000000 in
theorem impl_areBytes_ok {fu : Nat} {w0 : World} {S : Nat → Prop} {v0_ : Value} {l : List Int} {r : Bool} (h0 : VR w0 S v0_ l) (hF : impl_areBytes fu l = some r) :
    Calls Try.prog 111 [v0_].toArray w0 fun e w' => ∃ v, e = .returned v ∧ (Below w0.heap.size w0 w' ∧ VR w' (St ⟨w0, []⟩ S [] [] [] true) v r) := by
  obtain ⟨A, c, rfl, hl⟩ := VR_list h0
  have H := Mem.start ⟨w0, []⟩ S
  have H := H.pushArg (MP.val [(.slice A l.length c)] l) hl
  refine enter Try.func111 rfl rfl (nle rfl) rfl fun a hf => ?_
  rw [impl_areBytes] at hF
  refine sq ?_
  refine reg ?_
  refine pRun_ok (tb := tab) (n := 6) tabOk 1 _ _ hf rfl rfl fun a hf => ?_
  refine wl_end ?_
  refine then_n ?_
  refine sq ?_
  refine reg ?_
  refine pRun_ok (tb := tab) (n := 6) tabOk 1 _ _ hf rfl rfl fun a hf => ?_
  obtain ⟨y, hy, hF⟩ := bind_some hF
  refine wl0 rfl (op_call hf TF.cl115 rfl (by decide) (slices_ContainsFunc_int_int_of_areBytes_c1_ok (S := fun _ => True) (mk_list (rep_true (α := List Int) (H.get 0 rfl))) hy) fun v w a hp hf => ?_)
  obtain ⟨hb, hp⟩ := hp
  obtain rfl := VR_bool hp
  have H := H.keep hb
  refine pRun_ok (tb := tab) (n := 6) tabOk 2 _ _ hf rfl rfl fun a hf => ?_
  refine wl_end ?_
  refine then_n ?_
  refine wp_ret (?_)
  obtain rfl := Option.some.inj hF
  refine ret_1 (fn := Try.f111) (r := .tmp 2) hf rfl (rv_tmp hf rfl) ?_
  exact ⟨_, rfl, H.bel, mk_bool⟩

/- slices.Clone[[]int,int] -/
set_option maxHeartbeats 1000000 in
theorem slices_Clone_int_int_ok {fu : Nat} {w0 : World} {S : Nat → Prop} {v0_ : Value} {s' : List Int} {r : List Int} (h0 : VR w0 S v0_ s') (hF : slices_Clone_int_int fu s' = some r) :
    Calls Try.prog 128 [v0_].toArray w0 fun e w' => ∃ v, e = .returned v ∧ (Below w0.heap.size w0 w' ∧ ∃ F0, VO w' F0 v r ∧ New w0 w' F0) := by
  obtain ⟨A, c, rfl, hl⟩ := VR_list h0
  have H := Mem.start ⟨w0, []⟩ S
  have H := H.pushArg (MP.val [(.slice A s'.length c)] s') hl
  refine enter Try.func128 rfl rfl (nle rfl) rfl fun a hf => ?_
  rw [slices_Clone_int_int] at hF
  refine sq ?_
  refine reg ?_
  refine pRun_ok (tb := tab) (n := 8) tabOk 1 _ _ hf rfl rfl fun a hf => ?_
  refine wl_end ?_
  refine then_n ?_
  refine sq ?_
  refine sq ?_
  refine reg ?_
  refine pRun_ok (tb := tab) (n := 8) tabOk 1 _ _ hf rfl rfl fun a hf => ?_
  cases A with
  | none =>
    have hnil : s' = [] := nil_data (α := Int) (H.get 0 rfl)
    replace hF := nil_case1 hnil hF
    refine wl0 rfl (op_q hf (rq_nilN hf Try.underlying35 rfl rfl) rfl (by decide) fun a hf => ?_)
    refine wl_end ?_
    refine then_n ?_
    refine cd_t hf rfl rfl ?_
    refine sq ?_
    refine reg ?_
    refine pRun_ok (tb := tab) (n := 8) tabOk 1 _ _ hf rfl rfl fun a hf => ?_
    refine wl_end ?_
    refine then_n ?_
    refine wp_ret (then_r (?_))
    have H := H.ownNil (Int)
    have H := H.lend 0 rfl
    obtain rfl := Option.some.inj hF
    refine ret_1 (fn := Try.f128) (r := .tmp 2) hf rfl (rv_tmp hf rfl) ?_
    have hN := H.ends (X := [(⟨[], MP.own [] [(.slice none 0 0)] ([] : List Int)⟩ : DI)])
    simp only [List.flatMap_cons, List.flatMap_nil, List.append_nil, List.append_assoc] at hN
    exact ⟨_, rfl, H.bel, [], (mko_list (H.ownAt 0 rfl)), hN⟩
  | some A2 =>
    replace hF := nil_case2 hF
    refine wl0 rfl (op_q hf (rq_nilS hf Try.underlying35 rfl rfl) rfl (by decide) fun a hf => ?_)
    refine wl_end ?_
    refine then_n ?_
    refine cd_f hf rfl rfl ?_
    refine wp_skip ?_
    refine then_n ?_
    refine sq ?_
    refine reg ?_
    refine wl0 rfl (op_bslice hf H (.sh true) rfl 3 ([] : List Int) [] rfl (fun w => by kernel_rfl) rfl (by decide) rfl trivial el0 (by decide) fun A3 a w hf H => ?_)
    refine pRun_ok (tb := tab) (n := 8) tabOk 1 _ _ hf rfl rfl fun a hf => ?_
    obtain ⟨l, hl, hF⟩ := bind_some hF
    have H := H.rowWeak 0 rfl
    refine wl0 rfl (op_appI hf H Try.underlying35 TF.ai3 rfl (by decide) 0 0 rfl rfl rfl rfl (.inl rfl) hl (by decide) fun A4 c2 a w hf H => ?_)
    refine pRun_ok (tb := tab) (n := 8) tabOk 1 _ _ hf rfl rfl fun a hf => ?_
    refine wl_end ?_
    refine then_n ?_
    refine wp_ret (?_)
    have H := H.rowOwn 0 rfl rfl
    obtain ⟨F, H⟩ := H.freezeOwn 0 rfl
    have H := H.lend 0 rfl
    obtain rfl := Option.some.inj hF
    refine ret_1 (fn := Try.f128) (r := .tmp 2) hf rfl (rv_tmp hf rfl) ?_
    have hN := H.ends (X := [(⟨F, MP.own F [(.slice A4 l.length c2)] (l : List Int)⟩ : DI)])
    simp only [List.flatMap_cons, List.flatMap_nil, List.append_nil, List.append_assoc] at hN
    exact ⟨_, rfl, H.bel, F, (mko_list (H.ownAt 0 rfl)), hN⟩

/- loop.example/g00897/impl.IsValidFrame -/
set_option maxHeartbeats 1000000 in
theorem impl_IsValidFrame_ok {fu : Nat} {w0 : World} {S : Nat → Prop} {v0_ : Value} {f : Frame} {r : Bool} (h0 : VR w0 S v0_ f) (hF : impl_IsValidFrame fu f = some r) :
    Calls Try.prog 38 [v0_].toArray w0 fun e w' => ∃ v, e = .returned v ∧ (Below w0.heap.size w0 w' ∧ VR w' (St ⟨w0, []⟩ S [] [] [] true) v r) := by
  obtain ⟨A, c, rfl, hl⟩ := Frame_open h0
  have H := Mem.start ⟨w0, []⟩ S
  have H := H.pushArg (MP.val [(.slice A f.Payload.length c)] f.Payload) hl
  refine enter Try.func38 rfl rfl (nle rfl) rfl fun a hf => ?_
  rw [impl_IsValidFrame] at hF
  refine sq ?_
  refine reg ?_
  refine wl0 rfl (op_box hf H rfl rfl (by decide) fun b' a w hf H => ?_)
  refine pRun_ok (tb := tab) (n := 22) tabOk 1 _ _ hf rfl rfl fun a hf => ?_
  refine wl_end ?_
  refine then_n ?_
  refine sq ?_
  obtain ⟨c2, hGc2, hF⟩ := bind_some hF
  refine mid (fun a w => Fr a 22 [(2, (.bool c2))] ∧ Mem ⟨w0, []⟩ S [] [] [] [] w) ?_ ?_
  · refine reg ?_
    refine pRun_ok (tb := tab) (n := 22) tabOk 1 _ _ hf rfl rfl fun a hf => ?_
    refine wl0 rfl (op_q hf (rq_loadB hf H TF.ls3 0 rfl rfl rfl) rfl (by decide) fun a hf => ?_)
    obtain ⟨y, hy, hGc2⟩ := bind_some hGc2
    refine wl0 rfl (op_call hf TF.cl98 rfl (by decide) (impl_within_ok (S := fun _ => True) mk_int mk_int mk_int hy) fun v w a hp hf => ?_)
    obtain ⟨hb, hp⟩ := hp
    obtain rfl := VR_bool hp
    have H := H.keep hb
    refine pRun_ok (tb := tab) (n := 22) tabOk 1 _ _ hf rfl rfl fun a hf => ?_
    refine (Bool.eq_false_or_eq_true (y)).elim (fun hc => ?_) (fun hc => ?_)
    · rw [if_pos hc] at hGc2
      have hf := hf.lit 6 rfl hc
      refine pRun_ok (tb := tab) (n := 22) tabOk 1 _ _ hf rfl rfl fun a hf => ?_
      refine wlg hf rfl rfl rfl (op_q hf (rq_loadB hf H TF.ls3 0 rfl rfl rfl) rfl (by decide) fun a hf => ?_)
      obtain ⟨y2, hy2, hGc2⟩ := bind_some hGc2
      refine wlg hf rfl rfl rfl (op_call hf TF.cl98 rfl (by decide) (impl_within_ok (S := fun _ => True) mk_int mk_int mk_int hy2) fun v2 w a hp2 hf => ?_)
      obtain ⟨hb2, hp2⟩ := hp2
      obtain rfl := VR_bool hp2
      have H := H.keep hb2
      refine pRun_ok (tb := tab) (n := 22) tabOk 2 _ _ hf rfl rfl fun a hf => ?_
      refine (Bool.eq_false_or_eq_true (y2)).elim (fun hc2 => ?_) (fun hc2 => ?_)
      · rw [if_pos hc2] at hGc2
        have hf := hf.lit 11 rfl hc2
        refine pRun_ok (tb := tab) (n := 22) tabOk 1 _ _ hf rfl rfl fun a hf => ?_
        refine wlg hf rfl rfl rfl (op_q hf (rq_loadB hf H TF.ls35 0 rfl rfl rfl) rfl (by decide) fun a hf => ?_)
        refine pRun_ok (tb := tab) (n := 22) tabOk 4 _ _ hf rfl rfl fun a hf => ?_
        refine (Bool.eq_false_or_eq_true ((f.Payload.length : Int) == 12)).elim (fun hc3 => ?_) (fun hc3 => ?_)
        · rw [if_pos hc3] at hGc2
          have hf := hf.lit 17 rfl hc3
          refine pRun_ok (tb := tab) (n := 22) tabOk 1 _ _ hf rfl rfl fun a hf => ?_
          refine wlg hf rfl rfl rfl (op_q hf (rq_loadB hf H TF.ls35 0 rfl rfl rfl) rfl (by decide) fun a hf => ?_)
          obtain ⟨y3, hy3, hGc2⟩ := bind_some hGc2
          refine wlg hf rfl rfl rfl (op_call hf TF.cl111 rfl (by decide) (impl_areBytes_ok (S := fun _ => True) (mk_list (rep_true (α := List Int) (H.get 0 rfl))) hy3) fun v3 w a hp3 hf => ?_)
          obtain ⟨hb3, hp3⟩ := hp3
          obtain rfl := VR_bool hp3
          have H := H.keep hb3
          refine pRun_ok (tb := tab) (n := 22) tabOk 2 _ _ hf rfl rfl fun a hf => ?_
          obtain rfl := Option.some.inj hGc2
          have hf := hf.prune [2] rfl
          have H := H.let [false] [] [] []
          exact wl_end ⟨hf, H⟩
        · rw [if_neg (nt hc3)] at hGc2
          have hf := hf.lit 17 rfl hc3
          refine pRun_ok (tb := tab) (n := 22) tabOk 5 _ _ hf rfl rfl fun a hf => ?_
          obtain rfl := Option.some.inj hGc2
          have hf := hf.prune [2] rfl
          have H := H.let [false] [] [] []
          exact wl_end ⟨hf, H⟩
      · rw [if_neg (nt hc2)] at hGc2
        have hf := hf.lit 11 rfl hc2
        refine pRun_ok (tb := tab) (n := 22) tabOk 11 _ _ hf rfl rfl fun a hf => ?_
        obtain rfl := Option.some.inj hGc2
        have hf := hf.prune [2] rfl
        have H := H.let [false] [] [] []
        exact wl_end ⟨hf, H⟩
    · rw [if_neg (nt hc)] at hGc2
      have hf := hf.lit 6 rfl hc
      refine pRun_ok (tb := tab) (n := 22) tabOk 16 _ _ hf rfl rfl fun a hf => ?_
      obtain rfl := Option.some.inj hGc2
      have hf := hf.prune [2] rfl
      have H := H.let [false] [] [] []
      exact wl_end ⟨hf, H⟩
  rintro a w ⟨hf, H⟩
  refine then_n ?_
  refine wp_ret (?_)
  obtain rfl := Option.some.inj hF
  refine ret_1 (fn := Try.f38) (r := .tmp 2) hf rfl (rv_tmp hf rfl) ?_
  exact ⟨_, rfl, H.bel, mk_bool⟩

/- loop.example/g00897/impl.bytesOf -/
set_option maxHeartbeats 1000000 in
theorem impl_bytesOf_ok {fu : Nat} {w0 : World} {S : Nat → Prop} {v0_ : Value} {f : Frame} {r : List Int} (h0 : VR w0 S v0_ f) (hF : impl_bytesOf fu f = some r) :
    Calls Try.prog 119 [v0_].toArray w0 fun e w' => ∃ v, e = .returned v ∧ (Below w0.heap.size w0 w' ∧ ∃ F0, VO w' F0 v r ∧ New w0 w' F0) := by
  obtain ⟨A, c, rfl, hl⟩ := Frame_open h0
  have H := Mem.start ⟨w0, []⟩ S
  have H := H.pushArg (MP.val [(.slice A f.Payload.length c)] f.Payload) hl
  refine enter Try.func119 rfl rfl (nle rfl) rfl fun a hf => ?_
  rw [impl_bytesOf] at hF
  refine sq ?_
  refine reg ?_
  refine wl0 rfl (op_box hf H rfl rfl (by decide) fun b' a w hf H => ?_)
  refine pRun_ok (tb := tab) (n := 29) tabOk 1 _ _ hf rfl rfl fun a hf => ?_
  refine wl_end ?_
  refine then_n ?_
  refine sq ?_
  refine reg ?_
  refine pRun_ok (tb := tab) (n := 29) tabOk 1 _ _ hf rfl rfl fun a hf => ?_
  refine wl0 rfl (op_q hf (rq_loadB hf H TF.ls3 0 rfl rfl rfl) rfl (by decide) fun a hf => ?_)
  refine pRun_ok (tb := tab) (n := 29) tabOk 1 _ _ hf rfl rfl fun a hf => ?_
  refine wl0 rfl (op_q hf (rq_loadB hf H TF.ls3 0 rfl rfl rfl) rfl (by decide) fun a hf => ?_)
  refine wl0 rfl (op_bslice hf H (.sh true) rfl 3 ([246, 40, f.Counter, f.Pointer] : List Int) [(.int .i64 246), (.int .i64 40), (.int .i64 f.Counter), (.int .i64 f.Pointer)] rfl (fun w => by kernel_rfl) rfl (by decide) rfl trivial (elI [246, 40, f.Counter, f.Pointer]) (by decide) fun A2 a w hf H => ?_)
  refine pRun_ok (tb := tab) (n := 29) tabOk 1 _ _ hf rfl rfl fun a hf => ?_
  refine wl0 rfl (op_q hf (rq_loadB hf H TF.ls35 0 rfl rfl rfl) rfl (by decide) fun a hf => ?_)
  obtain ⟨l, hl, hF⟩ := bind_some hF
  have H := H.rowWeak 0 rfl
  refine wl0 rfl (op_appI hf H Try.underlying35 TF.ai3 rfl (by decide) 0 0 rfl rfl rfl rfl (.inl rfl) hl (by decide) fun A3 c2 a w hf H => ?_)
  refine pRun_ok (tb := tab) (n := 29) tabOk 2 _ _ hf rfl rfl fun a hf => ?_
  refine wl_end ?_
  refine then_n ?_
  refine sq ?_
  refine sq ?_
  refine reg ?_
  refine pRun_ok (tb := tab) (n := 29) tabOk 3 _ _ hf rfl rfl fun a hf => ?_
  refine wl_end ?_
  refine then_n ?_
  obtain ⟨out', hB1, hF⟩ := bind_some hF
  have hf := hf.prune [3, 4, 15, 16, 17] rfl
  have H := H.let [false] [true] [] []
  have hI : (fun (s : Int × Int) (a : Act) (w : World) => match s with | (parity, i) => Fr a 29 [(3, (.slice A3 l.length c2)), (4, (.int .i64 parity)), (15, (.slice A3 l.length c2)), (16, (.int .i64 (l.length : Int))), (17, (.int .i64 i))] ∧ Mem ⟨w0, []⟩ S [] [⟨.sh false, 3, A3, c2, (l : List Int)⟩] [] [] w) (0, 0) a w := ⟨hf, H⟩
  refine mid (fun a w => ∃ s : Int × Int, out' = s ∧ (fun (s : Int × Int) (a : Act) (w : World) => match s with | (parity, i) => Fr a 29 [(3, (.slice A3 l.length c2)), (4, (.int .i64 parity)), (15, (.slice A3 l.length c2)), (16, (.int .i64 (l.length : Int))), (17, (.int .i64 i))] ∧ Mem ⟨w0, []⟩ S [] [⟨.sh false, 3, A3, c2, (l : List Int)⟩] [] [] w) s a w) ?_ ?_
  · refine wp_block ?_
    refine loop_rule (fun k (s : Int × Int) => impl_bytesOf_L1 fu l k s.1 s.2 = some out') (fun (s : Int × Int) (a : Act) (w : World) => match s with | (parity, i) => Fr a 29 [(3, (.slice A3 l.length c2)), (4, (.int .i64 parity)), (15, (.slice A3 l.length c2)), (16, (.int .i64 (l.length : Int))), (17, (.int .i64 i))] ∧ Mem ⟨w0, []⟩ S [] [⟨.sh false, 3, A3, c2, (l : List Int)⟩] [] [] w) (fun s h => by cases h) ?_ fu (0, 0) a w hB1 hI
    rintro fk ⟨parity, i⟩ a w hR1 hI
    replace hR1 : impl_bytesOf_L1 fu l (fk + 1) parity i = some out' := hR1
    rw [impl_bytesOf_L1] at hR1
    obtain ⟨hf, H⟩ := hI
    refine sq ?_
    refine reg ?_
    refine pRun_ok (tb := tab) (n := 29) tabOk 1 _ _ hf rfl rfl fun a hf => ?_
    refine wl_end ?_
    refine then_n ?_
    refine sq ?_
    refine (Bool.eq_false_or_eq_true (decide (i < (l.length : Int)))).elim (fun hc => ?_) (fun hc => ?_)
    · rw [if_pos hc] at hR1
      refine cd_t hf rfl hc ?_
      refine wp_skip ?_
      refine then_n ?_
      refine sq ?_
      refine wp_block ?_
      refine sq ?_
      refine reg ?_
      obtain ⟨e, he, hR1⟩ := bind_some hR1
      refine wl0 rfl (op_iaddrR hf H Try.underlying35 TF.sz3 0 rfl rfl rfl he (by decide) fun p o cs a hf hA hr hk => ?_)
      obtain rfl := hr
      refine wl0 rfl (op_q hf (rq_load1 hf TF.ls3 rfl (hk 0 _ rfl)) rfl (by decide) fun a hf => ?_)
      refine pRun_ok (tb := tab) (n := 29) tabOk 1 _ _ hf rfl rfl fun a hf => ?_
      refine wl_end ?_
      refine then_n ?_
      refine reg ?_
      refine pRun_ok (tb := tab) (n := 29) tabOk 4 _ _ hf rfl rfl fun a hf => ?_
      refine wl_end ?_
      refine blk_n ?_
      refine then_n ?_
      refine reg ?_
      refine pRun_ok (tb := tab) (n := 29) tabOk 2 _ _ hf rfl rfl fun a hf => ?_
      refine wl_end ?_
      have hf := hf.prune [3, 4, 15, 16, 17] rfl
      have H := H.let [] [true] [] []
      exact then_n ⟨(bxor parity e, w64 (i + 1)), hR1, hf, H⟩
    · rw [if_neg (nt hc)] at hR1
      refine cd_f hf rfl hc ?_
      refine wp_exit (then_x (then_x (blk_e (?_))))
      have hf := hf.prune [3, 4, 15, 16, 17] rfl
      have H := H.let [] [true] [] []
      exact ⟨(parity, i), (Option.some.inj hR1).symm, hf, H⟩
  rintro a w ⟨⟨parity2, i2⟩, rfl, hf, H⟩
  dsimp only at hF
  refine then_n ?_
  refine sq ?_
  refine reg ?_
  refine pRun_ok (tb := tab) (n := 29) tabOk 2 _ _ hf rfl rfl fun a hf => ?_
  refine wl0 rfl (op_bslice hf H (.sh true) rfl 3 ([parity2] : List Int) [(.int .i64 parity2)] rfl (fun w => by kernel_rfl) rfl (by decide) rfl trivial (el1 (y := parity2) rfl) (by decide) fun A4 a w hf H => ?_)
  obtain ⟨l2, hl2, hF⟩ := bind_some hF
  refine wl0 rfl (op_appR hf H Try.underlying35 TF.ai3 rfl (by decide) 1 0 rfl rfl rfl rfl (.inl rfl) hl2 (by decide) fun A5 c3 a w hf H => ?_)
  refine pRun_ok (tb := tab) (n := 29) tabOk 1 _ _ hf rfl rfl fun a hf => ?_
  refine wl_end ?_
  refine then_n ?_
  refine wp_ret (?_)
  have H := H.rowOwn 1 rfl rfl
  obtain ⟨F, H⟩ := H.freezeOwn 1 rfl
  have H := H.lend 0 rfl
  obtain rfl := Option.some.inj hF
  refine ret_1 (fn := Try.f119) (r := .tmp 2) hf rfl (rv_tmp hf rfl) ?_
  have hN := H.ends (X := [(⟨F, MP.own F [(.slice A5 l2.length c3)] (l2 : List Int)⟩ : DI)])
  simp only [List.flatMap_cons, List.flatMap_nil, List.append_nil, List.append_assoc] at hN
  exact ⟨_, rfl, H.bel, F, (mko_list (H.ownAt 0 rfl)), hN⟩

/- slices.Equal[[]int,int] -/
set_option maxHeartbeats 1000000 in
theorem slices_Equal_int_int_ok {fu : Nat} {w0 : World} {S : Nat → Prop} {v0_ : Value} {v1_ : Value} {s1 : List Int} {s2 : List Int} {r : Bool} (h0 : VR w0 S v0_ s1) (h1 : VR w0 S v1_ s2) (hF : slices_Equal_int_int fu s1 s2 = some r) :
    Calls Try.prog 129 [v0_, v1_].toArray w0 fun e w' => ∃ v, e = .returned v ∧ (Below w0.heap.size w0 w' ∧ VR w' (St ⟨w0, []⟩ S [] [] [] true) v r) := by
  obtain ⟨A, c, rfl, hl⟩ := VR_list h0
  obtain ⟨A2, c2, rfl, hl2⟩ := VR_list h1
  have H := Mem.start ⟨w0, []⟩ S
  have H := H.pushArg (MP.val [(.slice A s1.length c)] s1) hl
  have H := H.pushArg (MP.val [(.slice A2 s2.length c2)] s2) hl2
  refine enter Try.func129 rfl rfl (nle rfl) rfl fun a hf => ?_
  rw [slices_Equal_int_int] at hF
  refine sq ?_
  refine reg ?_
  refine pRun_ok (tb := tab) (n := 26) tabOk 1 _ _ hf rfl rfl fun a hf => ?_
  refine wl_end ?_
  refine then_n ?_
  refine sq ?_
  refine sq ?_
  refine reg ?_
  refine pRun_ok (tb := tab) (n := 26) tabOk 5 _ _ hf rfl rfl fun a hf => ?_
  refine wl_end ?_
  refine then_n ?_
  refine (Bool.eq_false_or_eq_true ((s1.length : Int) != (s2.length : Int))).elim (fun hc => ?_) (fun hc => ?_)
  · rw [if_pos hc] at hF
    refine cd_t hf rfl hc ?_
    refine sq ?_
    refine reg ?_
    refine pRun_ok (tb := tab) (n := 26) tabOk 1 _ _ hf rfl rfl fun a hf => ?_
    refine wl_end ?_
    refine then_n ?_
    refine wp_ret (then_r (?_))
    obtain rfl := Option.some.inj hF
    refine ret_1 (fn := Try.f129) (r := .tmp 4) hf rfl (rv_tmp hf rfl) ?_
    exact ⟨_, rfl, H.bel, mk_bool⟩
  · rw [if_neg (nt hc)] at hF
    refine cd_f hf rfl hc ?_
    refine wp_skip ?_
    refine then_n ?_
    refine sq ?_
    refine sq ?_
    refine reg ?_
    refine pRun_ok (tb := tab) (n := 26) tabOk 3 _ _ hf rfl rfl fun a hf => ?_
    refine wl_end ?_
    refine then_n ?_
    obtain ⟨out', hB1, hF⟩ := bind_some hF
    have hf := hf.prune [0, 1, 12, 13] rfl
    have H := H.let [] [] [] [0, 1]
    have hI : (fun (s : Int) (a : Act) (w : World) => match s with | i => Fr a 26 [(0, (.slice A s1.length c)), (1, (.slice A2 s2.length c2)), (12, (.int .i64 (s1.length : Int))), (13, (.int .i64 i))] ∧ Mem ⟨w0, []⟩ S [] [] [] [(false, MP.val [(.slice A2 s2.length c2)] (s2 : List Int)), (false, MP.val [(.slice A s1.length c)] (s1 : List Int))] w) 0 a w0 := ⟨hf, H⟩
    refine mid (fun a w => ∃ s : Int, out' = Out.next s ∧ (fun (s : Int) (a : Act) (w : World) => match s with | i => Fr a 26 [(0, (.slice A s1.length c)), (1, (.slice A2 s2.length c2)), (12, (.int .i64 (s1.length : Int))), (13, (.int .i64 i))] ∧ Mem ⟨w0, []⟩ S [] [] [] [(false, MP.val [(.slice A2 s2.length c2)] (s2 : List Int)), (false, MP.val [(.slice A s1.length c)] (s1 : List Int))] w) s a w) ?_ ?_
    · refine wp_block ?_
      refine loop_rule (fun k (s : Int) => slices_Equal_int_int_L1 fu s1 s2 k s = some out') (fun (s : Int) (a : Act) (w : World) => match s with | i => Fr a 26 [(0, (.slice A s1.length c)), (1, (.slice A2 s2.length c2)), (12, (.int .i64 (s1.length : Int))), (13, (.int .i64 i))] ∧ Mem ⟨w0, []⟩ S [] [] [] [(false, MP.val [(.slice A2 s2.length c2)] (s2 : List Int)), (false, MP.val [(.slice A s1.length c)] (s1 : List Int))] w) (fun s h => by cases h) ?_ fu 0 a w0 hB1 hI
      rintro fk i a w hR1 hI
      replace hR1 : slices_Equal_int_int_L1 fu s1 s2 (fk + 1) i = some out' := hR1
      rw [slices_Equal_int_int_L1] at hR1
      obtain ⟨hf, H⟩ := hI
      refine sq ?_
      refine reg ?_
      refine pRun_ok (tb := tab) (n := 26) tabOk 1 _ _ hf rfl rfl fun a hf => ?_
      refine wl_end ?_
      refine then_n ?_
      refine sq ?_
      refine (Bool.eq_false_or_eq_true (decide (i < (s1.length : Int)))).elim (fun hc2 => ?_) (fun hc2 => ?_)
      · rw [if_pos hc2] at hR1
        refine cd_t hf rfl hc2 ?_
        refine wp_skip ?_
        refine then_n ?_
        refine sq ?_
        refine wp_block ?_
        refine sq ?_
        refine reg ?_
        refine pRun_ok (tb := tab) (n := 26) tabOk 2 _ _ hf rfl rfl fun a hf => ?_
        refine wl_end ?_
        refine then_n ?_
        refine sq ?_
        refine drawn [] (bs := [false, false, false, false, false, false, false, false, false]) (fuel := 9) (Checked.mixed Try.checked) rfl rfl fun w hb => ?_
        have H := H.keep hb
        refine tkP (i := 0) (bs' := [true, false, false, false, false, false, false, false, false]) rfl rfl rfl (by decide) hf (by kernel_rfl) (fun _ => trivial) (fun w => pOp_ok (tb := tab) tabOk hf rfl) rfl fun a hf => ?_
        refine tkP (i := 1) (bs' := [true, true, false, false, false, false, false, false, false]) rfl rfl rfl (by decide) hf (by kernel_rfl) (fun _ => trivial) (fun w => pOp_ok (tb := tab) tabOk hf rfl) rfl fun a hf => ?_
        obtain ⟨e, he, hR1⟩ := bind_some hR1
        obtain ⟨p, o, cs, hx, hr, H⟩ := pre_iaddr H Try.underlying35 TF.sz3 1 rfl he
        refine tkP (i := 2) (bs' := [true, true, true, false, false, false, false, false, false]) rfl rfl rfl (by decide) hf (by kernel_rfl) (fun _ => trivial) (fun w => rq_iaddrE hf rfl rfl rfl hx w) rfl fun a hf => ?_
        obtain rfl := hr
        refine str (fun w => Mem ⟨w0, []⟩ S [] [] [] [(false, MP.cells ⟨p, o, none⟩ [(.int .i64 e)]), (false, MP.val [(.slice A2 s2.length c2)] (s2 : List Int)), (false, MP.val [(.slice A s1.length c)] (s1 : List Int))] w) (fun w H => trivial) ?_
        have hS : Mem ⟨w0, []⟩ S [] [] [] [(false, MP.cells ⟨p, o, none⟩ [(.int .i64 e)]), (false, MP.val [(.slice A2 s2.length c2)] (s2 : List Int)), (false, MP.val [(.slice A s1.length c)] (s1 : List Int))] w := H.let [] [] [] [0, 1, 2]
        refine tkS (i := 3) (bs' := [true, true, true, true, false, false, false, false, false]) [] rfl rfl rfl (by decide) hf (by kernel_rfl) (by kernel_rfl) hS (fun w H => rq_loadI hf H TF.ls3 0 0 rfl rfl rfl) rfl fun a hf => ?_
        refine tkP (i := 4) (bs' := [true, true, true, true, true, false, false, false, false]) rfl rfl rfl (by decide) hf (by kernel_rfl) (fun _ => hS) (fun w => pOp_ok (tb := tab) tabOk hf rfl) rfl fun a hf => ?_
        refine tkP (i := 5) (bs' := [true, true, true, true, true, true, false, false, false]) rfl rfl rfl (by decide) hf (by kernel_rfl) (fun _ => hS) (fun w => pOp_ok (tb := tab) tabOk hf rfl) rfl fun a hf => ?_
        obtain ⟨e2, he2, hR1⟩ := bind_some hR1
        obtain ⟨p2, o2, cs2, hx2, hr2, H⟩ := pre_iaddr H Try.underlying35 TF.sz3 1 rfl he2
        refine tkP (i := 6) (bs' := [true, true, true, true, true, true, true, false, false]) rfl rfl rfl (by decide) hf (by kernel_rfl) (fun _ => hS) (fun w => rq_iaddrE hf rfl rfl rfl hx2 w) rfl fun a hf => ?_
        obtain rfl := hr2
        refine str (fun w => Mem ⟨w0, []⟩ S [] [] [] [(false, MP.cells ⟨p2, o2, none⟩ [(.int .i64 e2)]), (false, MP.cells ⟨p, o, none⟩ [(.int .i64 e)]), (false, MP.val [(.slice A2 s2.length c2)] (s2 : List Int)), (false, MP.val [(.slice A s1.length c)] (s1 : List Int))] w) (fun w H => H.let [] [] [] [1, 2, 3]) ?_
        have hS : Mem ⟨w0, []⟩ S [] [] [] [(false, MP.cells ⟨p2, o2, none⟩ [(.int .i64 e2)]), (false, MP.cells ⟨p, o, none⟩ [(.int .i64 e)]), (false, MP.val [(.slice A2 s2.length c2)] (s2 : List Int)), (false, MP.val [(.slice A s1.length c)] (s1 : List Int))] w := H.let [] [] [] [0, 1, 2, 3]
        refine tkS (i := 7) (bs' := [true, true, true, true, true, true, true, true, false]) [] rfl rfl rfl (by decide) hf (by kernel_rfl) (by kernel_rfl) hS (fun w H => rq_loadI hf H TF.ls3 0 0 rfl rfl rfl) rfl fun a hf => ?_
        refine tkP (i := 8) (bs' := [true, true, true, true, true, true, true, true, true]) rfl rfl rfl (by decide) hf (by kernel_rfl) (fun _ => hS) (fun w => pOp_ok (tb := tab) tabOk hf rfl) rfl fun a hf => ?_
        refine dn (by kernel_rfl) ?_
        refine then_n ?_
        refine (Bool.eq_false_or_eq_true (e != e2)).elim (fun hc3 => ?_) (fun hc3 => ?_)
        · rw [if_pos hc3] at hR1
          refine cd_t hf rfl hc3 ?_
          refine sq ?_
          refine reg ?_
          refine pRun_ok (tb := tab) (n := 26) tabOk 1 _ _ hf rfl rfl fun a hf => ?_
          have hf := hf.prune [4] rfl
          refine wl_end ?_
          refine then_n ?_
          refine wp_ret (blk_r (then_r (then_r (blk_r (then_r (then_r (?_)))))))
          obtain rfl := Option.some.inj hR1
          replace hF := on_ret hF
          obtain rfl := Option.some.inj hF
          refine ret_1 (fn := Try.f129) (r := .tmp 4) hf rfl (rv_tmp hf rfl) ?_
          exact ⟨_, rfl, H.bel, mk_bool⟩
        · rw [if_neg (nt hc3)] at hR1
          refine cd_f hf rfl hc3 ?_
          refine wp_skip ?_
          refine blk_n ?_
          refine then_n ?_
          refine reg ?_
          refine pRun_ok (tb := tab) (n := 26) tabOk 2 _ _ hf rfl rfl fun a hf => ?_
          have hf := hf.prune [0, 1, 12, 13] rfl
          refine wl_end ?_
          have hf := hf.prune [0, 1, 12, 13] rfl
          have H := H.let [] [] [] [2, 3]
          exact then_n ⟨w64 (i + 1), hR1, hf, H⟩
      · rw [if_neg (nt hc2)] at hR1
        refine cd_f hf rfl hc2 ?_
        refine wp_exit (then_x (then_x (blk_e (?_))))
        have hf := hf.prune [0, 1, 12, 13] rfl
        have H := H.let [] [] [] [0, 1]
        exact ⟨i, (Option.some.inj hR1).symm, hf, H⟩
    rintro a w ⟨i2, rfl, hf, H⟩
    replace hF := on_next hF
    refine then_n ?_
    refine sq ?_
    refine reg ?_
    refine pRun_ok (tb := tab) (n := 26) tabOk 1 _ _ hf rfl rfl fun a hf => ?_
    refine wl_end ?_
    refine then_n ?_
    refine wp_ret (?_)
    obtain rfl := Option.some.inj hF
    refine ret_1 (fn := Try.f129) (r := .tmp 4) hf rfl (rv_tmp hf rfl) ?_
    exact ⟨_, rfl, H.bel, mk_bool⟩

/- loop.example/g00897/impl.ParseFrame -/
set_option maxHeartbeats 1000000 in
theorem impl_ParseFrame_ok {fu : Nat} {w0 : World} {S : Nat → Prop} {v0_ : Value} {list : List Int} {r : Frame × Bool} (h0 : VR w0 S v0_ list) (hF : impl_ParseFrame fu list = some r) :
    Calls Try.prog 66 [v0_].toArray w0 fun e w' => ∃ v, e = .returned v ∧ (Below w0.heap.size w0 w' ∧ ∃ F0, ∃ u0 u1, v = .tuple #[u0, u1] ∧ VO w' F0 u0 r.1 ∧ VR w' (St ⟨w0, []⟩ S [] [] [] true) u1 r.2 ∧ New w0 w' F0) := by
  obtain ⟨A, c, rfl, hl⟩ := VR_list h0
  have H := Mem.start ⟨w0, []⟩ S
  have H := H.pushArg (MP.val [(.slice A list.length c)] list) hl
  refine enter Try.func66 rfl rfl (nle rfl) rfl fun a hf => ?_
  rw [impl_ParseFrame] at hF
  refine sq ?_
  refine reg ?_
  refine wl0 rfl (op_alloc hf H TF.zv40 rfl (by decide) fun b' a w hf H => ?_)
  refine pRun_ok (tb := tab) (n := 31) tabOk 1 _ _ hf rfl rfl fun a hf => ?_
  refine wl_end ?_
  refine then_n ?_
  refine sq ?_
  refine sq ?_
  refine reg ?_
  refine pRun_ok (tb := tab) (n := 31) tabOk 3 _ _ hf rfl rfl fun a hf => ?_
  refine wl_end ?_
  refine then_n ?_
  refine (Bool.eq_false_or_eq_true ((list.length : Int) != 17)).elim (fun hc => ?_) (fun hc => ?_)
  · rw [if_pos hc] at hF
    refine cd_t hf rfl hc ?_
    refine sq ?_
    refine reg ?_
    refine wl0 rfl (op_q hf (rq_build hf (cs := [(.int .i64 0), (.int .i64 0), (.slice none 0 0)]) rfl (fun w => by kernel_rfl)) rfl (by decide) fun a hf => ?_)
    refine wl0 rfl (op_storeB hf H 0 TF.sz40 rfl rfl rfl rfl rfl rfl (nle rfl) fun w H => ?_)
    refine pRun_ok (tb := tab) (n := 31) tabOk 1 _ _ hf rfl rfl fun a hf => ?_
    refine wl_end ?_
    refine then_n ?_
    refine wp_ret (then_r (?_))
    have H := H.ownNil (Int)
    have H := H.lend 0 rfl
    obtain rfl := Option.some.inj hF
    refine ret_2 (fn := Try.f66) (r := .cell 2 40) (s := .tmp 3) hf rfl (rv_cellN hf H 0 TF.la40 rfl rfl rfl) (rv_tmp hf rfl) ?_
    have hN := H.ends (X := [(⟨[], MP.own [] [(.slice none 0 0)] ([] : List Int)⟩ : DI)])
    simp only [List.flatMap_cons, List.flatMap_nil, List.append_nil, List.append_assoc] at hN
    exact ⟨_, rfl, H.bel, [], _, _, rfl, ⟨_, Frame_ownmk (x := ({ Counter := 0, Pointer := 0, Payload := [] } : Frame)) (H.ownAt 0 rfl), rfl⟩, mk_bool, hN⟩
  · rw [if_neg (nt hc)] at hF
    refine cd_f hf rfl hc ?_
    refine wp_skip ?_
    refine then_n ?_
    refine sq ?_
    refine drawn [11] (bs := [false, false, false, false, false, false, false, false, false, false, false, false]) (fuel := 12) (Checked.mixed Try.checked) rfl rfl fun w hb => ?_
    have H := H.keep hb
    refine tkP (i := 0) (bs' := [true, false, false, false, false, false, false, false, false, false, false, false]) rfl rfl rfl (by decide) hf (by kernel_rfl) (fun _ => trivial) (fun w => pOp_ok (tb := tab) tabOk hf rfl) rfl fun a hf => ?_
    obtain ⟨e, he, hF⟩ := bind_some hF
    obtain ⟨p, o, cs, hx, hr, H⟩ := pre_iaddr H Try.underlying35 TF.sz3 0 rfl he
    refine tkP (i := 1) (bs' := [true, true, false, false, false, false, false, false, false, false, false, false]) rfl rfl rfl (by decide) hf (by kernel_rfl) (fun _ => trivial) (fun w => rq_iaddrE hf rfl rfl rfl hx w) rfl fun a hf => ?_
    obtain rfl := hr
    refine str (fun w => Mem ⟨w0, []⟩ S [⟨b', 40, [(.int .i64 0), (.int .i64 0), (.slice none 0 0)]⟩] [] [] [(false, MP.cells ⟨p, o, none⟩ [(.int .i64 e)]), (false, MP.val [(.slice A list.length c)] (list : List Int))] w) (fun w H => trivial) ?_
    have hS : Mem ⟨w0, []⟩ S [⟨b', 40, [(.int .i64 0), (.int .i64 0), (.slice none 0 0)]⟩] [] [] [(false, MP.cells ⟨p, o, none⟩ [(.int .i64 e)]), (false, MP.val [(.slice A list.length c)] (list : List Int))] w := H.let [true] [] [] [0, 1]
    refine tkS (i := 2) (bs' := [true, true, true, false, false, false, false, false, false, false, false, false]) [2, 9, 11] rfl rfl rfl (by decide) hf (by kernel_rfl) (by kernel_rfl) hS (fun w H => rq_loadI hf H TF.ls3 0 0 rfl rfl rfl) rfl fun a hf => ?_
    refine tkP (i := 3) (bs' := [true, true, true, true, false, false, false, false, false, false, false, false]) rfl rfl rfl (by decide) hf (by kernel_rfl) (fun _ => hS) (fun w => pOp_ok (tb := tab) tabOk hf rfl) rfl fun a hf => ?_
    obtain ⟨e2, he2, hF⟩ := bind_some hF
    obtain ⟨p2, o2, cs2, hx2, hr2, H⟩ := pre_iaddr H Try.underlying35 TF.sz3 1 rfl he2
    refine tkP (i := 4) (bs' := [true, true, true, true, true, false, false, false, false, false, false, false]) rfl rfl rfl (by decide) hf (by kernel_rfl) (fun _ => hS) (fun w => rq_iaddrE hf rfl rfl rfl hx2 w) rfl fun a hf => ?_
    obtain rfl := hr2
    refine str (fun w => Mem ⟨w0, []⟩ S [⟨b', 40, [(.int .i64 0), (.int .i64 0), (.slice none 0 0)]⟩] [] [] [(false, MP.cells ⟨p2, o2, none⟩ [(.int .i64 e2)]), (false, MP.cells ⟨p, o, none⟩ [(.int .i64 e)]), (false, MP.val [(.slice A list.length c)] (list : List Int))] w) (fun w H => H.let [true] [] [] [1, 2]) ?_
    have hS : Mem ⟨w0, []⟩ S [⟨b', 40, [(.int .i64 0), (.int .i64 0), (.slice none 0 0)]⟩] [] [] [(false, MP.cells ⟨p2, o2, none⟩ [(.int .i64 e2)]), (false, MP.cells ⟨p, o, none⟩ [(.int .i64 e)]), (false, MP.val [(.slice A list.length c)] (list : List Int))] w := H.let [true] [] [] [0, 1, 2]
    refine tkS (i := 5) (bs' := [true, true, true, true, true, true, false, false, false, false, false, false]) [5, 9, 11] rfl rfl rfl (by decide) hf (by kernel_rfl) (by kernel_rfl) hS (fun w H => rq_loadI hf H TF.ls3 0 0 rfl rfl rfl) rfl fun a hf => ?_
    refine tkP (i := 6) (bs' := [true, true, true, true, true, true, true, false, false, false, false, false]) rfl rfl rfl (by decide) hf (by kernel_rfl) (fun _ => hS) (fun w => pOp_ok (tb := tab) tabOk hf rfl) rfl fun a hf => ?_
    obtain ⟨l, hl, hF⟩ := bind_some hF
    obtain ⟨A2, c2, hx3, H⟩ := pre_slice H Try.underlying35 TF.sz3 2 (lov := some (.int .i64 4)) (hiv := some (.int .i64 16)) (.inr rfl) (.inr rfl) rfl hl
    refine tkP (i := 7) (bs' := [true, true, true, true, true, true, true, true, false, false, false, false]) rfl rfl rfl (by decide) hf (by kernel_rfl) (fun _ => hS) (fun w => rq_sliceE hf rfl rfl rfl hx3 w) rfl fun a hf => ?_
    refine on2 (i := 8) (j := 10) (bi := [true, true, true, true, true, true, true, true, true, false, false, false]) (bj := [true, true, true, true, true, true, true, true, false, false, true, false]) (by kernel_rfl) rfl rfl rfl rfl rfl rfl ?_ ?_
    · skip
      obtain ⟨y, hy, hF⟩ := bind_some hF
      refine (op_call hf TF.cl128 rfl (by decide) (slices_Clone_int_int_ok (S := fun _ => True) (mk_list (rep_true (α := List Int) (H.get 0 rfl))) hy) fun v w a hp hf => ?_)
      obtain ⟨hb, F, hp2, hN⟩ := hp
      obtain ⟨A3, c3, rfl, hl2⟩ := VO_list hp2
      have H := H.addOwn hb (X := [(⟨F, MP.own F [(.slice A3 y.length c3)] (y : List Int)⟩ : DI)]) (by simpa using hN.1) (ps1 hl2 ps0) (by simpa using hN.2)
      have H := H.lend 0 rfl
      have hS : Mem ⟨w0, []⟩ S [⟨b', 40, [(.int .i64 0), (.int .i64 0), (.slice none 0 0)]⟩] [] [] [(false, MP.cells ⟨p2, o2, none⟩ [(.int .i64 e2)]), (false, MP.cells ⟨p, o, none⟩ [(.int .i64 e)]), (false, MP.val [(.slice A list.length c)] (list : List Int))] w := H.let [true] [] [false] [2, 3, 4]
      refine ⟨fun _ => hS, ?_⟩
      refine tkP (i := 9) (bs' := [true, true, true, true, true, true, true, true, true, true, false, false]) rfl rfl rfl (by decide) hf (by kernel_rfl) (fun _ => hS) (fun w => rq_build hf (cs := [(.int .i64 e), (.int .i64 e2), (.slice A3 y.length c3)]) rfl (fun w => by kernel_rfl)) rfl fun a hf => ?_
      refine on1 (i := 10) (bs' := [true, true, true, true, true, true, true, true, true, true, true, false]) (by kernel_rfl) rfl rfl rfl (op_alloc hf H TF.zv40 rfl (by decide) fun b2 a w hf H => ?_)
      have hS : Mem ⟨w0, []⟩ S [⟨b', 40, [(.int .i64 0), (.int .i64 0), (.slice none 0 0)]⟩] [] [] [(false, MP.cells ⟨p2, o2, none⟩ [(.int .i64 e2)]), (false, MP.cells ⟨p, o, none⟩ [(.int .i64 e)]), (false, MP.val [(.slice A list.length c)] (list : List Int))] w := H.let [false, true] [] [false] [2, 3, 4]
      refine ⟨fun _ => hS, ?_⟩
      refine on1 (i := 11) (bs' := [true, true, true, true, true, true, true, true, true, true, true, true]) (by kernel_rfl) rfl rfl rfl (op_storeB hf H 0 TF.sz40 rfl rfl rfl rfl rfl rfl (nle rfl) fun w H => ?_)
      refine ⟨fun h => absurd h (by decide), ?_⟩
      refine dn (by kernel_rfl) ?_
      have hf := hf.prune [0, 2, 4] rfl
      refine then_n ?_
      refine sq ?_
      refine sq ?_
      obtain ⟨c4, hGc4, hF⟩ := bind_some hF
      refine mid (fun a w => Fr a 31 [(2, (.pointer (some ⟨b', 0, none⟩))), (4, (.pointer (some ⟨b2, 0, none⟩))), (28, (.bool c4))] ∧ Mem ⟨w0, []⟩ S [⟨b2, 40, [(.int .i64 e), (.int .i64 e2), (.slice A3 y.length c3)]⟩, ⟨b', 40, [(.int .i64 0), (.int .i64 0), (.slice none 0 0)]⟩] [] [⟨F, MP.own F [(.slice A3 y.length c3)] (y : List Int)⟩] [(true, MP.val [(.slice A3 y.length c3)] (y : List Int))] w) ?_ ?_
      · refine reg ?_
        refine wl0 rfl (op_q hf (rq_loadBN hf H TF.la40 0 rfl rfl rfl rfl) rfl (by decide) fun a hf => ?_)
        obtain ⟨y2, hy2, hGc4⟩ := bind_some hGc4
        refine wl0 rfl (op_call hf TF.cl38 rfl (by decide) (impl_IsValidFrame_ok (S := fun _ => True) (Frame_mkv (x := ({ Counter := e, Pointer := e2, Payload := y } : Frame)) (rep_true (α := List Int) (H.get 0 rfl))) hy2) fun v2 w a hp3 hf => ?_)
        obtain ⟨hb2, hp3⟩ := hp3
        obtain rfl := VR_bool hp3
        have H := H.keep hb2
        refine pRun_ok (tb := tab) (n := 31) tabOk 2 _ _ hf rfl rfl fun a hf => ?_
        refine (Bool.eq_false_or_eq_true (!y2)).elim (fun hc2 => ?_) (fun hc2 => ?_)
        · rw [if_pos hc2] at hGc4
          have hf := hf.lit 22 rfl hc2
          refine pRun_ok (tb := tab) (n := 31) tabOk 6 _ _ hf rfl rfl fun a hf => ?_
          obtain rfl := Option.some.inj hGc4
          have hf := hf.prune [2, 4, 28] rfl
          have H := H.let [true, true] [] [true] [0]
          exact wl_end ⟨hf, H⟩
        · rw [if_neg (nt hc2)] at hGc4
          have hf := hf.lit 22 rfl hc2
          refine wlg hf rfl rfl rfl (op_q hf (rq_loadBN hf H TF.la40 0 rfl rfl rfl rfl) rfl (by decide) fun a hf => ?_)
          obtain ⟨y3, hy3, hGc4⟩ := bind_some hGc4
          refine wlg hf rfl rfl rfl (op_call hf TF.cl119 rfl (by decide) (impl_bytesOf_ok (S := fun _ => True) (Frame_mkv (x := ({ Counter := e, Pointer := e2, Payload := y } : Frame)) (rep_true (α := List Int) (H.get 0 rfl))) hy3) fun v3 w a hp4 hf => ?_)
          obtain ⟨hb3, F3, hp5, hN2⟩ := hp4
          obtain ⟨A4, c5, rfl, hl3⟩ := VO_list hp5
          have H := H.addOwn hb3 (X := [(⟨F3, MP.own F3 [(.slice A4 y3.length c5)] (y3 : List Int)⟩ : DI)]) (by simpa using hN2.1) (ps1 hl3 ps0) (by simpa using hN2.2)
          have H := H.lend 0 rfl
          refine pRun_ok (tb := tab) (n := 31) tabOk 1 _ _ hf rfl rfl fun a hf => ?_
          obtain ⟨y4, hy4, hGc4⟩ := bind_some hGc4
          refine wlg hf rfl rfl rfl (op_call hf TF.cl129 rfl (by decide) (slices_Equal_int_int_ok (S := fun _ => True) (mk_list (rep_true (α := List Int) (H.get 0 rfl))) (mk_list (rep_true (α := List Int) (H.get 5 rfl))) hy4) fun v4 w a hp6 hf => ?_)
          obtain ⟨hb4, hp6⟩ := hp6
          obtain rfl := VR_bool hp6
          have H := H.keep hb4
          refine pRun_ok (tb := tab) (n := 31) tabOk 2 _ _ hf rfl rfl fun a hf => ?_
          obtain rfl := Option.some.inj hGc4
          have hf := hf.prune [2, 4, 28] rfl
          have H := H.let [true, true] [] [false, true] [1]
          exact wl_end ⟨hf, H⟩
      rintro a w ⟨hf, H⟩
      refine then_n ?_
      refine (Bool.eq_false_or_eq_true (c4)).elim (fun hc3 => ?_) (fun hc3 => ?_)
      · rw [if_pos hc3] at hF
        refine cd_t hf rfl hc3 ?_
        refine sq ?_
        refine reg ?_
        refine wl0 rfl (op_q hf (rq_build hf (cs := [(.int .i64 0), (.int .i64 0), (.slice none 0 0)]) rfl (fun w => by kernel_rfl)) rfl (by decide) fun a hf => ?_)
        refine wl0 rfl (op_storeB hf H 1 TF.sz40 rfl rfl rfl rfl rfl rfl (nle rfl) fun w H => ?_)
        refine pRun_ok (tb := tab) (n := 31) tabOk 1 _ _ hf rfl rfl fun a hf => ?_
        refine wl_end ?_
        refine then_n ?_
        refine wp_ret (then_r (?_))
        have H := H.ownNil (Int)
        have H := H.lend 0 rfl
        obtain rfl := Option.some.inj hF
        refine ret_2 (fn := Try.f66) (r := .cell 2 40) (s := .tmp 3) hf rfl (rv_cellN hf H 1 TF.la40 rfl rfl rfl) (rv_tmp hf rfl) ?_
        have hN := H.ends (X := [(⟨[], MP.own [] [(.slice none 0 0)] ([] : List Int)⟩ : DI)])
        simp only [List.flatMap_cons, List.flatMap_nil, List.append_nil, List.append_assoc] at hN
        exact ⟨_, rfl, H.bel, [], _, _, rfl, ⟨_, Frame_ownmk (x := ({ Counter := 0, Pointer := 0, Payload := [] } : Frame)) (H.ownAt 0 rfl), rfl⟩, mk_bool, hN⟩
      · rw [if_neg (nt hc3)] at hF
        refine cd_f hf rfl hc3 ?_
        refine wp_skip ?_
        refine then_n ?_
        refine sq ?_
        refine reg ?_
        refine wl0 rfl (op_q hf (rq_loadBN hf H TF.la40 0 rfl rfl rfl rfl) rfl (by decide) fun a hf => ?_)
        refine wl0 rfl (op_storeB hf H 1 TF.sz40 rfl rfl rfl rfl rfl rfl (nle rfl) fun w H => ?_)
        refine pRun_ok (tb := tab) (n := 31) tabOk 1 _ _ hf rfl rfl fun a hf => ?_
        refine wl_end ?_
        refine then_n ?_
        refine wp_ret (?_)
        obtain rfl := Option.some.inj hF
        refine ret_2 (fn := Try.f66) (r := .cell 2 40) (s := .tmp 3) hf rfl (rv_cellN hf H 1 TF.la40 rfl rfl rfl) (rv_tmp hf rfl) ?_
        have hN := H.ends (X := [(⟨F, MP.own F [(.slice A3 y.length c3)] (y : List Int)⟩ : DI)])
        simp only [List.flatMap_cons, List.flatMap_nil, List.append_nil, List.append_assoc] at hN
        exact ⟨_, rfl, H.bel, F, _, _, rfl, ⟨_, Frame_ownmk (x := ({ Counter := e, Pointer := e2, Payload := y } : Frame)) (H.ownAt 0 rfl), rfl⟩, mk_bool, hN⟩
    · skip
      refine (op_alloc hf H TF.zv40 rfl (by decide) fun b2 a w hf H => ?_)
      have hS : Mem ⟨w0, []⟩ S [⟨b', 40, [(.int .i64 0), (.int .i64 0), (.slice none 0 0)]⟩] [] [] [(false, MP.cells ⟨p2, o2, none⟩ [(.int .i64 e2)]), (false, MP.cells ⟨p, o, none⟩ [(.int .i64 e)]), (false, MP.val [(.slice A list.length c)] (list : List Int))] w := H.let [false, true] [] [] [1, 2, 3]
      refine ⟨fun _ => hS, ?_⟩
      obtain ⟨y, hy, hF⟩ := bind_some hF
      refine on1 (i := 8) (bs' := [true, true, true, true, true, true, true, true, true, false, true, false]) (by kernel_rfl) rfl rfl rfl (op_call hf TF.cl128 rfl (by decide) (slices_Clone_int_int_ok (S := fun _ => True) (mk_list (rep_true (α := List Int) (H.get 0 rfl))) hy) fun v w a hp hf => ?_)
      obtain ⟨hb, F, hp2, hN⟩ := hp
      obtain ⟨A3, c3, rfl, hl2⟩ := VO_list hp2
      have H := H.addOwn hb (X := [(⟨F, MP.own F [(.slice A3 y.length c3)] (y : List Int)⟩ : DI)]) (by simpa using hN.1) (ps1 hl2 ps0) (by simpa using hN.2)
      have H := H.lend 0 rfl
      have hS : Mem ⟨w0, []⟩ S [⟨b', 40, [(.int .i64 0), (.int .i64 0), (.slice none 0 0)]⟩] [] [] [(false, MP.cells ⟨p2, o2, none⟩ [(.int .i64 e2)]), (false, MP.cells ⟨p, o, none⟩ [(.int .i64 e)]), (false, MP.val [(.slice A list.length c)] (list : List Int))] w := H.let [false, true] [] [false] [2, 3, 4]
      refine ⟨fun _ => hS, ?_⟩
      refine tkP (i := 9) (bs' := [true, true, true, true, true, true, true, true, true, true, true, false]) rfl rfl rfl (by decide) hf (by kernel_rfl) (fun _ => hS) (fun w => rq_build hf (cs := [(.int .i64 e), (.int .i64 e2), (.slice A3 y.length c3)]) rfl (fun w => by kernel_rfl)) rfl fun a hf => ?_
      refine on1 (i := 11) (bs' := [true, true, true, true, true, true, true, true, true, true, true, true]) (by kernel_rfl) rfl rfl rfl (op_storeB hf H 0 TF.sz40 rfl rfl rfl rfl rfl rfl (nle rfl) fun w H => ?_)
      refine ⟨fun h => absurd h (by decide), ?_⟩
      refine dn (by kernel_rfl) ?_
      have hf := hf.prune [0, 2, 4] rfl
      refine then_n ?_
      refine sq ?_
      refine sq ?_
      obtain ⟨c4, hGc4, hF⟩ := bind_some hF
      refine mid (fun a w => Fr a 31 [(2, (.pointer (some ⟨b', 0, none⟩))), (4, (.pointer (some ⟨b2, 0, none⟩))), (28, (.bool c4))] ∧ Mem ⟨w0, []⟩ S [⟨b2, 40, [(.int .i64 e), (.int .i64 e2), (.slice A3 y.length c3)]⟩, ⟨b', 40, [(.int .i64 0), (.int .i64 0), (.slice none 0 0)]⟩] [] [⟨F, MP.own F [(.slice A3 y.length c3)] (y : List Int)⟩] [(true, MP.val [(.slice A3 y.length c3)] (y : List Int))] w) ?_ ?_
      · refine reg ?_
        refine wl0 rfl (op_q hf (rq_loadBN hf H TF.la40 0 rfl rfl rfl rfl) rfl (by decide) fun a hf => ?_)
        obtain ⟨y2, hy2, hGc4⟩ := bind_some hGc4
        refine wl0 rfl (op_call hf TF.cl38 rfl (by decide) (impl_IsValidFrame_ok (S := fun _ => True) (Frame_mkv (x := ({ Counter := e, Pointer := e2, Payload := y } : Frame)) (rep_true (α := List Int) (H.get 0 rfl))) hy2) fun v2 w a hp3 hf => ?_)
        obtain ⟨hb2, hp3⟩ := hp3
        obtain rfl := VR_bool hp3
        have H := H.keep hb2
        refine pRun_ok (tb := tab) (n := 31) tabOk 2 _ _ hf rfl rfl fun a hf => ?_
        refine (Bool.eq_false_or_eq_true (!y2)).elim (fun hc2 => ?_) (fun hc2 => ?_)
        · rw [if_pos hc2] at hGc4
          have hf := hf.lit 22 rfl hc2
          refine pRun_ok (tb := tab) (n := 31) tabOk 6 _ _ hf rfl rfl fun a hf => ?_
          obtain rfl := Option.some.inj hGc4
          have hf := hf.prune [2, 4, 28] rfl
          have H := H.let [true, true] [] [true] [0]
          exact wl_end ⟨hf, H⟩
        · rw [if_neg (nt hc2)] at hGc4
          have hf := hf.lit 22 rfl hc2
          refine wlg hf rfl rfl rfl (op_q hf (rq_loadBN hf H TF.la40 0 rfl rfl rfl rfl) rfl (by decide) fun a hf => ?_)
          obtain ⟨y3, hy3, hGc4⟩ := bind_some hGc4
          refine wlg hf rfl rfl rfl (op_call hf TF.cl119 rfl (by decide) (impl_bytesOf_ok (S := fun _ => True) (Frame_mkv (x := ({ Counter := e, Pointer := e2, Payload := y } : Frame)) (rep_true (α := List Int) (H.get 0 rfl))) hy3) fun v3 w a hp4 hf => ?_)
          obtain ⟨hb3, F3, hp5, hN2⟩ := hp4
          obtain ⟨A4, c5, rfl, hl3⟩ := VO_list hp5
          have H := H.addOwn hb3 (X := [(⟨F3, MP.own F3 [(.slice A4 y3.length c5)] (y3 : List Int)⟩ : DI)]) (by simpa using hN2.1) (ps1 hl3 ps0) (by simpa using hN2.2)
          have H := H.lend 0 rfl
          refine pRun_ok (tb := tab) (n := 31) tabOk 1 _ _ hf rfl rfl fun a hf => ?_
          obtain ⟨y4, hy4, hGc4⟩ := bind_some hGc4
          refine wlg hf rfl rfl rfl (op_call hf TF.cl129 rfl (by decide) (slices_Equal_int_int_ok (S := fun _ => True) (mk_list (rep_true (α := List Int) (H.get 0 rfl))) (mk_list (rep_true (α := List Int) (H.get 5 rfl))) hy4) fun v4 w a hp6 hf => ?_)
          obtain ⟨hb4, hp6⟩ := hp6
          obtain rfl := VR_bool hp6
          have H := H.keep hb4
          refine pRun_ok (tb := tab) (n := 31) tabOk 2 _ _ hf rfl rfl fun a hf => ?_
          obtain rfl := Option.some.inj hGc4
          have hf := hf.prune [2, 4, 28] rfl
          have H := H.let [true, true] [] [false, true] [1]
          exact wl_end ⟨hf, H⟩
      rintro a w ⟨hf, H⟩
      refine then_n ?_
      refine (Bool.eq_false_or_eq_true (c4)).elim (fun hc3 => ?_) (fun hc3 => ?_)
      · rw [if_pos hc3] at hF
        refine cd_t hf rfl hc3 ?_
        refine sq ?_
        refine reg ?_
        refine wl0 rfl (op_q hf (rq_build hf (cs := [(.int .i64 0), (.int .i64 0), (.slice none 0 0)]) rfl (fun w => by kernel_rfl)) rfl (by decide) fun a hf => ?_)
        refine wl0 rfl (op_storeB hf H 1 TF.sz40 rfl rfl rfl rfl rfl rfl (nle rfl) fun w H => ?_)
        refine pRun_ok (tb := tab) (n := 31) tabOk 1 _ _ hf rfl rfl fun a hf => ?_
        refine wl_end ?_
        refine then_n ?_
        refine wp_ret (then_r (?_))
        have H := H.ownNil (Int)
        have H := H.lend 0 rfl
        obtain rfl := Option.some.inj hF
        refine ret_2 (fn := Try.f66) (r := .cell 2 40) (s := .tmp 3) hf rfl (rv_cellN hf H 1 TF.la40 rfl rfl rfl) (rv_tmp hf rfl) ?_
        have hN := H.ends (X := [(⟨[], MP.own [] [(.slice none 0 0)] ([] : List Int)⟩ : DI)])
        simp only [List.flatMap_cons, List.flatMap_nil, List.append_nil, List.append_assoc] at hN
        exact ⟨_, rfl, H.bel, [], _, _, rfl, ⟨_, Frame_ownmk (x := ({ Counter := 0, Pointer := 0, Payload := [] } : Frame)) (H.ownAt 0 rfl), rfl⟩, mk_bool, hN⟩
      · rw [if_neg (nt hc3)] at hF
        refine cd_f hf rfl hc3 ?_
        refine wp_skip ?_
        refine then_n ?_
        refine sq ?_
        refine reg ?_
        refine wl0 rfl (op_q hf (rq_loadBN hf H TF.la40 0 rfl rfl rfl rfl) rfl (by decide) fun a hf => ?_)
        refine wl0 rfl (op_storeB hf H 1 TF.sz40 rfl rfl rfl rfl rfl rfl (nle rfl) fun w H => ?_)
        refine pRun_ok (tb := tab) (n := 31) tabOk 1 _ _ hf rfl rfl fun a hf => ?_
        refine wl_end ?_
        refine then_n ?_
        refine wp_ret (?_)
        obtain rfl := Option.some.inj hF
        refine ret_2 (fn := Try.f66) (r := .cell 2 40) (s := .tmp 3) hf rfl (rv_cellN hf H 1 TF.la40 rfl rfl rfl) (rv_tmp hf rfl) ?_
        have hN := H.ends (X := [(⟨F, MP.own F [(.slice A3 y.length c3)] (y : List Int)⟩ : DI)])
        simp only [List.flatMap_cons, List.flatMap_nil, List.append_nil, List.append_assoc] at hN
        exact ⟨_, rfl, H.bel, F, _, _, rfl, ⟨_, Frame_ownmk (x := ({ Counter := e, Pointer := e2, Payload := y } : Frame)) (H.ownAt 0 rfl), rfl⟩, mk_bool, hN⟩

/- loop.example/g00897/impl.FindFrames -/
set_option maxHeartbeats 1000000 in
theorem impl_FindFrames_ok {fu : Nat} {w0 : World} {S : Nat → Prop} {v0_ : Value} {stream : List Int} {r : List Int × Bool} (h0 : VR w0 S v0_ stream) (hF : impl_FindFrames fu stream = some r) :
    Calls Try.prog 69 [v0_].toArray w0 fun e w' => ∃ v, e = .returned v ∧ (Below w0.heap.size w0 w' ∧ ∃ F0, ∃ u0 u1, v = .tuple #[u0, u1] ∧ VO w' F0 u0 r.1 ∧ VR w' (St ⟨w0, []⟩ S [] [] [] true) u1 r.2 ∧ New w0 w' F0) := by
  obtain ⟨A, c, rfl, hl⟩ := VR_list h0
  have H := Mem.start ⟨w0, []⟩ S
  have H := H.pushArg (MP.val [(.slice A stream.length c)] stream) hl
  refine enter Try.func69 rfl rfl (nle rfl) rfl fun a hf => ?_
  rw [impl_FindFrames] at hF
  refine sq ?_
  refine reg ?_
  refine pRun_ok (tb := tab) (n := 41) tabOk 2 _ _ hf rfl rfl fun a hf => ?_
  refine wl_end ?_
  refine then_n ?_
  refine sq ?_
  refine sq ?_
  obtain ⟨c2, hGc2, hF⟩ := bind_some hF
  refine mid (fun a w => Fr a 41 [(0, (.slice A stream.length c)), (15, (.bool c2))] ∧ Mem ⟨w0, []⟩ S [] [] [] [(false, MP.val [(.slice A stream.length c)] (stream : List Int))] w) ?_ ?_
  · refine reg ?_
    refine pRun_ok (tb := tab) (n := 41) tabOk 4 _ _ hf rfl rfl fun a hf => ?_
    refine (Bool.eq_false_or_eq_true (decide ((stream.length : Int) > 400))).elim (fun hc => ?_) (fun hc => ?_)
    · rw [if_pos hc] at hGc2
      have hf := hf.lit 11 rfl hc
      refine pRun_ok (tb := tab) (n := 41) tabOk 4 _ _ hf rfl rfl fun a hf => ?_
      obtain rfl := Option.some.inj hGc2
      have hf := hf.prune [0, 15] rfl
      have H := H.let [] [] [] [0]
      exact wl_end ⟨hf, H⟩
    · rw [if_neg (nt hc)] at hGc2
      have hf := hf.lit 11 rfl hc
      refine pRun_ok (tb := tab) (n := 41) tabOk 1 _ _ hf rfl rfl fun a hf => ?_
      obtain ⟨y, hy, hGc2⟩ := bind_some hGc2
      refine wlg hf rfl rfl rfl (op_call hf TF.cl111 rfl (by decide) (impl_areBytes_ok (S := fun _ => True) (mk_list (rep_true (α := List Int) (H.get 0 rfl))) hy) fun v w a hp hf => ?_)
      obtain ⟨hb, hp⟩ := hp
      obtain rfl := VR_bool hp
      have H := H.keep hb
      refine pRun_ok (tb := tab) (n := 41) tabOk 2 _ _ hf rfl rfl fun a hf => ?_
      obtain rfl := Option.some.inj hGc2
      have hf := hf.prune [0, 15] rfl
      have H := H.let [] [] [] [0]
      exact wl_end ⟨hf, H⟩
  rintro a w ⟨hf, H⟩
  refine then_n ?_
  refine (Bool.eq_false_or_eq_true (c2)).elim (fun hc2 => ?_) (fun hc2 => ?_)
  · rw [if_pos hc2] at hF
    refine cd_t hf rfl hc2 ?_
    refine sq ?_
    refine reg ?_
    refine pRun_ok (tb := tab) (n := 41) tabOk 2 _ _ hf rfl rfl fun a hf => ?_
    refine wl_end ?_
    refine then_n ?_
    refine wp_ret (then_r (?_))
    have H := H.ownNil (Int)
    have H := H.lend 0 rfl
    obtain rfl := Option.some.inj hF
    refine ret_2 (fn := Try.f69) (r := .tmp 2) (s := .tmp 3) hf rfl (rv_tmp hf rfl) (rv_tmp hf rfl) ?_
    have hN := H.ends (X := [(⟨[], MP.own [] [(.slice none 0 0)] ([] : List Int)⟩ : DI)])
    simp only [List.flatMap_cons, List.flatMap_nil, List.append_nil, List.append_assoc] at hN
    exact ⟨_, rfl, H.bel, [], _, _, rfl, (mko_list (H.ownAt 0 rfl)), mk_bool, hN⟩
  · rw [if_neg (nt hc2)] at hF
    refine cd_f hf rfl hc2 ?_
    refine wp_skip ?_
    refine then_n ?_
    refine sq ?_
    refine reg ?_
    refine wl0 rfl (op_bslice hf H (.sh true) rfl 3 ([] : List Int) [] rfl (fun w => by kernel_rfl) rfl (by decide) rfl trivial el0 (by decide) fun A2 a w hf H => ?_)
    refine pRun_ok (tb := tab) (n := 41) tabOk 1 _ _ hf rfl rfl fun a hf => ?_
    refine wl_end ?_
    refine then_n ?_
    refine sq ?_
    refine sq ?_
    refine reg ?_
    refine pRun_ok (tb := tab) (n := 41) tabOk 1 _ _ hf rfl rfl fun a hf => ?_
    refine wl_end ?_
    refine then_n ?_
    obtain ⟨out2, hB1, hF⟩ := bind_some hF
    have hf := hf.prune [0, 4, 5] rfl
    have H := H.let [] [true] [] [0]
    have hI : (fun (s : List Int × Int) (a : Act) (w : World) => match s with | (out', at') => ∃ (A3 : Option Addr) (c3 : Nat), Fr a 41 [(0, (.slice A stream.length c)), (4, (.slice A3 out'.length c3)), (5, (.int .i64 at'))] ∧ Mem ⟨w0, []⟩ S [] [⟨.sh true, 3, A3, c3, (out' : List Int)⟩] [] [(false, MP.val [(.slice A stream.length c)] (stream : List Int))] w) (([] : List Int), 0) a w := ⟨A2, 0, hf, H⟩
    refine mid (fun a w => ∃ s : List Int × Int, out2 = s ∧ (fun (s : List Int × Int) (a : Act) (w : World) => match s with | (out', at') => ∃ (A3 : Option Addr) (c3 : Nat), Fr a 41 [(0, (.slice A stream.length c)), (4, (.slice A3 out'.length c3)), (5, (.int .i64 at'))] ∧ Mem ⟨w0, []⟩ S [] [⟨.sh true, 3, A3, c3, (out' : List Int)⟩] [] [(false, MP.val [(.slice A stream.length c)] (stream : List Int))] w) s a w) ?_ ?_
    · refine wp_block ?_
      refine loop_rule (fun k (s : List Int × Int) => impl_FindFrames_L1 fu stream k s.1 s.2 = some out2) (fun (s : List Int × Int) (a : Act) (w : World) => match s with | (out', at') => ∃ (A3 : Option Addr) (c3 : Nat), Fr a 41 [(0, (.slice A stream.length c)), (4, (.slice A3 out'.length c3)), (5, (.int .i64 at'))] ∧ Mem ⟨w0, []⟩ S [] [⟨.sh true, 3, A3, c3, (out' : List Int)⟩] [] [(false, MP.val [(.slice A stream.length c)] (stream : List Int))] w) (fun s h => by cases h) ?_ fu (([] : List Int), 0) a w hB1 hI
      rintro fk ⟨out', at'⟩ a w hR1 hI
      replace hR1 : impl_FindFrames_L1 fu stream (fk + 1) out' at' = some out2 := hR1
      rw [impl_FindFrames_L1] at hR1
      obtain ⟨A3, c3, hf, H⟩ := hI
      refine sq ?_
      refine sq ?_
      refine reg ?_
      refine pRun_ok (tb := tab) (n := 41) tabOk 5 _ _ hf rfl rfl fun a hf => ?_
      refine wl_end ?_
      refine then_n ?_
      refine (Bool.eq_false_or_eq_true (decide ((w64 (at' + 17)) ≤ (stream.length : Int)))).elim (fun hc3 => ?_) (fun hc3 => ?_)
      · rw [if_pos hc3] at hR1
        refine cd_t hf rfl hc3 ?_
        refine wp_skip ?_
        refine then_n ?_
        refine sq ?_
        refine wp_block ?_
        refine sq ?_
        refine reg ?_
        refine pRun_ok (tb := tab) (n := 41) tabOk 4 _ _ hf rfl rfl fun a hf => ?_
        obtain ⟨l, hl, hR1⟩ := bind_some hR1
        refine wl0 rfl (op_sliceI hf H Try.underlying35 TF.sz3 0 rfl rfl rfl rfl hl (by decide) fun A4 c4 a hf H => ?_)
        obtain ⟨y2, hy2, hR1⟩ := bind_some hR1
        refine wl0 rfl (op_call hf TF.cl66 rfl (by decide) (impl_ParseFrame_ok (S := fun _ => True) (mk_list (rep_true (α := List Int) (H.get 0 rfl))) hy2) fun v2 w a hp2 hf => ?_)
        obtain ⟨hb2, F, v3, v4, rfl, hp3, hp4, hN⟩ := hp2
        obtain ⟨A5, c5, F2, rfl, rfl, hl2⟩ := Frame_vo hp3
        obtain rfl := VR_bool hp4
        have H := H.addOwn hb2 (X := [(⟨F2, MP.own F2 [(.slice A5 y2.1.Payload.length c5)] (y2.1.Payload : List Int)⟩ : DI)]) (by simpa using hN.1) (ps1 hl2 ps0) (by simpa using hN.2)
        have H := H.lend 0 rfl
        refine pRun_ok (tb := tab) (n := 41) tabOk 3 _ _ hf rfl rfl fun a hf => ?_
        refine wl0 rfl (op_alloc hf H TF.zv40 rfl (by decide) fun b' a w hf H => ?_)
        refine wl0 rfl (op_storeB hf H 0 TF.sz40 rfl rfl rfl rfl rfl rfl (nle rfl) fun w H => ?_)
        refine pRun_ok (tb := tab) (n := 41) tabOk 1 _ _ hf rfl rfl fun a hf => ?_
        have hf := hf.prune [0, 4, 5, 7] rfl
        refine wl_end ?_
        refine then_n ?_
        refine sq ?_
        refine reg ?_
        refine pRun_ok (tb := tab) (n := 41) tabOk 1 _ _ hf rfl rfl fun a hf => ?_
        refine wl_end ?_
        refine then_n ?_
        refine (Bool.eq_false_or_eq_true (y2.2)).elim (fun hc4 => ?_) (fun hc4 => ?_)
        · rw [if_pos hc4] at hR1
          refine cd_t hf rfl hc4 ?_
          refine sq ?_
          refine reg ?_
          refine pRun_ok (tb := tab) (n := 41) tabOk 2 _ _ hf rfl rfl fun a hf => ?_
          refine wl0 rfl (op_bslice hf H (.sh true) rfl 3 ([at'] : List Int) [(.int .i64 at')] rfl (fun w => by kernel_rfl) rfl (by decide) rfl trivial (el1 (y := at') rfl) (by decide) fun A6 a w hf H => ?_)
          obtain ⟨l2, hl2, hR1⟩ := bind_some hR1
          refine wl0 rfl (op_appR hf H Try.underlying35 TF.ai3 rfl (by decide) 1 0 rfl rfl rfl rfl (.inr rfl) hl2 (by decide) fun A7 c6 a w hf H => ?_)
          refine pRun_ok (tb := tab) (n := 41) tabOk 1 _ _ hf rfl rfl fun a hf => ?_
          refine wl_end ?_
          refine then_n ?_
          refine reg ?_
          refine pRun_ok (tb := tab) (n := 41) tabOk 3 _ _ hf rfl rfl fun a hf => ?_
          refine wl_end ?_
          refine blk_n ?_
          refine then_n ?_
          refine reg ?_
          refine pRun_ok (tb := tab) (n := 41) tabOk 3 _ _ hf rfl rfl fun a hf => ?_
          refine wl_end ?_
          have hf := hf.prune [0, 4, 5] rfl
          have H := H.let [false] [false, true] [false] [2]
          exact then_n ⟨(l2, w64 ((w64 (at' + 16)) + 1)), hR1, A7, c6, hf, H⟩
        · rw [if_neg (nt hc4)] at hR1
          refine cd_f hf rfl hc4 ?_
          refine wp_skip ?_
          refine blk_n ?_
          refine then_n ?_
          refine reg ?_
          refine pRun_ok (tb := tab) (n := 41) tabOk 3 _ _ hf rfl rfl fun a hf => ?_
          refine wl_end ?_
          have hf := hf.prune [0, 4, 5] rfl
          have H := H.let [false] [true] [false] [2]
          exact then_n ⟨(out', w64 (at' + 1)), hR1, A3, c3, hf, H⟩
      · rw [if_neg (nt hc3)] at hR1
        refine cd_f hf rfl hc3 ?_
        refine wp_exit (then_x (then_x (blk_e (?_))))
        have hf := hf.prune [0, 4, 5] rfl
        have H := H.let [] [true] [] [0]
        exact ⟨(out', at'), (Option.some.inj hR1).symm, A3, c3, hf, H⟩
    rintro a w ⟨⟨out3, at2⟩, rfl, A8, c7, hf, H⟩
    dsimp only at hF
    refine then_n ?_
    refine sq ?_
    refine reg ?_
    refine pRun_ok (tb := tab) (n := 41) tabOk 3 _ _ hf rfl rfl fun a hf => ?_
    refine wl_end ?_
    refine then_n ?_
    refine wp_ret (?_)
    have H := H.rowOwn 0 rfl rfl
    obtain ⟨F3, H⟩ := H.freezeOwn 0 rfl
    have H := H.lend 0 rfl
    obtain rfl := Option.some.inj hF
    refine ret_2 (fn := Try.f69) (r := .tmp 2) (s := .tmp 3) hf rfl (rv_tmp hf rfl) (rv_tmp hf rfl) ?_
    have hN := H.ends (X := [(⟨F3, MP.own F3 [(.slice A8 out3.length c7)] (out3 : List Int)⟩ : DI)])
    simp only [List.flatMap_cons, List.flatMap_nil, List.append_nil, List.append_assoc] at hN
    exact ⟨_, rfl, H.bel, F3, _, _, rfl, (mko_list (H.ownAt 0 rfl)), mk_bool, hN⟩

/- loop.example/g00897/laws.eqIntS -/
set_option maxHeartbeats 1000000 in
theorem laws_eqIntS_ok {fu : Nat} {w0 : World} {S : Nat → Prop} {v0_ : Value} {v1_ : Value} {a' : List Int} {b' : List Int} {r : Bool} (h0 : VR w0 S v0_ a') (h1 : VR w0 S v1_ b') (hF : laws_eqIntS fu a' b' = some r) :
    Calls Try.prog 43 [v0_, v1_].toArray w0 fun e w' => ∃ v, e = .returned v ∧ (Below w0.heap.size w0 w' ∧ VR w' (St ⟨w0, []⟩ S [] [] [] true) v r) := by
  obtain ⟨A, c, rfl, hl⟩ := VR_list h0
  obtain ⟨A2, c2, rfl, hl2⟩ := VR_list h1
  have H := Mem.start ⟨w0, []⟩ S
  have H := H.pushArg (MP.val [(.slice A a'.length c)] a') hl
  have H := H.pushArg (MP.val [(.slice A2 b'.length c2)] b') hl2
  refine enter Try.func43 rfl rfl (nle rfl) rfl fun a hf => ?_
  rw [laws_eqIntS] at hF
  refine sq ?_
  refine reg ?_
  refine pRun_ok (tb := tab) (n := 26) tabOk 1 _ _ hf rfl rfl fun a hf => ?_
  refine wl_end ?_
  refine then_n ?_
  refine sq ?_
  refine sq ?_
  refine reg ?_
  refine pRun_ok (tb := tab) (n := 26) tabOk 5 _ _ hf rfl rfl fun a hf => ?_
  refine wl_end ?_
  refine then_n ?_
  refine (Bool.eq_false_or_eq_true ((a'.length : Int) != (b'.length : Int))).elim (fun hc => ?_) (fun hc => ?_)
  · rw [if_pos hc] at hF
    refine cd_t hf rfl hc ?_
    refine sq ?_
    refine reg ?_
    refine pRun_ok (tb := tab) (n := 26) tabOk 1 _ _ hf rfl rfl fun a hf => ?_
    refine wl_end ?_
    refine then_n ?_
    refine wp_ret (then_r (?_))
    obtain rfl := Option.some.inj hF
    refine ret_1 (fn := Try.f43) (r := .tmp 4) hf rfl (rv_tmp hf rfl) ?_
    exact ⟨_, rfl, H.bel, mk_bool⟩
  · rw [if_neg (nt hc)] at hF
    refine cd_f hf rfl hc ?_
    refine wp_skip ?_
    refine then_n ?_
    refine sq ?_
    refine sq ?_
    refine reg ?_
    refine pRun_ok (tb := tab) (n := 26) tabOk 1 _ _ hf rfl rfl fun a hf => ?_
    refine wl_end ?_
    refine then_n ?_
    obtain ⟨out', hB1, hF⟩ := bind_some hF
    have hf := hf.prune [0, 1, 5] rfl
    have H := H.let [] [] [] [0, 1]
    have hI : (fun (s : Int) (a : Act) (w : World) => match s with | i => Fr a 26 [(0, (.slice A a'.length c)), (1, (.slice A2 b'.length c2)), (5, (.int .i64 i))] ∧ Mem ⟨w0, []⟩ S [] [] [] [(false, MP.val [(.slice A2 b'.length c2)] (b' : List Int)), (false, MP.val [(.slice A a'.length c)] (a' : List Int))] w) 0 a w0 := ⟨hf, H⟩
    refine mid (fun a w => ∃ s : Int, out' = Out.next s ∧ (fun (s : Int) (a : Act) (w : World) => match s with | i => Fr a 26 [(0, (.slice A a'.length c)), (1, (.slice A2 b'.length c2)), (5, (.int .i64 i))] ∧ Mem ⟨w0, []⟩ S [] [] [] [(false, MP.val [(.slice A2 b'.length c2)] (b' : List Int)), (false, MP.val [(.slice A a'.length c)] (a' : List Int))] w) s a w) ?_ ?_
    · refine wp_block ?_
      refine loop_rule (fun k (s : Int) => laws_eqIntS_L1 fu a' b' k s = some out') (fun (s : Int) (a : Act) (w : World) => match s with | i => Fr a 26 [(0, (.slice A a'.length c)), (1, (.slice A2 b'.length c2)), (5, (.int .i64 i))] ∧ Mem ⟨w0, []⟩ S [] [] [] [(false, MP.val [(.slice A2 b'.length c2)] (b' : List Int)), (false, MP.val [(.slice A a'.length c)] (a' : List Int))] w) (fun s h => by cases h) ?_ fu 0 a w0 hB1 hI
      rintro fk i a w hR1 hI
      replace hR1 : laws_eqIntS_L1 fu a' b' (fk + 1) i = some out' := hR1
      rw [laws_eqIntS_L1] at hR1
      obtain ⟨hf, H⟩ := hI
      refine sq ?_
      refine sq ?_
      refine reg ?_
      refine pRun_ok (tb := tab) (n := 26) tabOk 4 _ _ hf rfl rfl fun a hf => ?_
      refine wl_end ?_
      refine then_n ?_
      refine (Bool.eq_false_or_eq_true (decide (i < (a'.length : Int)))).elim (fun hc2 => ?_) (fun hc2 => ?_)
      · rw [if_pos hc2] at hR1
        refine cd_t hf rfl hc2 ?_
        refine wp_skip ?_
        refine then_n ?_
        refine sq ?_
        refine wp_block ?_
        refine sq ?_
        refine drawn [] (bs := [false, false, false, false, false, false, false, false, false]) (fuel := 9) (Checked.mixed Try.checked) rfl rfl fun w hb => ?_
        have H := H.keep hb
        refine tkP (i := 0) (bs' := [true, false, false, false, false, false, false, false, false]) rfl rfl rfl (by decide) hf (by kernel_rfl) (fun _ => trivial) (fun w => pOp_ok (tb := tab) tabOk hf rfl) rfl fun a hf => ?_
        refine tkP (i := 1) (bs' := [true, true, false, false, false, false, false, false, false]) rfl rfl rfl (by decide) hf (by kernel_rfl) (fun _ => trivial) (fun w => pOp_ok (tb := tab) tabOk hf rfl) rfl fun a hf => ?_
        obtain ⟨e, he, hR1⟩ := bind_some hR1
        obtain ⟨p, o, cs, hx, hr, H⟩ := pre_iaddr H Try.underlying35 TF.sz3 1 rfl he
        refine tkP (i := 2) (bs' := [true, true, true, false, false, false, false, false, false]) rfl rfl rfl (by decide) hf (by kernel_rfl) (fun _ => trivial) (fun w => rq_iaddrE hf rfl rfl rfl hx w) rfl fun a hf => ?_
        obtain rfl := hr
        refine str (fun w => Mem ⟨w0, []⟩ S [] [] [] [(false, MP.cells ⟨p, o, none⟩ [(.int .i64 e)]), (false, MP.val [(.slice A2 b'.length c2)] (b' : List Int)), (false, MP.val [(.slice A a'.length c)] (a' : List Int))] w) (fun w H => trivial) ?_
        have hS : Mem ⟨w0, []⟩ S [] [] [] [(false, MP.cells ⟨p, o, none⟩ [(.int .i64 e)]), (false, MP.val [(.slice A2 b'.length c2)] (b' : List Int)), (false, MP.val [(.slice A a'.length c)] (a' : List Int))] w := H.let [] [] [] [0, 1, 2]
        refine tkS (i := 3) (bs' := [true, true, true, true, false, false, false, false, false]) [] rfl rfl rfl (by decide) hf (by kernel_rfl) (by kernel_rfl) hS (fun w H => rq_loadI hf H TF.ls3 0 0 rfl rfl rfl) rfl fun a hf => ?_
        refine tkP (i := 4) (bs' := [true, true, true, true, true, false, false, false, false]) rfl rfl rfl (by decide) hf (by kernel_rfl) (fun _ => hS) (fun w => pOp_ok (tb := tab) tabOk hf rfl) rfl fun a hf => ?_
        refine tkP (i := 5) (bs' := [true, true, true, true, true, true, false, false, false]) rfl rfl rfl (by decide) hf (by kernel_rfl) (fun _ => hS) (fun w => pOp_ok (tb := tab) tabOk hf rfl) rfl fun a hf => ?_
        obtain ⟨e2, he2, hR1⟩ := bind_some hR1
        obtain ⟨p2, o2, cs2, hx2, hr2, H⟩ := pre_iaddr H Try.underlying35 TF.sz3 1 rfl he2
        refine tkP (i := 6) (bs' := [true, true, true, true, true, true, true, false, false]) rfl rfl rfl (by decide) hf (by kernel_rfl) (fun _ => hS) (fun w => rq_iaddrE hf rfl rfl rfl hx2 w) rfl fun a hf => ?_
        obtain rfl := hr2
        refine str (fun w => Mem ⟨w0, []⟩ S [] [] [] [(false, MP.cells ⟨p2, o2, none⟩ [(.int .i64 e2)]), (false, MP.cells ⟨p, o, none⟩ [(.int .i64 e)]), (false, MP.val [(.slice A2 b'.length c2)] (b' : List Int)), (false, MP.val [(.slice A a'.length c)] (a' : List Int))] w) (fun w H => H.let [] [] [] [1, 2, 3]) ?_
        have hS : Mem ⟨w0, []⟩ S [] [] [] [(false, MP.cells ⟨p2, o2, none⟩ [(.int .i64 e2)]), (false, MP.cells ⟨p, o, none⟩ [(.int .i64 e)]), (false, MP.val [(.slice A2 b'.length c2)] (b' : List Int)), (false, MP.val [(.slice A a'.length c)] (a' : List Int))] w := H.let [] [] [] [0, 1, 2, 3]
        refine tkS (i := 7) (bs' := [true, true, true, true, true, true, true, true, false]) [] rfl rfl rfl (by decide) hf (by kernel_rfl) (by kernel_rfl) hS (fun w H => rq_loadI hf H TF.ls3 0 0 rfl rfl rfl) rfl fun a hf => ?_
        refine tkP (i := 8) (bs' := [true, true, true, true, true, true, true, true, true]) rfl rfl rfl (by decide) hf (by kernel_rfl) (fun _ => hS) (fun w => pOp_ok (tb := tab) tabOk hf rfl) rfl fun a hf => ?_
        refine dn (by kernel_rfl) ?_
        refine then_n ?_
        refine (Bool.eq_false_or_eq_true (e != e2)).elim (fun hc3 => ?_) (fun hc3 => ?_)
        · rw [if_pos hc3] at hR1
          refine cd_t hf rfl hc3 ?_
          refine sq ?_
          refine reg ?_
          refine pRun_ok (tb := tab) (n := 26) tabOk 1 _ _ hf rfl rfl fun a hf => ?_
          have hf := hf.prune [4] rfl
          refine wl_end ?_
          refine then_n ?_
          refine wp_ret (blk_r (then_r (then_r (blk_r (then_r (then_r (?_)))))))
          obtain rfl := Option.some.inj hR1
          replace hF := on_ret hF
          obtain rfl := Option.some.inj hF
          refine ret_1 (fn := Try.f43) (r := .tmp 4) hf rfl (rv_tmp hf rfl) ?_
          exact ⟨_, rfl, H.bel, mk_bool⟩
        · rw [if_neg (nt hc3)] at hR1
          refine cd_f hf rfl hc3 ?_
          refine wp_skip ?_
          refine blk_n ?_
          refine then_n ?_
          refine reg ?_
          refine pRun_ok (tb := tab) (n := 26) tabOk 3 _ _ hf rfl rfl fun a hf => ?_
          have hf := hf.prune [0, 1, 5] rfl
          refine wl_end ?_
          have hf := hf.prune [0, 1, 5] rfl
          have H := H.let [] [] [] [2, 3]
          exact then_n ⟨w64 (i + 1), hR1, hf, H⟩
      · rw [if_neg (nt hc2)] at hR1
        refine cd_f hf rfl hc2 ?_
        refine wp_exit (then_x (then_x (blk_e (?_))))
        have hf := hf.prune [0, 1, 5] rfl
        have H := H.let [] [] [] [0, 1]
        exact ⟨i, (Option.some.inj hR1).symm, hf, H⟩
    rintro a w ⟨i2, rfl, hf, H⟩
    replace hF := on_next hF
    refine then_n ?_
    refine sq ?_
    refine reg ?_
    refine pRun_ok (tb := tab) (n := 26) tabOk 1 _ _ hf rfl rfl fun a hf => ?_
    refine wl_end ?_
    refine then_n ?_
    refine wp_ret (?_)
    obtain rfl := Option.some.inj hF
    refine ret_1 (fn := Try.f43) (r := .tmp 4) hf rfl (rv_tmp hf rfl) ?_
    exact ⟨_, rfl, H.bel, mk_bool⟩

/- loop.example/g00897/laws.markIntS -/
set_option maxHeartbeats 1000000 in
theorem laws_markIntS_ok {fu : Nat} {w0 : World} {S : Nat → Prop} {F : List Nat} {cs : List Value} {v1_ : Value} {a' : List Int} {k' : Int} {r : Int × List Int} (hO : GoTy.own w0 F cs a') (hn : F.Nodup) (h1 : VR w0 S v1_ k') (hF : laws_markIntS fu a' k' = some r) :
    Calls Try.prog 44 [(bif GoTy.agg (List Int) then .agg cs.toArray else cs.headD undef), v1_].toArray w0 fun e w' => ∃ v, e = .returned v ∧ (Chg w0 w' F ∧ VR w' (fun _ => True) v r.1 ∧ ∃ F', GoTy.own w' F' cs r.2 ∧ Back w0 w' F F') := by
  obtain rfl := VR_int h1
  obtain ⟨A, c, rfl, hO⟩ := own_list hO
  have H := Mem.startG S hO hn
  obtain ⟨Fs, E, H, -⟩ := H.thaw rfl
  have H := H.rowSh 0 rfl
  refine enter Try.func44 rfl rfl (nle rfl) rfl fun a hf => ?_
  rw [laws_markIntS] at hF
  refine sq ?_
  refine reg ?_
  refine pRun_ok (tb := tab) (n := 19) tabOk 1 _ _ hf rfl rfl fun a hf => ?_
  refine wl_end ?_
  refine then_n ?_
  refine sq ?_
  refine sq ?_
  refine reg ?_
  refine pRun_ok (tb := tab) (n := 19) tabOk 1 _ _ hf rfl rfl fun a hf => ?_
  refine wl_end ?_
  refine then_n ?_
  obtain ⟨out', hB1, hF⟩ := bind_some hF
  have hf := hf.prune [0, 1, 5] rfl
  have hf : Fr a 19 [(0, (.slice A a'.length c)), (1, (.int .i64 k')), (5, (.int .i64 0))] := by first | exact hf | (simp only [List.length_set] at hf; exact hf)
  have H := H.let [] [true] [] []
  have hI : (fun (s : List Int × Int × Int) (a : Act) (w : World) => match s with | (a2, k2, i) => a2.length = a'.length ∧ Fr a 19 [(0, (.slice A a'.length c)), (1, (.int .i64 k2)), (5, (.int .i64 i))] ∧ Mem ⟨w0, F⟩ S [] [⟨.sh true, E, A, c, (a2 : List Int)⟩] [] [] w) (a', k', 0) a w0 := ⟨rfl, hf, H⟩
  refine mid (fun a w => ∃ s : List Int × Int × Int, out' = s ∧ (fun (s : List Int × Int × Int) (a : Act) (w : World) => match s with | (a2, k2, i) => a2.length = a'.length ∧ Fr a 19 [(0, (.slice A a'.length c)), (1, (.int .i64 k2)), (5, (.int .i64 i))] ∧ Mem ⟨w0, F⟩ S [] [⟨.sh true, E, A, c, (a2 : List Int)⟩] [] [] w) s a w) ?_ ?_
  · refine wp_block ?_
    refine loop_rule (fun k (s : List Int × Int × Int) => laws_markIntS_L1 fu k s.1 s.2.1 s.2.2 = some out') (fun (s : List Int × Int × Int) (a : Act) (w : World) => match s with | (a2, k2, i) => a2.length = a'.length ∧ Fr a 19 [(0, (.slice A a'.length c)), (1, (.int .i64 k2)), (5, (.int .i64 i))] ∧ Mem ⟨w0, F⟩ S [] [⟨.sh true, E, A, c, (a2 : List Int)⟩] [] [] w) (fun s h => by cases h) ?_ fu (a', k', 0) a w0 hB1 hI
    rintro fk ⟨a2, k2, i⟩ a w hR1 hI
    replace hR1 : laws_markIntS_L1 fu (fk + 1) a2 k2 i = some out' := hR1
    rw [laws_markIntS_L1] at hR1
    obtain ⟨hlen, hf, H⟩ := hI
    have hf : Fr a 19 [(0, (.slice A a2.length c)), (1, (.int .i64 k2)), (5, (.int .i64 i))] := by rw [hlen]; exact hf
    refine sq ?_
    refine sq ?_
    refine reg ?_
    refine pRun_ok (tb := tab) (n := 19) tabOk 4 _ _ hf rfl rfl fun a hf => ?_
    refine wl_end ?_
    refine then_n ?_
    refine (Bool.eq_false_or_eq_true (decide (i < (a2.length : Int)))).elim (fun hc => ?_) (fun hc => ?_)
    · rw [if_pos hc] at hR1
      refine cd_t hf rfl hc ?_
      refine wp_skip ?_
      refine then_n ?_
      refine sq ?_
      refine wp_block ?_
      refine sq ?_
      refine reg ?_
      refine pRun_ok (tb := tab) (n := 19) tabOk 3 _ _ hf rfl rfl fun a hf => ?_
      obtain ⟨e, he, hR1⟩ := bind_some hR1
      refine wl0 rfl (op_iaddrR hf H Try.underlying35 TF.sz3 0 rfl rfl rfl he (by decide) fun p o cs a hf hA hr hk => ?_)
      obtain rfl := hr
      refine wl0 rfl (op_storeR (e' := k2) hf H TF.sz3 0 rfl rfl rfl rfl rfl (nle rfl) rfl hA he (st_full rfl) fun w H => ?_)
      replace hf : Fr a 19 [(0, (.slice A a2.length c)), (1, (.int .i64 k2)), (5, (.int .i64 i)), (6, (.int .i64 i)), (7, (.slice A a2.length c)), (8, (.int .i64 (a2.length : Int))), (9, (.bool (decide (i < (a2.length : Int))))), (12, (.slice A a2.length c)), (13, (.int .i64 i)), (14, (.int .i64 k2)), (15, (.pointer (some ⟨p, o + 0, none⟩)))] := hf.prune [0, 1, 5, 6, 7, 8, 9, 12, 13, 14, 15] rfl
      replace hf : Fr a 19 [(0, (.slice A (a2.set (i).toNat k2).length c)), (1, (.int .i64 k2)), (5, (.int .i64 i)), (6, (.int .i64 i)), (7, (.slice A (a2.set (i).toNat k2).length c)), (8, (.int .i64 (a2.length : Int))), (9, (.bool (decide (i < (a2.length : Int))))), (12, (.slice A (a2.set (i).toNat k2).length c)), (13, (.int .i64 i)), (14, (.int .i64 k2)), (15, (.pointer (some ⟨p, o + 0, none⟩)))] := by simpa only [List.length_set, Nat.add_zero] using hf
      refine wl_end ?_
      refine then_n ?_
      refine reg ?_
      refine pRun_ok (tb := tab) (n := 19) tabOk 3 _ _ hf rfl rfl fun a hf => ?_
      refine wl_end ?_
      refine blk_n ?_
      refine then_n ?_
      refine reg ?_
      refine pRun_ok (tb := tab) (n := 19) tabOk 3 _ _ hf rfl rfl fun a hf => ?_
      refine wl_end ?_
      have hf := hf.prune [0, 1, 5] rfl
      have hf : Fr a 19 [(0, (.slice A a'.length c)), (1, (.int .i64 (w64 (k2 + 1)))), (5, (.int .i64 (w64 (i + 1))))] := by first | exact hf | (simp only [List.length_set, hlen] at hf; exact hf)
      have H := H.let [] [true] [] []
      exact then_n ⟨(a2.set (i).toNat k2, w64 (k2 + 1), w64 (i + 1)), hR1, (by simp only [List.length_set, hlen]), hf, H⟩
    · rw [if_neg (nt hc)] at hR1
      refine cd_f hf rfl hc ?_
      refine wp_exit (then_x (then_x (blk_e (?_))))
      have hf := hf.prune [0, 1, 5] rfl
      have hf : Fr a 19 [(0, (.slice A a'.length c)), (1, (.int .i64 k2)), (5, (.int .i64 i))] := by first | exact hf | (simp only [List.length_set, hlen] at hf; exact hf)
      have H := H.let [] [true] [] []
      exact ⟨(a2, k2, i), (Option.some.inj hR1).symm, (by simp only [List.length_set, hlen]), hf, H⟩
  rintro a w ⟨⟨a3, k3, i2⟩, rfl, hlen, hf, H⟩
  try dsimp only at hlen
  have hf : Fr a 19 [(0, (.slice A a3.length c)), (1, (.int .i64 k3)), (5, (.int .i64 i2))] := by rw [hlen]; exact hf
  dsimp only at hF
  refine then_n ?_
  refine sq ?_
  refine reg ?_
  refine pRun_ok (tb := tab) (n := 19) tabOk 2 _ _ hf rfl rfl fun a hf => ?_
  refine wl_end ?_
  refine then_n ?_
  refine wp_ret (?_)
  have H := H.rowOwn 0 rfl rfl
  obtain ⟨F', H⟩ := H.freezeOwn 0 rfl
  rw [hlen] at H
  obtain rfl := Option.some.inj hF
  refine ret_1 (fn := Try.f44) (r := .tmp 4) hf rfl (rv_tmp hf rfl) ?_
  exact ⟨_, rfl, H.chg, mk_int, _, H.ownAt 0 rfl, H.back⟩

/- loop.example/g00897/laws.heldIntS -/
set_option maxHeartbeats 1000000 in
theorem laws_heldIntS_ok {fu : Nat} {w0 : World} {S : Nat → Prop} {v0_ : Value} {v1_ : Value} {a' : List Int} {k' : Int} {r : Int} (h0 : VR w0 S v0_ a') (h1 : VR w0 S v1_ k') (hF : laws_heldIntS fu a' k' = some r) :
    Calls Try.prog 45 [v0_, v1_].toArray w0 fun e w' => ∃ v, e = .returned v ∧ (Below w0.heap.size w0 w' ∧ VR w' (St ⟨w0, []⟩ S [] [] [] true) v r) := by
  obtain ⟨A, c, rfl, hl⟩ := VR_list h0
  obtain rfl := VR_int h1
  have H := Mem.start ⟨w0, []⟩ S
  have H := H.pushArg (MP.val [(.slice A a'.length c)] a') hl
  refine enter Try.func45 rfl rfl (nle rfl) rfl fun a hf => ?_
  rw [laws_heldIntS] at hF
  refine sq ?_
  refine reg ?_
  refine pRun_ok (tb := tab) (n := 21) tabOk 1 _ _ hf rfl rfl fun a hf => ?_
  refine wl_end ?_
  refine then_n ?_
  refine sq ?_
  refine sq ?_
  refine reg ?_
  refine pRun_ok (tb := tab) (n := 21) tabOk 1 _ _ hf rfl rfl fun a hf => ?_
  refine wl_end ?_
  refine then_n ?_
  obtain ⟨out', hB1, hF⟩ := bind_some hF
  have hf := hf.prune [0, 1, 5] rfl
  have H := H.let [] [] [] [0]
  have hI : (fun (s : Int × Int) (a : Act) (w : World) => match s with | (k2, i) => Fr a 21 [(0, (.slice A a'.length c)), (1, (.int .i64 k2)), (5, (.int .i64 i))] ∧ Mem ⟨w0, []⟩ S [] [] [] [(false, MP.val [(.slice A a'.length c)] (a' : List Int))] w) (k', 0) a w0 := ⟨hf, H⟩
  refine mid (fun a w => ∃ s : Int × Int, out' = Out.next s ∧ (fun (s : Int × Int) (a : Act) (w : World) => match s with | (k2, i) => Fr a 21 [(0, (.slice A a'.length c)), (1, (.int .i64 k2)), (5, (.int .i64 i))] ∧ Mem ⟨w0, []⟩ S [] [] [] [(false, MP.val [(.slice A a'.length c)] (a' : List Int))] w) s a w) ?_ ?_
  · refine wp_block ?_
    refine loop_rule (fun k (s : Int × Int) => laws_heldIntS_L1 fu a' k s.1 s.2 = some out') (fun (s : Int × Int) (a : Act) (w : World) => match s with | (k2, i) => Fr a 21 [(0, (.slice A a'.length c)), (1, (.int .i64 k2)), (5, (.int .i64 i))] ∧ Mem ⟨w0, []⟩ S [] [] [] [(false, MP.val [(.slice A a'.length c)] (a' : List Int))] w) (fun s h => by cases h) ?_ fu (k', 0) a w0 hB1 hI
    rintro fk ⟨k2, i⟩ a w hR1 hI
    replace hR1 : laws_heldIntS_L1 fu a' (fk + 1) k2 i = some out' := hR1
    rw [laws_heldIntS_L1] at hR1
    obtain ⟨hf, H⟩ := hI
    refine sq ?_
    refine sq ?_
    refine reg ?_
    refine pRun_ok (tb := tab) (n := 21) tabOk 4 _ _ hf rfl rfl fun a hf => ?_
    refine wl_end ?_
    refine then_n ?_
    refine (Bool.eq_false_or_eq_true (decide (i < (a'.length : Int)))).elim (fun hc => ?_) (fun hc => ?_)
    · rw [if_pos hc] at hR1
      refine cd_t hf rfl hc ?_
      refine wp_skip ?_
      refine then_n ?_
      refine sq ?_
      refine wp_block ?_
      refine sq ?_
      refine sq ?_
      refine reg ?_
      refine pRun_ok (tb := tab) (n := 21) tabOk 2 _ _ hf rfl rfl fun a hf => ?_
      obtain ⟨e, he, hR1⟩ := bind_some hR1
      refine wl0 rfl (op_iaddr hf H Try.underlying35 TF.sz3 0 rfl rfl rfl he (by decide) fun p o cs a hf hr H => ?_)
      obtain rfl := hr
      refine wl0 rfl (op_q hf (rq_loadI hf H TF.ls3 0 0 rfl rfl rfl) rfl (by decide) fun a hf => ?_)
      refine pRun_ok (tb := tab) (n := 21) tabOk 2 _ _ hf rfl rfl fun a hf => ?_
      refine wl_end ?_
      refine then_n ?_
      refine (Bool.eq_false_or_eq_true (e != k2)).elim (fun hc2 => ?_) (fun hc2 => ?_)
      · rw [if_pos hc2] at hR1
        refine cd_t hf rfl hc2 ?_
        refine sq ?_
        refine reg ?_
        refine pRun_ok (tb := tab) (n := 21) tabOk 1 _ _ hf rfl rfl fun a hf => ?_
        have hf := hf.prune [4] rfl
        refine wl_end ?_
        refine then_n ?_
        refine wp_ret (then_r (blk_r (then_r (then_r (blk_r (then_r (then_r (?_))))))))
        obtain rfl := Option.some.inj hR1
        replace hF := on_ret hF
        obtain rfl := Option.some.inj hF
        refine ret_1 (fn := Try.f45) (r := .tmp 4) hf rfl (rv_tmp hf rfl) ?_
        exact ⟨_, rfl, H.bel, mk_int⟩
      · rw [if_neg (nt hc2)] at hR1
        refine cd_f hf rfl hc2 ?_
        refine wp_skip ?_
        refine then_n ?_
        refine reg ?_
        refine pRun_ok (tb := tab) (n := 21) tabOk 3 _ _ hf rfl rfl fun a hf => ?_
        refine wl_end ?_
        refine blk_n ?_
        refine then_n ?_
        refine reg ?_
        refine pRun_ok (tb := tab) (n := 21) tabOk 3 _ _ hf rfl rfl fun a hf => ?_
        have hf := hf.prune [0, 1, 5] rfl
        refine wl_end ?_
        have hf := hf.prune [0, 1, 5] rfl
        have H := H.let [] [] [] [1]
        exact then_n ⟨(w64 (k2 + 1), w64 (i + 1)), hR1, hf, H⟩
    · rw [if_neg (nt hc)] at hR1
      refine cd_f hf rfl hc ?_
      refine wp_exit (then_x (then_x (blk_e (?_))))
      have hf := hf.prune [0, 1, 5] rfl
      have H := H.let [] [] [] [0]
      exact ⟨(k2, i), (Option.some.inj hR1).symm, hf, H⟩
  rintro a w ⟨⟨k3, i2⟩, rfl, hf, H⟩
  replace hF := on_next hF
  dsimp only at hF
  refine then_n ?_
  refine sq ?_
  refine reg ?_
  refine pRun_ok (tb := tab) (n := 21) tabOk 2 _ _ hf rfl rfl fun a hf => ?_
  refine wl_end ?_
  refine then_n ?_
  refine wp_ret (?_)
  obtain rfl := Option.some.inj hF
  refine ret_1 (fn := Try.f45) (r := .tmp 4) hf rfl (rv_tmp hf rfl) ?_
  exact ⟨_, rfl, H.bel, mk_int⟩

/- loop.example/g00897/laws.FnExactFindFrames -/
set_option maxHeartbeats 1000000 in
theorem laws_FnExactFindFrames_ok {fu : Nat} {w0 : World} {S : Nat → Prop} {v0_ : Value} {aStream : List Int} {r : Bool} (h0 : VR w0 S v0_ aStream) (hF : laws_FnExactFindFrames fu aStream = some r) :
    Calls Try.prog 16 [v0_].toArray w0 fun e w' => ∃ v, e = .returned v ∧ (Below w0.heap.size w0 w' ∧ VR w' (St ⟨w0, []⟩ S [] [] [] true) v r) := by
  obtain ⟨A, c, rfl, hl⟩ := VR_list h0
  have H := Mem.start ⟨w0, []⟩ S
  have H := H.pushArg (MP.val [(.slice A aStream.length c)] aStream) hl
  refine enter Try.func16 rfl rfl (nle rfl) rfl fun a hf => ?_
  rw [laws_FnExactFindFrames] at hF
  refine sq ?_
  refine reg ?_
  refine pRun_ok (tb := tab) (n := 93) tabOk 1 _ _ hf rfl rfl fun a hf => ?_
  refine wl_end ?_
  refine then_n ?_
  refine sq ?_
  refine sq ?_
  refine reg ?_
  refine pRun_ok (tb := tab) (n := 93) tabOk 3 _ _ hf rfl rfl fun a hf => ?_
  refine wl_end ?_
  refine then_n ?_
  refine (Bool.eq_false_or_eq_true (decide ((aStream.length : Int) > 1048576))).elim (fun hc => ?_) (fun hc => ?_)
  · rw [if_pos hc] at hF
    refine cd_t hf rfl hc ?_
    refine sq ?_
    refine reg ?_
    refine pRun_ok (tb := tab) (n := 93) tabOk 1 _ _ hf rfl rfl fun a hf => ?_
    refine wl_end ?_
    refine then_n ?_
    refine wp_ret (then_r (?_))
    obtain rfl := Option.some.inj hF
    refine ret_1 (fn := Try.f16) (r := .tmp 2) hf rfl (rv_tmp hf rfl) ?_
    exact ⟨_, rfl, H.bel, mk_bool⟩
  · rw [if_neg (nt hc)] at hF
    refine cd_f hf rfl hc ?_
    refine wp_skip ?_
    refine then_n ?_
    refine sq ?_
    refine reg ?_
    refine pRun_ok (tb := tab) (n := 93) tabOk 1 _ _ hf rfl rfl fun a hf => ?_
    obtain ⟨y, hy, hF⟩ := bind_some hF
    refine wl0 rfl (op_call hf TF.cl41 rfl (by decide) (laws_toIntS_ok (S := fun _ => True) (mk_list (rep_true (α := List Int) (H.get 0 rfl))) hy) fun v w a hp hf => ?_)
    obtain ⟨hb, F, hp2, hN⟩ := hp
    obtain ⟨A2, c2, rfl, hl2⟩ := VO_list hp2
    have H := H.addOwn hb (X := [(⟨F, MP.own F [(.slice A2 y.length c2)] (y : List Int)⟩ : DI)]) (by simpa using hN.1) (ps1 hl2 ps0) (by simpa using hN.2)
    have H := H.lend 0 rfl
    obtain ⟨y2, hy2, hF⟩ := bind_some hF
    refine wl0 rfl (op_call hf TF.cl68 rfl (by decide) (spec_FindFrames_ok (S := fun _ => True) (mk_list (rep_true (α := List Int) (H.get 0 rfl))) hy2) fun v2 w a hp3 hf => ?_)
    obtain ⟨hb2, F3, v3, v4, rfl, hp4, hp5, hN2⟩ := hp3
    obtain ⟨A3, c3, rfl, hl3⟩ := VO_list hp4
    obtain rfl := VR_bool hp5
    have H := H.addOwn hb2 (X := [(⟨F3, MP.own F3 [(.slice A3 y2.1.length c3)] (y2.1 : List Int)⟩ : DI)]) (by simpa using hN2.1) (ps1 hl3 ps0) (by simpa using hN2.2)
    have H := H.lend 0 rfl
    refine pRun_ok (tb := tab) (n := 93) tabOk 5 _ _ hf rfl rfl fun a hf => ?_
    refine wl_end ?_
    refine then_n ?_
    refine sq ?_
    refine reg ?_
    refine pRun_ok (tb := tab) (n := 93) tabOk 1 _ _ hf rfl rfl fun a hf => ?_
    obtain ⟨y3, hy3, hF⟩ := bind_some hF
    refine wl0 rfl (op_call hf TF.cl41 rfl (by decide) (laws_toIntS_ok (S := fun _ => True) (mk_list (rep_true (α := List Int) (H.get 2 rfl))) hy3) fun v5 w a hp6 hf => ?_)
    obtain ⟨hb3, F5, hp7, hN3⟩ := hp6
    obtain ⟨A4, c4, rfl, hl4⟩ := VO_list hp7
    have H := H.addOwn hb3 (X := [(⟨F5, MP.own F5 [(.slice A4 y3.length c4)] (y3 : List Int)⟩ : DI)]) (by simpa using hN3.1) (ps1 hl4 ps0) (by simpa using hN3.2)
    have H := H.lend 0 rfl
    refine pRun_ok (tb := tab) (n := 93) tabOk 1 _ _ hf rfl rfl fun a hf => ?_
    refine wl_end ?_
    refine then_n ?_
    refine sq ?_
    refine reg ?_
    refine pRun_ok (tb := tab) (n := 93) tabOk 1 _ _ hf rfl rfl fun a hf => ?_
    obtain ⟨y4, hy4, hF⟩ := bind_some hF
    refine wl0 rfl (op_call hf TF.cl69 rfl (by decide) (impl_FindFrames_ok (S := fun _ => True) (mk_list (rep_true (α := List Int) (H.get 0 rfl))) hy4) fun v6 w a hp8 hf => ?_)
    obtain ⟨hb4, F7, v7, v8, rfl, hp9, hp10, hN4⟩ := hp8
    obtain ⟨A5, c5, rfl, hl5⟩ := VO_list hp9
    obtain rfl := VR_bool hp10
    have H := H.addOwn hb4 (X := [(⟨F7, MP.own F7 [(.slice A5 y4.1.length c5)] (y4.1 : List Int)⟩ : DI)]) (by simpa using hN4.1) (ps1 hl5 ps0) (by simpa using hN4.2)
    have H := H.lend 0 rfl
    refine pRun_ok (tb := tab) (n := 93) tabOk 5 _ _ hf rfl rfl fun a hf => ?_
    have hf := hf.prune [0, 3, 4, 5, 6, 7] rfl
    refine wl_end ?_
    refine then_n ?_
    refine sq ?_
    refine sq ?_
    obtain ⟨c6, hGc6, hF⟩ := bind_some hF
    refine mid (fun a w => Fr a 93 [(0, (.slice A aStream.length c)), (3, (.slice A3 y2.1.length c3)), (4, (.bool y2.2)), (5, (.slice A4 y3.length c4)), (6, (.slice A5 y4.1.length c5)), (7, (.bool y4.2)), (37, (.bool c6))] ∧ Mem ⟨w0, []⟩ S [] [] [⟨F7, MP.own F7 [(.slice A5 y4.1.length c5)] (y4.1 : List Int)⟩, ⟨F5, MP.own F5 [(.slice A4 y3.length c4)] (y3 : List Int)⟩, ⟨F3, MP.own F3 [(.slice A3 y2.1.length c3)] (y2.1 : List Int)⟩] [(true, MP.val [(.slice A5 y4.1.length c5)] (y4.1 : List Int)), (true, MP.val [(.slice A4 y3.length c4)] (y3 : List Int)), (true, MP.val [(.slice A3 y2.1.length c3)] (y2.1 : List Int)), (false, MP.val [(.slice A aStream.length c)] (aStream : List Int))] w) ?_ ?_
    · refine reg ?_
      refine pRun_ok (tb := tab) (n := 93) tabOk 2 _ _ hf rfl rfl fun a hf => ?_
      obtain ⟨y5, hy5, hGc6⟩ := bind_some hGc6
      refine wl0 rfl (op_call hf TF.cl43 rfl (by decide) (laws_eqIntS_ok (S := fun _ => True) (mk_list (rep_true (α := List Int) (H.get 0 rfl))) (mk_list (rep_true (α := List Int) (H.get 2 rfl))) hy5) fun v9 w a hp11 hf => ?_)
      obtain ⟨hb5, hp11⟩ := hp11
      obtain rfl := VR_bool hp11
      have H := H.keep hb5
      refine pRun_ok (tb := tab) (n := 93) tabOk 2 _ _ hf rfl rfl fun a hf => ?_
      refine (Bool.eq_false_or_eq_true (!y5)).elim (fun hc2 => ?_) (fun hc2 => ?_)
      · rw [if_pos hc2] at hGc6
        have hf := hf.lit 33 rfl hc2
        refine pRun_ok (tb := tab) (n := 93) tabOk 4 _ _ hf rfl rfl fun a hf => ?_
        obtain rfl := Option.some.inj hGc6
        have hf := hf.prune [0, 3, 4, 5, 6, 7, 37] rfl
        have H := H.let [] [] [true, true, true, false] [0, 1, 2, 4]
        exact wl_end ⟨hf, H⟩
      · rw [if_neg (nt hc2)] at hGc6
        have hf := hf.lit 33 rfl hc2
        refine pRun_ok (tb := tab) (n := 93) tabOk 4 _ _ hf rfl rfl fun a hf => ?_
        obtain rfl := Option.some.inj hGc6
        have hf := hf.prune [0, 3, 4, 5, 6, 7, 37] rfl
        have H := H.let [] [] [true, true, true, false] [0, 1, 2, 4]
        exact wl_end ⟨hf, H⟩
    rintro a w ⟨hf, H⟩
    refine then_n ?_
    refine (Bool.eq_false_or_eq_true (c6)).elim (fun hc3 => ?_) (fun hc3 => ?_)
    · rw [if_pos hc3] at hF
      refine cd_t hf rfl hc3 ?_
      refine sq ?_
      refine reg ?_
      refine pRun_ok (tb := tab) (n := 93) tabOk 1 _ _ hf rfl rfl fun a hf => ?_
      refine wl_end ?_
      refine then_n ?_
      refine wp_ret (then_r (?_))
      obtain rfl := Option.some.inj hF
      refine ret_1 (fn := Try.f16) (r := .tmp 2) hf rfl (rv_tmp hf rfl) ?_
      exact ⟨_, rfl, H.bel, mk_bool⟩
    · rw [if_neg (nt hc3)] at hF
      refine cd_f hf rfl hc3 ?_
      refine wp_skip ?_
      refine then_n ?_
      refine sq ?_
      refine sq ?_
      refine reg ?_
      refine pRun_ok (tb := tab) (n := 93) tabOk 2 _ _ hf rfl rfl fun a hf => ?_
      obtain ⟨y6, hy6, hF⟩ := bind_some hF
      refine wl0 rfl (op_call hf TF.cl41 rfl (by decide) (laws_toIntS_ok (S := fun _ => True) (mk_list (rep_true (α := List Int) (H.get 3 rfl))) hy6) fun v10 w a hp12 hf => ?_)
      obtain ⟨hb6, F9, hp13, hN5⟩ := hp12
      obtain ⟨A6, c7, rfl, hl6⟩ := VO_list hp13
      have H := H.addOwn hb6 (X := [(⟨F9, MP.own F9 [(.slice A6 y6.length c7)] (y6 : List Int)⟩ : DI)]) (by simpa using hN5.1) (ps1 hl6 ps0) (by simpa using hN5.2)
      have H := H.lend 0 rfl
      obtain ⟨y7, hy7, hF⟩ := bind_some hF
      refine wl0 rfl (op_call hf TF.cl43 rfl (by decide) (laws_eqIntS_ok (S := fun _ => True) (mk_list (rep_true (α := List Int) (H.get 2 rfl))) (mk_list (rep_true (α := List Int) (H.get 0 rfl))) hy7) fun v11 w a hp14 hf => ?_)
      obtain ⟨hb7, hp14⟩ := hp14
      obtain rfl := VR_bool hp14
      have H := H.keep hb7
      refine pRun_ok (tb := tab) (n := 93) tabOk 1 _ _ hf rfl rfl fun a hf => ?_
      refine wl_end ?_
      refine then_n ?_
      refine (Bool.eq_false_or_eq_true (!y7)).elim (fun hc4 => ?_) (fun hc4 => ?_)
      · rw [if_pos hc4] at hF
        refine cd_t hf rfl hc4 ?_
        refine sq ?_
        refine reg ?_
        refine pRun_ok (tb := tab) (n := 93) tabOk 1 _ _ hf rfl rfl fun a hf => ?_
        refine wl_end ?_
        refine then_n ?_
        refine wp_ret (then_r (?_))
        obtain rfl := Option.some.inj hF
        refine ret_1 (fn := Try.f16) (r := .tmp 2) hf rfl (rv_tmp hf rfl) ?_
        exact ⟨_, rfl, H.bel, mk_bool⟩
      · rw [if_neg (nt hc4)] at hF
        refine cd_f hf rfl hc4 ?_
        refine wp_skip ?_
        refine then_n ?_
        refine sq ?_
        refine reg ?_
        refine pRun_ok (tb := tab) (n := 93) tabOk 1 _ _ hf rfl rfl fun a hf => ?_
        refine wl_end ?_
        refine then_n ?_
        refine sq ?_
        refine reg ?_
        refine pRun_ok (tb := tab) (n := 93) tabOk 2 _ _ hf rfl rfl fun a hf => ?_
        have H := H.frontD 2 rfl
        obtain ⟨y8, hy8, hF⟩ := bind_some hF
        refine wl0 rfl (op_call hf TF.cl44 rfl (by decide) (laws_markIntS_ok (S := fun _ => True) (F := F5) (cs := [(.slice A4 y3.length c4)]) (H.ownAt 0 rfl) H.diNd.1 mk_int hy8) fun v12 w a hp15 hf => ?_)
        obtain ⟨hch, hv, F11, ho, hbk⟩ := hp15
        obtain rfl := VR_int hv
        have H := H.wrote rfl hch ho hbk
        have H := H.arg (p := MP.val [(.slice A aStream.length c)] aStream) hl
        have H := H.lend 0 rfl
        have H := H.lend 1 rfl
        have H := H.lend 2 rfl
        have H := H.lend 3 rfl
        refine pRun_ok (tb := tab) (n := 93) tabOk 1 _ _ hf rfl rfl fun a hf => ?_
        refine wl_end ?_
        refine then_n ?_
        refine sq ?_
        refine sq ?_
        obtain ⟨c8, hGc8, hF⟩ := bind_some hF
        refine mid (fun a w => Fr a 93 [(0, (.slice A aStream.length c)), (3, (.slice A3 y2.1.length c3)), (4, (.bool y2.2)), (6, (.slice A5 y4.1.length c5)), (58, (.bool c8))] ∧ Mem ⟨w0, []⟩ S [] [] [⟨F7, MP.own F7 [(.slice A5 y4.1.length c5)] (y4.1 : List Int)⟩, ⟨F3, MP.own F3 [(.slice A3 y2.1.length c3)] (y2.1 : List Int)⟩] [(true, MP.val [(.slice A3 y2.1.length c3)] (y2.1 : List Int)), (true, MP.val [(.slice A5 y4.1.length c5)] (y4.1 : List Int)), (false, MP.val [(.slice A aStream.length c)] (aStream : List Int))] w) ?_ ?_
        · refine reg ?_
          refine pRun_ok (tb := tab) (n := 93) tabOk 3 _ _ hf rfl rfl fun a hf => ?_
          refine (Bool.eq_false_or_eq_true (decide (y8.1 < 0))).elim (fun hc5 => ?_) (fun hc5 => ?_)
          · rw [if_pos hc5] at hGc8
            have hf := hf.lit 48 rfl hc5
            refine pRun_ok (tb := tab) (n := 93) tabOk 10 _ _ hf rfl rfl fun a hf => ?_
            obtain rfl := Option.some.inj hGc8
            have hf := hf.prune [0, 3, 4, 6, 58] rfl
            have H := H.let [] [] [false, false, true, true] [0, 1, 4]
            exact wl_end ⟨hf, H⟩
          · rw [if_neg (nt hc5)] at hGc8
            have hf := hf.lit 48 rfl hc5
            refine pRun_ok (tb := tab) (n := 93) tabOk 2 _ _ hf rfl rfl fun a hf => ?_
            obtain ⟨y9, hy9, hGc8⟩ := bind_some hGc8
            refine wlg hf rfl rfl rfl (op_call hf TF.cl43 rfl (by decide) (laws_eqIntS_ok (S := fun _ => True) (mk_list (rep_true (α := List Int) (H.get 1 rfl))) (mk_list (rep_true (α := List Int) (H.get 0 rfl))) hy9) fun v13 w a hp16 hf => ?_)
            obtain ⟨hb8, hp16⟩ := hp16
            obtain rfl := VR_bool hp16
            have H := H.keep hb8
            refine pRun_ok (tb := tab) (n := 93) tabOk 3 _ _ hf rfl rfl fun a hf => ?_
            refine (Bool.eq_false_or_eq_true (!y9)).elim (fun hc6 => ?_) (fun hc6 => ?_)
            · rw [if_pos hc6] at hGc8
              have hf := hf.lit 54 rfl hc6
              refine pRun_ok (tb := tab) (n := 93) tabOk 4 _ _ hf rfl rfl fun a hf => ?_
              obtain rfl := Option.some.inj hGc8
              have hf := hf.prune [0, 3, 4, 6, 58] rfl
              have H := H.let [] [] [false, false, true, true] [0, 1, 4]
              exact wl_end ⟨hf, H⟩
            · rw [if_neg (nt hc6)] at hGc8
              have hf := hf.lit 54 rfl hc6
              refine pRun_ok (tb := tab) (n := 93) tabOk 4 _ _ hf rfl rfl fun a hf => ?_
              obtain rfl := Option.some.inj hGc8
              have hf := hf.prune [0, 3, 4, 6, 58] rfl
              have H := H.let [] [] [false, false, true, true] [0, 1, 4]
              exact wl_end ⟨hf, H⟩
        rintro a w ⟨hf, H⟩
        refine then_n ?_
        refine (Bool.eq_false_or_eq_true (c8)).elim (fun hc7 => ?_) (fun hc7 => ?_)
        · rw [if_pos hc7] at hF
          refine cd_t hf rfl hc7 ?_
          refine sq ?_
          refine reg ?_
          refine pRun_ok (tb := tab) (n := 93) tabOk 1 _ _ hf rfl rfl fun a hf => ?_
          refine wl_end ?_
          refine then_n ?_
          refine wp_ret (then_r (?_))
          obtain rfl := Option.some.inj hF
          refine ret_1 (fn := Try.f16) (r := .tmp 2) hf rfl (rv_tmp hf rfl) ?_
          exact ⟨_, rfl, H.bel, mk_bool⟩
        · rw [if_neg (nt hc7)] at hF
          refine cd_f hf rfl hc7 ?_
          refine wp_skip ?_
          refine then_n ?_
          refine sq ?_
          refine reg ?_
          refine pRun_ok (tb := tab) (n := 93) tabOk 1 _ _ hf rfl rfl fun a hf => ?_
          refine wl_end ?_
          refine then_n ?_
          refine sq ?_
          refine reg ?_
          refine pRun_ok (tb := tab) (n := 93) tabOk 2 _ _ hf rfl rfl fun a hf => ?_
          obtain ⟨y10, hy10, hF⟩ := bind_some hF
          refine wl0 rfl (op_call hf TF.cl44 rfl (by decide) (laws_markIntS_ok (S := fun _ => True) (F := F7) (cs := [(.slice A5 y4.1.length c5)]) (H.ownAt 0 rfl) H.diNd.1 mk_int hy10) fun v14 w a hp17 hf => ?_)
          obtain ⟨hch2, hv2, F12, ho2, hbk2⟩ := hp17
          obtain rfl := VR_int hv2
          have H := H.wrote rfl hch2 ho2 hbk2
          have H := H.arg (p := MP.val [(.slice A aStream.length c)] aStream) hl
          have H := H.lend 0 rfl
          have H := H.lend 1 rfl
          refine pRun_ok (tb := tab) (n := 93) tabOk 1 _ _ hf rfl rfl fun a hf => ?_
          refine wl_end ?_
          refine then_n ?_
          refine sq ?_
          refine reg ?_
          refine pRun_ok (tb := tab) (n := 93) tabOk 1 _ _ hf rfl rfl fun a hf => ?_
          refine wl_end ?_
          refine then_n ?_
          refine sq ?_
          refine reg ?_
          refine pRun_ok (tb := tab) (n := 93) tabOk 2 _ _ hf rfl rfl fun a hf => ?_
          obtain ⟨y11, hy11, hF⟩ := bind_some hF
          refine wl0 rfl (op_call hf TF.cl45 rfl (by decide) (laws_heldIntS_ok (S := fun _ => True) (mk_list (rep_true (α := List Int) (H.get 1 rfl))) mk_int hy11) fun v15 w a hp18 hf => ?_)
          obtain ⟨hb9, hp18⟩ := hp18
          obtain rfl := VR_int hp18
          have H := H.keep hb9
          refine pRun_ok (tb := tab) (n := 93) tabOk 1 _ _ hf rfl rfl fun a hf => ?_
          refine wl_end ?_
          refine then_n ?_
          refine sq ?_
          refine sq ?_
          refine reg ?_
          refine pRun_ok (tb := tab) (n := 93) tabOk 2 _ _ hf rfl rfl fun a hf => ?_
          refine wl_end ?_
          refine then_n ?_
          refine (Bool.eq_false_or_eq_true (decide (y11 < 0))).elim (fun hc8 => ?_) (fun hc8 => ?_)
          · rw [if_pos hc8] at hF
            refine cd_t hf rfl hc8 ?_
            refine sq ?_
            refine reg ?_
            refine pRun_ok (tb := tab) (n := 93) tabOk 1 _ _ hf rfl rfl fun a hf => ?_
            have hf := hf.prune [2] rfl
            refine wl_end ?_
            refine then_n ?_
            refine wp_ret (then_r (?_))
            obtain rfl := Option.some.inj hF
            refine ret_1 (fn := Try.f16) (r := .tmp 2) hf rfl (rv_tmp hf rfl) ?_
            exact ⟨_, rfl, H.bel, mk_bool⟩
          · rw [if_neg (nt hc8)] at hF
            refine cd_f hf rfl hc8 ?_
            refine wp_skip ?_
            refine then_n ?_
            refine sq ?_
            refine sq ?_
            refine reg ?_
            refine pRun_ok (tb := tab) (n := 93) tabOk 3 _ _ hf rfl rfl fun a hf => ?_
            refine wl_end ?_
            refine then_n ?_
            refine (Bool.eq_false_or_eq_true (y11 != y10.1)).elim (fun hc9 => ?_) (fun hc9 => ?_)
            · rw [if_pos hc9] at hF
              refine cd_t hf rfl hc9 ?_
              refine sq ?_
              refine reg ?_
              refine pRun_ok (tb := tab) (n := 93) tabOk 1 _ _ hf rfl rfl fun a hf => ?_
              have hf := hf.prune [2] rfl
              refine wl_end ?_
              refine then_n ?_
              refine wp_ret (then_r (?_))
              obtain rfl := Option.some.inj hF
              refine ret_1 (fn := Try.f16) (r := .tmp 2) hf rfl (rv_tmp hf rfl) ?_
              exact ⟨_, rfl, H.bel, mk_bool⟩
            · rw [if_neg (nt hc9)] at hF
              refine cd_f hf rfl hc9 ?_
              refine wp_skip ?_
              refine then_n ?_
              refine sq ?_
              refine reg ?_
              refine pRun_ok (tb := tab) (n := 93) tabOk 1 _ _ hf rfl rfl fun a hf => ?_
              obtain ⟨y12, hy12, hF⟩ := bind_some hF
              refine wl0 rfl (op_call hf TF.cl41 rfl (by decide) (laws_toIntS_ok (S := fun _ => True) (mk_list (rep_true (α := List Int) (H.get 2 rfl))) hy12) fun v16 w a hp19 hf => ?_)
              obtain ⟨hb10, F13, hp20, hN6⟩ := hp19
              obtain ⟨A7, c9, rfl, hl7⟩ := VO_list hp20
              have H := H.addOwn hb10 (X := [(⟨F13, MP.own F13 [(.slice A7 y12.length c9)] (y12 : List Int)⟩ : DI)]) (by simpa using hN6.1) (ps1 hl7 ps0) (by simpa using hN6.2)
              have H := H.lend 0 rfl
              obtain ⟨y13, hy13, hF⟩ := bind_some hF
              refine wl0 rfl (op_call hf TF.cl69 rfl (by decide) (impl_FindFrames_ok (S := fun _ => True) (mk_list (rep_true (α := List Int) (H.get 0 rfl))) hy13) fun v17 w a hp21 hf => ?_)
              obtain ⟨hb11, F15, v18, v19, rfl, hp22, hp23, hN7⟩ := hp21
              obtain ⟨A8, c10, rfl, hl8⟩ := VO_list hp22
              obtain rfl := VR_bool hp23
              have H := H.addOwn hb11 (X := [(⟨F15, MP.own F15 [(.slice A8 y13.1.length c10)] (y13.1 : List Int)⟩ : DI)]) (by simpa using hN7.1) (ps1 hl8 ps0) (by simpa using hN7.2)
              have H := H.lend 0 rfl
              refine pRun_ok (tb := tab) (n := 93) tabOk 5 _ _ hf rfl rfl fun a hf => ?_
              have hf := hf.prune [3, 4, 6, 9, 11, 12] rfl
              refine wl_end ?_
              refine then_n ?_
              refine sq ?_
              refine sq ?_
              obtain ⟨c11, hGc11, hF⟩ := bind_some hF
              refine mid (fun a w => Fr a 93 [(6, (.slice A5 y4.1.length c5)), (9, (.int .i64 y10.1)), (84, (.bool c11))] ∧ Mem ⟨w0, []⟩ S [] [] [⟨F12, MP.own F12 [(.slice A5 y4.1.length c5)] (y10.2 : List Int)⟩] [(true, MP.val [(.slice A5 y4.1.length c5)] (y10.2 : List Int))] w) ?_ ?_
              · refine reg ?_
                refine pRun_ok (tb := tab) (n := 93) tabOk 2 _ _ hf rfl rfl fun a hf => ?_
                obtain ⟨y14, hy14, hGc11⟩ := bind_some hGc11
                refine wl0 rfl (op_call hf TF.cl43 rfl (by decide) (laws_eqIntS_ok (S := fun _ => True) (mk_list (rep_true (α := List Int) (H.get 0 rfl))) (mk_list (rep_true (α := List Int) (H.get 2 rfl))) hy14) fun v20 w a hp24 hf => ?_)
                obtain ⟨hb12, hp24⟩ := hp24
                obtain rfl := VR_bool hp24
                have H := H.keep hb12
                refine pRun_ok (tb := tab) (n := 93) tabOk 2 _ _ hf rfl rfl fun a hf => ?_
                refine (Bool.eq_false_or_eq_true (!y14)).elim (fun hc10 => ?_) (fun hc10 => ?_)
                · rw [if_pos hc10] at hGc11
                  have hf := hf.lit 80 rfl hc10
                  refine pRun_ok (tb := tab) (n := 93) tabOk 4 _ _ hf rfl rfl fun a hf => ?_
                  obtain rfl := Option.some.inj hGc11
                  have hf := hf.prune [6, 9, 84] rfl
                  have H := H.let [] [] [false, false, true, false] [3]
                  exact wl_end ⟨hf, H⟩
                · rw [if_neg (nt hc10)] at hGc11
                  have hf := hf.lit 80 rfl hc10
                  refine pRun_ok (tb := tab) (n := 93) tabOk 4 _ _ hf rfl rfl fun a hf => ?_
                  obtain rfl := Option.some.inj hGc11
                  have hf := hf.prune [6, 9, 84] rfl
                  have H := H.let [] [] [false, false, true, false] [3]
                  exact wl_end ⟨hf, H⟩
              rintro a w ⟨hf, H⟩
              refine then_n ?_
              refine (Bool.eq_false_or_eq_true (c11)).elim (fun hc11 => ?_) (fun hc11 => ?_)
              · rw [if_pos hc11] at hF
                refine cd_t hf rfl hc11 ?_
                refine sq ?_
                refine reg ?_
                refine pRun_ok (tb := tab) (n := 93) tabOk 1 _ _ hf rfl rfl fun a hf => ?_
                refine wl_end ?_
                refine then_n ?_
                refine wp_ret (then_r (?_))
                obtain rfl := Option.some.inj hF
                refine ret_1 (fn := Try.f16) (r := .tmp 2) hf rfl (rv_tmp hf rfl) ?_
                exact ⟨_, rfl, H.bel, mk_bool⟩
              · rw [if_neg (nt hc11)] at hF
                refine cd_f hf rfl hc11 ?_
                refine wp_skip ?_
                refine then_n ?_
                refine sq ?_
                refine reg ?_
                refine pRun_ok (tb := tab) (n := 93) tabOk 1 _ _ hf rfl rfl fun a hf => ?_
                refine wl_end ?_
                refine then_n ?_
                refine sq ?_
                refine reg ?_
                refine pRun_ok (tb := tab) (n := 93) tabOk 2 _ _ hf rfl rfl fun a hf => ?_
                obtain ⟨y15, hy15, hF⟩ := bind_some hF
                refine wl0 rfl (op_call hf TF.cl45 rfl (by decide) (laws_heldIntS_ok (S := fun _ => True) (mk_list (rep_true (α := List Int) (H.get 0 rfl))) mk_int hy15) fun v21 w a hp25 hf => ?_)
                obtain ⟨hb13, hp25⟩ := hp25
                obtain rfl := VR_int hp25
                have H := H.keep hb13
                refine pRun_ok (tb := tab) (n := 93) tabOk 1 _ _ hf rfl rfl fun a hf => ?_
                refine wl_end ?_
                refine then_n ?_
                refine sq ?_
                refine sq ?_
                refine reg ?_
                refine pRun_ok (tb := tab) (n := 93) tabOk 2 _ _ hf rfl rfl fun a hf => ?_
                refine wl_end ?_
                refine then_n ?_
                refine (Bool.eq_false_or_eq_true (decide (y15 < 0))).elim (fun hc12 => ?_) (fun hc12 => ?_)
                · rw [if_pos hc12] at hF
                  refine cd_t hf rfl hc12 ?_
                  refine sq ?_
                  refine reg ?_
                  refine pRun_ok (tb := tab) (n := 93) tabOk 1 _ _ hf rfl rfl fun a hf => ?_
                  refine wl_end ?_
                  refine then_n ?_
                  refine wp_ret (then_r (?_))
                  obtain rfl := Option.some.inj hF
                  refine ret_1 (fn := Try.f16) (r := .tmp 2) hf rfl (rv_tmp hf rfl) ?_
                  exact ⟨_, rfl, H.bel, mk_bool⟩
                · rw [if_neg (nt hc12)] at hF
                  refine cd_f hf rfl hc12 ?_
                  refine wp_skip ?_
                  refine then_n ?_
                  refine sq ?_
                  refine sq ?_
                  refine reg ?_
                  refine pRun_ok (tb := tab) (n := 93) tabOk 3 _ _ hf rfl rfl fun a hf => ?_
                  refine wl_end ?_
                  refine then_n ?_
                  refine (Bool.eq_false_or_eq_true (y15 != y10.1)).elim (fun hc13 => ?_) (fun hc13 => ?_)
                  · rw [if_pos hc13] at hF
                    refine cd_t hf rfl hc13 ?_
                    refine sq ?_
                    refine reg ?_
                    refine pRun_ok (tb := tab) (n := 93) tabOk 1 _ _ hf rfl rfl fun a hf => ?_
                    refine wl_end ?_
                    refine then_n ?_
                    refine wp_ret (then_r (?_))
                    obtain rfl := Option.some.inj hF
                    refine ret_1 (fn := Try.f16) (r := .tmp 2) hf rfl (rv_tmp hf rfl) ?_
                    exact ⟨_, rfl, H.bel, mk_bool⟩
                  · rw [if_neg (nt hc13)] at hF
                    refine cd_f hf rfl hc13 ?_
                    refine wp_skip ?_
                    refine then_n ?_
                    refine sq ?_
                    refine reg ?_
                    refine pRun_ok (tb := tab) (n := 93) tabOk 1 _ _ hf rfl rfl fun a hf => ?_
                    refine wl_end ?_
                    refine then_n ?_
                    refine wp_ret (?_)
                    obtain rfl := Option.some.inj hF
                    refine ret_1 (fn := Try.f16) (r := .tmp 2) hf rfl (rv_tmp hf rfl) ?_
                    exact ⟨_, rfl, H.bel, mk_bool⟩
end AT
