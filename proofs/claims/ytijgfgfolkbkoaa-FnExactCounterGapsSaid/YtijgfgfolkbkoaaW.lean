/- The Go functions do what is told of them, by program (gen.py). -/
import Derived.Test.YtijgfgfolkbkoaaT
set_option linter.unusedVariables false
set_option linter.unusedSimpArgs false
set_option maxRecDepth 100000
namespace AT
open Go Go.RowKit Go.Proofs

/- loop.example/g00897/laws.szIntS -/
set_option maxHeartbeats 1000000 in
theorem laws_szIntS_ok {fu : Nat} {w0 : World} {S : Nat → Prop} {v0_ : Value} {v1_ : Value} {a' : List Int} {left : Int} {r : Int} (h0 : VR w0 S v0_ a') (h1 : VR w0 S v1_ left) (hF : laws_szIntS fu a' left = some r) :
    Calls Try.prog 109 [v0_, v1_].toArray w0 fun e w' => ∃ v, e = .returned v ∧ (Below w0.heap.size w0 w' ∧ VR w' (St ⟨w0, []⟩ S [] [] [] true) v r) := by
  obtain ⟨A, c, rfl, hl⟩ := VR_list h0
  obtain rfl := VR_int h1
  have H := Mem.start ⟨w0, []⟩ S
  have H := H.pushArg (MP.val [(.slice A a'.length c)] a') hl
  refine enter Try.func109 rfl rfl (nle rfl) rfl fun a hf => ?_
  rw [laws_szIntS] at hF
  refine sq ?_
  refine reg ?_
  refine pRun_ok (tb := tab) (n := 12) tabOk 1 _ _ hf rfl rfl fun a hf => ?_
  refine wl_end ?_
  refine then_n ?_
  refine sq ?_
  refine reg ?_
  refine pRun_ok (tb := tab) (n := 12) tabOk 5 _ _ hf rfl rfl fun a hf => ?_
  refine wl_end ?_
  refine then_n ?_
  refine sq ?_
  refine sq ?_
  refine reg ?_
  refine pRun_ok (tb := tab) (n := 12) tabOk 2 _ _ hf rfl rfl fun a hf => ?_
  refine wl_end ?_
  refine then_n ?_
  refine (Bool.eq_false_or_eq_true (decide ((w64 (left - (a'.length : Int))) < 0))).elim (fun hc => ?_) (fun hc => ?_)
  · rw [if_pos hc] at hF
    refine cd_t hf rfl hc ?_
    refine sq ?_
    refine reg ?_
    refine pRun_ok (tb := tab) (n := 12) tabOk 1 _ _ hf rfl rfl fun a hf => ?_
    refine wl_end ?_
    refine then_n ?_
    refine wp_ret (then_r (?_))
    obtain rfl := Option.some.inj hF
    refine ret_1 (fn := Try.f109) (r := .tmp 4) hf rfl (rv_tmp hf rfl) ?_
    exact ⟨_, rfl, H.bel, mk_int⟩
  · rw [if_neg (nt hc)] at hF
    refine cd_f hf rfl hc ?_
    refine wp_skip ?_
    refine then_n ?_
    refine sq ?_
    refine reg ?_
    refine pRun_ok (tb := tab) (n := 12) tabOk 2 _ _ hf rfl rfl fun a hf => ?_
    refine wl_end ?_
    refine then_n ?_
    refine wp_ret (?_)
    obtain rfl := Option.some.inj hF
    refine ret_1 (fn := Try.f109) (r := .tmp 4) hf rfl (rv_tmp hf rfl) ?_
    exact ⟨_, rfl, H.bel, mk_int⟩

/- loop.example/g00897/laws.szFrame -/
set_option maxHeartbeats 1000000 in
theorem laws_szFrame_ok {fu : Nat} {w0 : World} {S : Nat → Prop} {v0_ : Value} {v1_ : Value} {a' : Frame} {left : Int} {r : Int} (h0 : VR w0 S v0_ a') (h1 : VR w0 S v1_ left) (hF : laws_szFrame fu a' left = some r) :
    Calls Try.prog 35 [v0_, v1_].toArray w0 fun e w' => ∃ v, e = .returned v ∧ (Below w0.heap.size w0 w' ∧ VR w' (St ⟨w0, []⟩ S [] [] [] true) v r) := by
  obtain ⟨A, c, rfl, hl⟩ := Frame_open h0
  obtain rfl := VR_int h1
  have H := Mem.start ⟨w0, []⟩ S
  have H := H.pushArg (MP.val [(.slice A a'.Payload.length c)] a'.Payload) hl
  refine enter Try.func35 rfl rfl (nle rfl) rfl fun a hf => ?_
  rw [laws_szFrame] at hF
  refine sq ?_
  refine reg ?_
  refine wl0 rfl (op_box hf H rfl rfl (by decide) fun b' a w hf H => ?_)
  refine pRun_ok (tb := tab) (n := 12) tabOk 1 _ _ hf rfl rfl fun a hf => ?_
  refine wl_end ?_
  refine then_n ?_
  refine sq ?_
  refine reg ?_
  refine pRun_ok (tb := tab) (n := 12) tabOk 1 _ _ hf rfl rfl fun a hf => ?_
  refine wl0 rfl (op_q hf (rq_loadB hf H TF.ls35 0 rfl rfl rfl) rfl (by decide) fun a hf => ?_)
  refine pRun_ok (tb := tab) (n := 12) tabOk 1 _ _ hf rfl rfl fun a hf => ?_
  obtain ⟨y, hy, hF⟩ := bind_some hF
  refine wl0 rfl (op_call hf TF.cl109 rfl (by decide) (laws_szIntS_ok (S := fun _ => True) (mk_list (rep_true (α := List Int) (H.get 0 rfl))) mk_int hy) fun v w a hp hf => ?_)
  obtain ⟨hb, hp⟩ := hp
  obtain rfl := VR_int hp
  have H := H.keep hb
  refine pRun_ok (tb := tab) (n := 12) tabOk 1 _ _ hf rfl rfl fun a hf => ?_
  refine wl_end ?_
  refine then_n ?_
  refine sq ?_
  refine sq ?_
  refine reg ?_
  refine pRun_ok (tb := tab) (n := 12) tabOk 2 _ _ hf rfl rfl fun a hf => ?_
  refine wl_end ?_
  refine then_n ?_
  refine (Bool.eq_false_or_eq_true (decide (y < 0))).elim (fun hc => ?_) (fun hc => ?_)
  · rw [if_pos hc] at hF
    refine cd_t hf rfl hc ?_
    refine sq ?_
    refine reg ?_
    refine pRun_ok (tb := tab) (n := 12) tabOk 1 _ _ hf rfl rfl fun a hf => ?_
    refine wl_end ?_
    refine then_n ?_
    refine wp_ret (then_r (?_))
    obtain rfl := Option.some.inj hF
    refine ret_1 (fn := Try.f35) (r := .tmp 4) hf rfl (rv_tmp hf rfl) ?_
    exact ⟨_, rfl, H.bel, mk_int⟩
  · rw [if_neg (nt hc)] at hF
    refine cd_f hf rfl hc ?_
    refine wp_skip ?_
    refine then_n ?_
    refine sq ?_
    refine reg ?_
    refine pRun_ok (tb := tab) (n := 12) tabOk 2 _ _ hf rfl rfl fun a hf => ?_
    refine wl_end ?_
    refine then_n ?_
    refine wp_ret (?_)
    obtain rfl := Option.some.inj hF
    refine ret_1 (fn := Try.f35) (r := .tmp 4) hf rfl (rv_tmp hf rfl) ?_
    exact ⟨_, rfl, H.bel, mk_int⟩

/- loop.example/g00897/laws.szFrameS -/
set_option maxHeartbeats 1000000 in
theorem laws_szFrameS_ok {fu : Nat} {w0 : World} {S : Nat → Prop} {v0_ : Value} {v1_ : Value} {a' : List Frame} {left : Int} {r : Int} (h0 : VR w0 S v0_ a') (h1 : VR w0 S v1_ left) (hF : laws_szFrameS fu a' left = some r) :
    Calls Try.prog 70 [v0_, v1_].toArray w0 fun e w' => ∃ v, e = .returned v ∧ (Below w0.heap.size w0 w' ∧ VR w' (St ⟨w0, []⟩ S [] [] [] true) v r) := by
  obtain ⟨A, c, rfl, hl⟩ := VR_list h0
  obtain rfl := VR_int h1
  have H := Mem.start ⟨w0, []⟩ S
  have H := H.pushArg (MP.val [(.slice A a'.length c)] a') hl
  refine enter Try.func70 rfl rfl (nle rfl) rfl fun a hf => ?_
  rw [laws_szFrameS] at hF
  refine sq ?_
  refine reg ?_
  refine pRun_ok (tb := tab) (n := 27) tabOk 1 _ _ hf rfl rfl fun a hf => ?_
  refine wl_end ?_
  refine then_n ?_
  refine sq ?_
  refine reg ?_
  refine pRun_ok (tb := tab) (n := 27) tabOk 5 _ _ hf rfl rfl fun a hf => ?_
  refine wl_end ?_
  refine then_n ?_
  refine sq ?_
  refine sq ?_
  refine reg ?_
  refine pRun_ok (tb := tab) (n := 27) tabOk 2 _ _ hf rfl rfl fun a hf => ?_
  refine wl_end ?_
  refine then_n ?_
  refine (Bool.eq_false_or_eq_true (decide ((w64 (left - (a'.length : Int))) < 0))).elim (fun hc => ?_) (fun hc => ?_)
  · rw [if_pos hc] at hF
    refine cd_t hf rfl hc ?_
    refine sq ?_
    refine reg ?_
    refine pRun_ok (tb := tab) (n := 27) tabOk 1 _ _ hf rfl rfl fun a hf => ?_
    refine wl_end ?_
    refine then_n ?_
    refine wp_ret (then_r (?_))
    obtain rfl := Option.some.inj hF
    refine ret_1 (fn := Try.f70) (r := .tmp 4) hf rfl (rv_tmp hf rfl) ?_
    exact ⟨_, rfl, H.bel, mk_int⟩
  · rw [if_neg (nt hc)] at hF
    refine cd_f hf rfl hc ?_
    refine wp_skip ?_
    refine then_n ?_
    refine sq ?_
    refine sq ?_
    refine reg ?_
    refine pRun_ok (tb := tab) (n := 27) tabOk 1 _ _ hf rfl rfl fun a hf => ?_
    refine wl_end ?_
    refine then_n ?_
    obtain ⟨out', hB1, hF⟩ := bind_some hF
    have hf := hf.prune [0, 1, 5] rfl
    have H := H.let [] [] [] [0]
    have hI : (fun (s : Int × Int) (a : Act) (w : World) => match s with | (left2, i) => Fr a 27 [(0, (.slice A a'.length c)), (1, (.int .i64 left2)), (5, (.int .i64 i))] ∧ Mem ⟨w0, []⟩ S [] [] [] [(false, MP.val [(.slice A a'.length c)] (a' : List Frame))] w) (w64 (left - (a'.length : Int)), 0) a w0 := ⟨hf, H⟩
    refine mid (fun a w => ∃ s : Int × Int, out' = Out.next s ∧ (fun (s : Int × Int) (a : Act) (w : World) => match s with | (left2, i) => Fr a 27 [(0, (.slice A a'.length c)), (1, (.int .i64 left2)), (5, (.int .i64 i))] ∧ Mem ⟨w0, []⟩ S [] [] [] [(false, MP.val [(.slice A a'.length c)] (a' : List Frame))] w) s a w) ?_ ?_
    · refine wp_block ?_
      refine loop_rule (fun k (s : Int × Int) => laws_szFrameS_L1 fu a' k s.1 s.2 = some out') (fun (s : Int × Int) (a : Act) (w : World) => match s with | (left2, i) => Fr a 27 [(0, (.slice A a'.length c)), (1, (.int .i64 left2)), (5, (.int .i64 i))] ∧ Mem ⟨w0, []⟩ S [] [] [] [(false, MP.val [(.slice A a'.length c)] (a' : List Frame))] w) (fun s h => by cases h) ?_ fu (w64 (left - (a'.length : Int)), 0) a w0 hB1 hI
      rintro fk ⟨left2, i⟩ a w hR1 hI
      replace hR1 : laws_szFrameS_L1 fu a' (fk + 1) left2 i = some out' := hR1
      rw [laws_szFrameS_L1] at hR1
      obtain ⟨hf, H⟩ := hI
      refine sq ?_
      refine sq ?_
      refine reg ?_
      refine pRun_ok (tb := tab) (n := 27) tabOk 4 _ _ hf rfl rfl fun a hf => ?_
      refine wl_end ?_
      refine then_n ?_
      refine (Bool.eq_false_or_eq_true (decide (i < (a'.length : Int)))).elim (fun hc2 => ?_) (fun hc2 => ?_)
      · rw [if_pos hc2] at hR1
        refine cd_t hf rfl hc2 ?_
        refine wp_skip ?_
        refine then_n ?_
        refine sq ?_
        refine wp_block ?_
        refine sq ?_
        refine reg ?_
        refine pRun_ok (tb := tab) (n := 27) tabOk 2 _ _ hf rfl rfl fun a hf => ?_
        obtain ⟨e, he, hR1⟩ := bind_some hR1
        refine wl0 rfl (op_iaddr hf H Try.underlying75 TF.sz37 0 rfl rfl rfl he (by decide) fun p o cs a hf hr H => ?_)
        obtain ⟨A2, c2, rfl, hl2⟩ := Frame_cells hr
        have H := H.push (false, MP.val [(.slice A2 e.Payload.length c2)] e.Payload) hl2
        refine wl0 rfl (op_q hf (rq_loadIN hf H TF.la37 1 0 rfl rfl rfl rfl) rfl (by decide) fun a hf => ?_)
        refine pRun_ok (tb := tab) (n := 27) tabOk 1 _ _ hf rfl rfl fun a hf => ?_
        obtain ⟨y, hy, hR1⟩ := bind_some hR1
        refine wl0 rfl (op_call hf TF.cl35 rfl (by decide) (laws_szFrame_ok (S := fun _ => True) (Frame_mkv (rep_true (α := List Int) (H.get 0 rfl))) mk_int hy) fun v w a hp hf => ?_)
        obtain ⟨hb, hp⟩ := hp
        obtain rfl := VR_int hp
        have H := H.keep hb
        refine pRun_ok (tb := tab) (n := 27) tabOk 1 _ _ hf rfl rfl fun a hf => ?_
        refine wl_end ?_
        refine then_n ?_
        refine sq ?_
        refine reg ?_
        refine pRun_ok (tb := tab) (n := 27) tabOk 2 _ _ hf rfl rfl fun a hf => ?_
        refine wl_end ?_
        refine then_n ?_
        refine (Bool.eq_false_or_eq_true (decide (y < 0))).elim (fun hc3 => ?_) (fun hc3 => ?_)
        · rw [if_pos hc3] at hR1
          refine cd_t hf rfl hc3 ?_
          refine sq ?_
          refine reg ?_
          refine pRun_ok (tb := tab) (n := 27) tabOk 1 _ _ hf rfl rfl fun a hf => ?_
          have hf := hf.prune [4] rfl
          refine wl_end ?_
          refine then_n ?_
          refine wp_ret (blk_r (then_r (then_r (blk_r (then_r (then_r (?_)))))))
          obtain rfl := Option.some.inj hR1
          replace hF := on_ret hF
          obtain rfl := Option.some.inj hF
          refine ret_1 (fn := Try.f70) (r := .tmp 4) hf rfl (rv_tmp hf rfl) ?_
          exact ⟨_, rfl, H.bel, mk_int⟩
        · rw [if_neg (nt hc3)] at hR1
          refine cd_f hf rfl hc3 ?_
          refine wp_skip ?_
          refine blk_n ?_
          refine then_n ?_
          refine reg ?_
          refine pRun_ok (tb := tab) (n := 27) tabOk 3 _ _ hf rfl rfl fun a hf => ?_
          have hf := hf.prune [0, 1, 5] rfl
          refine wl_end ?_
          have hf := hf.prune [0, 1, 5] rfl
          have H := H.let [] [] [] [2]
          exact then_n ⟨(y, w64 (i + 1)), hR1, hf, H⟩
      · rw [if_neg (nt hc2)] at hR1
        refine cd_f hf rfl hc2 ?_
        refine wp_exit (then_x (then_x (blk_e (?_))))
        have hf := hf.prune [0, 1, 5] rfl
        have H := H.let [] [] [] [0]
        exact ⟨(left2, i), (Option.some.inj hR1).symm, hf, H⟩
    rintro a w ⟨⟨left3, i2⟩, rfl, hf, H⟩
    replace hF := on_next hF
    dsimp only at hF
    refine then_n ?_
    refine sq ?_
    refine reg ?_
    refine pRun_ok (tb := tab) (n := 27) tabOk 2 _ _ hf rfl rfl fun a hf => ?_
    refine wl_end ?_
    refine then_n ?_
    refine wp_ret (?_)
    obtain rfl := Option.some.inj hF
    refine ret_1 (fn := Try.f70) (r := .tmp 4) hf rfl (rv_tmp hf rfl) ?_
    exact ⟨_, rfl, H.bel, mk_int⟩

/- loop.example/g00897/laws.toIntS -/
set_option maxHeartbeats 1000000 in
theorem laws_toIntS_ok {fu : Nat} {w0 : World} {S : Nat → Prop} {v0_ : Value} {a' : List Int} {r : List Int} (h0 : VR w0 S v0_ a') (hF : laws_toIntS fu a' = some r) :
    Calls Try.prog 41 [v0_].toArray w0 fun e w' => ∃ v, e = .returned v ∧ (Below w0.heap.size w0 w' ∧ ∃ F0, VO w' F0 v r ∧ New w0 w' F0) := by
  obtain ⟨A, c, rfl, hl⟩ := VR_list h0
  have H := Mem.start ⟨w0, []⟩ S
  have H := H.pushArg (MP.val [(.slice A a'.length c)] a') hl
  refine enter Try.func41 rfl rfl (nle rfl) rfl fun a hf => ?_
  rw [laws_toIntS] at hF
  refine sq ?_
  refine reg ?_
  refine pRun_ok (tb := tab) (n := 22) tabOk 1 _ _ hf rfl rfl fun a hf => ?_
  refine wl_end ?_
  refine then_n ?_
  refine sq ?_
  refine reg ?_
  refine pRun_ok (tb := tab) (n := 22) tabOk 2 _ _ hf rfl rfl fun a hf => ?_
  obtain ⟨l, hl, hF⟩ := bind_some hF
  refine wl0 rfl (op_make (z0 := (0 : Int)) hf H Try.underlying35 TF.ai3 rfl (by decide) rfl rfl rfl hl (by decide) fun A2 c2 a w hf H => ?_)
  refine pRun_ok (tb := tab) (n := 22) tabOk 1 _ _ hf rfl rfl fun a hf => ?_
  refine wl_end ?_
  refine then_n ?_
  refine sq ?_
  refine sq ?_
  refine reg ?_
  refine pRun_ok (tb := tab) (n := 22) tabOk 1 _ _ hf rfl rfl fun a hf => ?_
  refine wl_end ?_
  refine then_n ?_
  obtain ⟨out2, hB1, hF⟩ := bind_some hF
  have hf := hf.prune [0, 3, 4] rfl
  have H := H.let [] [true] [] [0]
  have hI : (fun (s : List Int × Int) (a : Act) (w : World) => match s with | (out', i) => ∃ (A3 : Option Addr) (c3 : Nat), Fr a 22 [(0, (.slice A a'.length c)), (3, (.slice A3 out'.length c3)), (4, (.int .i64 i))] ∧ Mem ⟨w0, []⟩ S [] [⟨.sh true, 3, A3, c3, (out' : List Int)⟩] [] [(false, MP.val [(.slice A a'.length c)] (a' : List Int))] w) (l, 0) a w := ⟨A2, c2, hf, H⟩
  refine mid (fun a w => ∃ s : List Int × Int, out2 = s ∧ (fun (s : List Int × Int) (a : Act) (w : World) => match s with | (out', i) => ∃ (A3 : Option Addr) (c3 : Nat), Fr a 22 [(0, (.slice A a'.length c)), (3, (.slice A3 out'.length c3)), (4, (.int .i64 i))] ∧ Mem ⟨w0, []⟩ S [] [⟨.sh true, 3, A3, c3, (out' : List Int)⟩] [] [(false, MP.val [(.slice A a'.length c)] (a' : List Int))] w) s a w) ?_ ?_
  · refine wp_block ?_
    refine loop_rule (fun k (s : List Int × Int) => laws_toIntS_L1 fu a' k s.1 s.2 = some out2) (fun (s : List Int × Int) (a : Act) (w : World) => match s with | (out', i) => ∃ (A3 : Option Addr) (c3 : Nat), Fr a 22 [(0, (.slice A a'.length c)), (3, (.slice A3 out'.length c3)), (4, (.int .i64 i))] ∧ Mem ⟨w0, []⟩ S [] [⟨.sh true, 3, A3, c3, (out' : List Int)⟩] [] [(false, MP.val [(.slice A a'.length c)] (a' : List Int))] w) (fun s h => by cases h) ?_ fu (l, 0) a w hB1 hI
    rintro fk ⟨out', i⟩ a w hR1 hI
    replace hR1 : laws_toIntS_L1 fu a' (fk + 1) out' i = some out2 := hR1
    rw [laws_toIntS_L1] at hR1
    obtain ⟨A3, c3, hf, H⟩ := hI
    refine sq ?_
    refine sq ?_
    refine reg ?_
    refine pRun_ok (tb := tab) (n := 22) tabOk 4 _ _ hf rfl rfl fun a hf => ?_
    refine wl_end ?_
    refine then_n ?_
    refine (Bool.eq_false_or_eq_true (decide (i < (a'.length : Int)))).elim (fun hc => ?_) (fun hc => ?_)
    · rw [if_pos hc] at hR1
      refine cd_t hf rfl hc ?_
      refine wp_skip ?_
      refine then_n ?_
      refine sq ?_
      refine wp_block ?_
      refine reg ?_
      refine pRun_ok (tb := tab) (n := 22) tabOk 4 _ _ hf rfl rfl fun a hf => ?_
      obtain ⟨e, he, hR1⟩ := bind_some hR1
      refine wl0 rfl (op_iaddr hf H Try.underlying35 TF.sz3 0 rfl rfl rfl he (by decide) fun p o cs a hf hr H => ?_)
      obtain rfl := hr
      refine wl0 rfl (op_q hf (rq_loadI hf H TF.ls3 0 0 rfl rfl rfl) rfl (by decide) fun a hf => ?_)
      obtain ⟨e2, he2, hR1⟩ := bind_some hR1
      refine wl0 rfl (op_iaddrR hf H Try.underlying35 TF.sz3 0 rfl rfl rfl he2 (by decide) fun p2 o2 cs2 a hf hA hr2 hk => ?_)
      obtain rfl := hr2
      refine wl0 rfl (op_storeR (e' := e) hf H TF.sz3 0 rfl rfl rfl rfl rfl (nle rfl) rfl hA he2 (st_full rfl) fun w H => ?_)
      replace hf : Fr a 22 [(0, (.slice A a'.length c)), (3, (.slice A3 out'.length c3)), (4, (.int .i64 i)), (8, (.int .i64 i)), (9, (.slice A a'.length c)), (10, (.int .i64 (a'.length : Int))), (11, (.bool (decide (i < (a'.length : Int))))), (14, (.slice A3 out'.length c3)), (15, (.int .i64 i)), (16, (.slice A a'.length c)), (17, (.int .i64 i)), (18, (.pointer (some ⟨p, o + 0, none⟩))), (19, (.int .i64 e)), (20, (.pointer (some ⟨p2, o2 + 0, none⟩)))] := hf.prune [0, 3, 4, 8, 9, 10, 11, 14, 15, 16, 17, 18, 19, 20] rfl
      replace hf : Fr a 22 [(0, (.slice A a'.length c)), (3, (.slice A3 (out'.set (i).toNat e).length c3)), (4, (.int .i64 i)), (8, (.int .i64 i)), (9, (.slice A a'.length c)), (10, (.int .i64 (a'.length : Int))), (11, (.bool (decide (i < (a'.length : Int))))), (14, (.slice A3 (out'.set (i).toNat e).length c3)), (15, (.int .i64 i)), (16, (.slice A a'.length c)), (17, (.int .i64 i)), (18, (.pointer (some ⟨p, o + 0, none⟩))), (19, (.int .i64 e)), (20, (.pointer (some ⟨p2, o2 + 0, none⟩)))] := by simpa only [List.length_set, Nat.add_zero] using hf
      refine wl_end ?_
      refine blk_n ?_
      refine then_n ?_
      refine reg ?_
      refine pRun_ok (tb := tab) (n := 22) tabOk 3 _ _ hf rfl rfl fun a hf => ?_
      have hf := hf.prune [0, 3, 4] rfl
      refine wl_end ?_
      have hf := hf.prune [0, 3, 4] rfl
      have H := H.let [] [true] [] [1]
      exact then_n ⟨(out'.set (i).toNat e, w64 (i + 1)), hR1, A3, c3, hf, H⟩
    · rw [if_neg (nt hc)] at hR1
      refine cd_f hf rfl hc ?_
      refine wp_exit (then_x (then_x (blk_e (?_))))
      have hf := hf.prune [0, 3, 4] rfl
      have H := H.let [] [true] [] [0]
      exact ⟨(out', i), (Option.some.inj hR1).symm, A3, c3, hf, H⟩
  rintro a w ⟨⟨out3, i2⟩, rfl, A4, c4, hf, H⟩
  dsimp only at hF
  refine then_n ?_
  refine sq ?_
  refine reg ?_
  refine pRun_ok (tb := tab) (n := 22) tabOk 2 _ _ hf rfl rfl fun a hf => ?_
  refine wl_end ?_
  refine then_n ?_
  refine wp_ret (?_)
  have H := H.rowOwn 0 rfl rfl
  obtain ⟨F, H⟩ := H.freezeOwn 0 rfl
  have H := H.lend 0 rfl
  obtain rfl := Option.some.inj hF
  refine ret_1 (fn := Try.f41) (r := .tmp 2) hf rfl (rv_tmp hf rfl) ?_
  have hN : New w0 w F := by simpa using H.ends (X := [(⟨F, MP.own F [(.slice A4 out3.length c4)] (out3 : List Int)⟩ : DI)])
  exact ⟨_, rfl, H.bel, F, (mko_list (H.ownAt 0 rfl)), hN⟩

/- loop.example/g00897/laws.toFrame -/
set_option maxHeartbeats 1000000 in
theorem laws_toFrame_ok {fu : Nat} {w0 : World} {S : Nat → Prop} {v0_ : Value} {a' : Frame} {r : Frame} (h0 : VR w0 S v0_ a') (hF : laws_toFrame fu a' = some r) :
    Calls Try.prog 37 [v0_].toArray w0 fun e w' => ∃ v, e = .returned v ∧ (Below w0.heap.size w0 w' ∧ ∃ F0, VO w' F0 v r ∧ New w0 w' F0) := by
  obtain ⟨A, c, rfl, hl⟩ := Frame_open h0
  have H := Mem.start ⟨w0, []⟩ S
  have H := H.pushArg (MP.val [(.slice A a'.Payload.length c)] a'.Payload) hl
  refine enter Try.func37 rfl rfl (nle rfl) rfl fun a hf => ?_
  rw [laws_toFrame] at hF
  refine sq ?_
  refine reg ?_
  refine wl0 rfl (op_box hf H rfl rfl (by decide) fun b' a w hf H => ?_)
  refine wl0 rfl (op_alloc hf H TF.zv40 rfl (by decide) fun b2 a w hf H => ?_)
  refine wl_end ?_
  refine then_n ?_
  refine sq ?_
  refine reg ?_
  refine wl0 rfl (op_alloc hf H TF.zv40 rfl (by decide) fun b3 a w hf H => ?_)
  refine wl_end ?_
  refine then_n ?_
  refine sq ?_
  refine reg ?_
  refine pRun_ok (tb := tab) (n := 15) tabOk 1 _ _ hf rfl rfl fun a hf => ?_
  refine wl0 rfl (op_q hf (rq_loadB hf H TF.ls3 2 rfl rfl rfl) rfl (by decide) fun a hf => ?_)
  refine pRun_ok (tb := tab) (n := 15) tabOk 1 _ _ hf rfl rfl fun a hf => ?_
  refine wl0 rfl (op_storeB hf H 0 TF.sz3 rfl rfl rfl rfl rfl rfl (nle rfl) fun w H => ?_)
  refine wl_end ?_
  refine then_n ?_
  refine sq ?_
  refine reg ?_
  refine pRun_ok (tb := tab) (n := 15) tabOk 1 _ _ hf rfl rfl fun a hf => ?_
  refine wl0 rfl (op_q hf (rq_loadB hf H TF.ls3 2 rfl rfl rfl) rfl (by decide) fun a hf => ?_)
  refine pRun_ok (tb := tab) (n := 15) tabOk 1 _ _ hf rfl rfl fun a hf => ?_
  refine wl0 rfl (op_storeB hf H 0 TF.sz3 rfl rfl rfl rfl rfl rfl (nle rfl) fun w H => ?_)
  refine wl_end ?_
  refine then_n ?_
  refine sq ?_
  refine reg ?_
  refine pRun_ok (tb := tab) (n := 15) tabOk 1 _ _ hf rfl rfl fun a hf => ?_
  refine wl0 rfl (op_q hf (rq_loadB hf H TF.ls35 2 rfl rfl rfl) rfl (by decide) fun a hf => ?_)
  obtain ⟨y, hy, hF⟩ := bind_some hF
  refine wl0 rfl (op_call hf TF.cl41 rfl (by decide) (laws_toIntS_ok (S := fun _ => True) (mk_list (rep_true (α := List Int) (H.get 0 rfl))) hy) fun v w a hp hf => ?_)
  obtain ⟨hb, F, hp2, hN⟩ := hp
  obtain ⟨A2, c2, rfl, hl2⟩ := VO_list hp2
  have H := H.addOwn hb (X := [(⟨F, MP.own F [(.slice A2 y.length c2)] (y : List Int)⟩ : DI)]) (by simpa using hN.1) (ps1 hl2 ps0) (by simpa using hN.2)
  have H := H.lend 0 rfl
  refine pRun_ok (tb := tab) (n := 15) tabOk 1 _ _ hf rfl rfl fun a hf => ?_
  refine wl0 rfl (op_storeB hf H 0 TF.sz35 rfl rfl rfl rfl rfl rfl (nle rfl) fun w H => ?_)
  refine wl_end ?_
  refine then_n ?_
  refine sq ?_
  refine reg ?_
  refine wl0 rfl (op_q hf (rq_loadBN hf H TF.la40 0 rfl rfl rfl rfl) rfl (by decide) fun a hf => ?_)
  refine wl0 rfl (op_storeB hf H 1 TF.sz40 rfl rfl rfl rfl rfl rfl (nle rfl) fun w H => ?_)
  have hf := hf.prune [2] rfl
  refine wl_end ?_
  refine then_n ?_
  refine wp_ret (?_)
  obtain rfl := Option.some.inj hF
  refine ret_1 (fn := Try.f37) (r := .cell 2 40) hf rfl (rv_cellN hf H 1 TF.la40 rfl rfl rfl) ?_
  have hN : New w0 w F := by simpa using H.ends (X := [(⟨F, MP.own F [(.slice A2 y.length c2)] (y : List Int)⟩ : DI)])
  exact ⟨_, rfl, H.bel, F, ⟨_, Frame_ownmk (x := ({ Counter := a'.Counter, Pointer := a'.Pointer, Payload := y } : Frame)) (H.ownAt 0 rfl), rfl⟩, hN⟩

/- loop.example/g00897/laws.toFrameS -/
set_option maxHeartbeats 1000000 in
theorem laws_toFrameS_ok {fu : Nat} {w0 : World} {S : Nat → Prop} {v0_ : Value} {a' : List Frame} {r : List Frame} (h0 : VR w0 S v0_ a') (hF : laws_toFrameS fu a' = some r) :
    Calls Try.prog 72 [v0_].toArray w0 fun e w' => ∃ v, e = .returned v ∧ (Below w0.heap.size w0 w' ∧ ∃ F0, VO w' F0 v r ∧ New w0 w' F0) := by
  obtain ⟨A, c, rfl, hl⟩ := VR_list h0
  have H := Mem.start ⟨w0, []⟩ S
  have H := H.pushArg (MP.val [(.slice A a'.length c)] a') hl
  refine enter Try.func72 rfl rfl (nle rfl) rfl fun a hf => ?_
  rw [laws_toFrameS] at hF
  refine sq ?_
  refine reg ?_
  refine pRun_ok (tb := tab) (n := 23) tabOk 1 _ _ hf rfl rfl fun a hf => ?_
  refine wl_end ?_
  refine then_n ?_
  refine sq ?_
  refine reg ?_
  refine pRun_ok (tb := tab) (n := 23) tabOk 2 _ _ hf rfl rfl fun a hf => ?_
  obtain ⟨l, hl, hF⟩ := bind_some hF
  refine wl0 rfl (op_makeO (z0 := (({ Counter := 0, Pointer := 0, Payload := [] } : Frame) : Frame)) hf H Try.underlying78 TF.ai40 rfl (by decide) rfl rfl (fun w => Frame_ownmk (x := ({ Counter := 0, Pointer := 0, Payload := [] } : Frame)) lown_nil) hl (by decide) fun A2 c2 Fs a w hf H => ?_)
  refine pRun_ok (tb := tab) (n := 23) tabOk 1 _ _ hf rfl rfl fun a hf => ?_
  refine wl_end ?_
  refine then_n ?_
  refine sq ?_
  refine sq ?_
  refine reg ?_
  refine pRun_ok (tb := tab) (n := 23) tabOk 1 _ _ hf rfl rfl fun a hf => ?_
  refine wl_end ?_
  refine then_n ?_
  obtain ⟨out2, hB1, hF⟩ := bind_some hF
  have hf := hf.prune [0, 3, 4] rfl
  have H := H.let [] [true] [] [0]
  have hI : (fun (s : List Frame × Int) (a : Act) (w : World) => match s with | (out', i) => ∃ (A3 : Option Addr) (c3 : Nat) (Fs2 : List (List Nat)), Fr a 23 [(0, (.slice A a'.length c)), (3, (.slice A3 out'.length c3)), (4, (.int .i64 i))] ∧ Mem ⟨w0, []⟩ S [] [⟨.ow Fs2, 40, A3, c3, (out' : List Frame)⟩] [] [(false, MP.val [(.slice A a'.length c)] (a' : List Frame))] w) (l, 0) a w := ⟨A2, c2, Fs, hf, H⟩
  refine mid (fun a w => ∃ s : List Frame × Int, out2 = s ∧ (fun (s : List Frame × Int) (a : Act) (w : World) => match s with | (out', i) => ∃ (A3 : Option Addr) (c3 : Nat) (Fs2 : List (List Nat)), Fr a 23 [(0, (.slice A a'.length c)), (3, (.slice A3 out'.length c3)), (4, (.int .i64 i))] ∧ Mem ⟨w0, []⟩ S [] [⟨.ow Fs2, 40, A3, c3, (out' : List Frame)⟩] [] [(false, MP.val [(.slice A a'.length c)] (a' : List Frame))] w) s a w) ?_ ?_
  · refine wp_block ?_
    refine loop_rule (fun k (s : List Frame × Int) => laws_toFrameS_L1 fu a' k s.1 s.2 = some out2) (fun (s : List Frame × Int) (a : Act) (w : World) => match s with | (out', i) => ∃ (A3 : Option Addr) (c3 : Nat) (Fs2 : List (List Nat)), Fr a 23 [(0, (.slice A a'.length c)), (3, (.slice A3 out'.length c3)), (4, (.int .i64 i))] ∧ Mem ⟨w0, []⟩ S [] [⟨.ow Fs2, 40, A3, c3, (out' : List Frame)⟩] [] [(false, MP.val [(.slice A a'.length c)] (a' : List Frame))] w) (fun s h => by cases h) ?_ fu (l, 0) a w hB1 hI
    rintro fk ⟨out', i⟩ a w hR1 hI
    replace hR1 : laws_toFrameS_L1 fu a' (fk + 1) out' i = some out2 := hR1
    rw [laws_toFrameS_L1] at hR1
    obtain ⟨A3, c3, Fs2, hf, H⟩ := hI
    refine sq ?_
    refine sq ?_
    refine reg ?_
    refine pRun_ok (tb := tab) (n := 23) tabOk 4 _ _ hf rfl rfl fun a hf => ?_
    refine wl_end ?_
    refine then_n ?_
    refine (Bool.eq_false_or_eq_true (decide (i < (a'.length : Int)))).elim (fun hc => ?_) (fun hc => ?_)
    · rw [if_pos hc] at hR1
      refine cd_t hf rfl hc ?_
      refine wp_skip ?_
      refine then_n ?_
      refine sq ?_
      refine wp_block ?_
      refine reg ?_
      refine pRun_ok (tb := tab) (n := 23) tabOk 4 _ _ hf rfl rfl fun a hf => ?_
      obtain ⟨e, he, hR1⟩ := bind_some hR1
      refine wl0 rfl (op_iaddr hf H Try.underlying75 TF.sz37 0 rfl rfl rfl he (by decide) fun p o cs a hf hr H => ?_)
      obtain ⟨A4, c4, rfl, hl2⟩ := Frame_cells hr
      have H := H.push (false, MP.val [(.slice A4 e.Payload.length c4)] e.Payload) hl2
      refine wl0 rfl (op_q hf (rq_loadIN hf H TF.la37 1 0 rfl rfl rfl rfl) rfl (by decide) fun a hf => ?_)
      obtain ⟨y, hy, hR1⟩ := bind_some hR1
      refine wl0 rfl (op_call hf TF.cl37 rfl (by decide) (laws_toFrame_ok (S := fun _ => True) (Frame_mkv (rep_true (α := List Int) (H.get 0 rfl))) hy) fun v w a hp hf => ?_)
      obtain ⟨hb, F, hp2, hN⟩ := hp
      obtain ⟨A5, c5, F2, rfl, rfl, hl3⟩ := Frame_vo hp2
      have H := H.addOwn hb (X := [(⟨F2, MP.own F2 [(.slice A5 y.Payload.length c5)] (y.Payload : List Int)⟩ : DI)]) (by simpa using hN.1) (ps1 hl3 ps0) (by simpa using hN.2)
      have H := H.lend 0 rfl
      obtain ⟨e2, he2, hR1⟩ := bind_some hR1
      refine wl0 rfl (op_iaddrR hf H Try.underlying78 TF.sz40 0 rfl rfl rfl he2 (by decide) fun p2 o2 cs2 a hf hA hr2 hk => ?_)
      have hrk := hr2
      obtain ⟨A6, c6, rfl, hl4⟩ := Frame_cells hr2
      have H := H.push (true, MP.val [(.slice A6 e2.Payload.length c6)] e2.Payload) hl4
      have H := H.recast (X := [(⟨F2, MP.own F2 [(.slice A5 y.Payload.length c5)] (y.Payload : List Int)⟩ : DI)]) (Y := [(⟨F2, MP.own F2 [(.int .i64 y.Counter), (.int .i64 y.Pointer), (.slice A5 y.Payload.length c5)] (y : Frame)⟩ : DI)]) (List.Perm.of_eq (by simp)) fun _ => ps1 (Frame_ownmk (x := y) (H.ownAt 0 rfl)) ps0
      refine wl0 rfl (op_storeO hf H TF.sz40 rfl rfl rfl rfl rfl rfl hA he2 fun w H => ?_)
      replace hf : Fr a 23 [(0, (.slice A a'.length c)), (3, (.slice A3 out'.length c3)), (4, (.int .i64 i)), (8, (.int .i64 i)), (9, (.slice A a'.length c)), (10, (.int .i64 (a'.length : Int))), (11, (.bool (decide (i < (a'.length : Int))))), (14, (.slice A3 out'.length c3)), (15, (.int .i64 i)), (16, (.slice A a'.length c)), (17, (.int .i64 i)), (18, (.pointer (some ⟨p, o + 0, none⟩))), (19, (.agg #[(.int .i64 e.Counter), (.int .i64 e.Pointer), (.slice A4 e.Payload.length c4)])), (20, (.agg #[(.int .i64 y.Counter), (.int .i64 y.Pointer), (.slice A5 y.Payload.length c5)])), (21, (.pointer (some ⟨p2, o2 + 0, none⟩)))] := hf.prune [0, 3, 4, 8, 9, 10, 11, 14, 15, 16, 17, 18, 19, 20, 21] rfl
      replace hf : Fr a 23 [(0, (.slice A a'.length c)), (3, (.slice A3 (out'.set (i).toNat y).length c3)), (4, (.int .i64 i)), (8, (.int .i64 i)), (9, (.slice A a'.length c)), (10, (.int .i64 (a'.length : Int))), (11, (.bool (decide (i < (a'.length : Int))))), (14, (.slice A3 (out'.set (i).toNat y).length c3)), (15, (.int .i64 i)), (16, (.slice A a'.length c)), (17, (.int .i64 i)), (18, (.pointer (some ⟨p, o + 0, none⟩))), (19, (.agg #[(.int .i64 e.Counter), (.int .i64 e.Pointer), (.slice A4 e.Payload.length c4)])), (20, (.agg #[(.int .i64 y.Counter), (.int .i64 y.Pointer), (.slice A5 y.Payload.length c5)])), (21, (.pointer (some ⟨p2, o2 + 0, none⟩)))] := by simpa only [List.length_set, Nat.add_zero] using hf
      refine wl_end ?_
      refine blk_n ?_
      refine then_n ?_
      refine reg ?_
      refine pRun_ok (tb := tab) (n := 23) tabOk 3 _ _ hf rfl rfl fun a hf => ?_
      have hf := hf.prune [0, 3, 4] rfl
      refine wl_end ?_
      have hf := hf.prune [0, 3, 4] rfl
      have H := H.let [] [true] [] [4]
      exact then_n ⟨(out'.set (i).toNat y, w64 (i + 1)), hR1, A3, c3, Fs2.set (i).toNat F2, hf, H⟩
    · rw [if_neg (nt hc)] at hR1
      refine cd_f hf rfl hc ?_
      refine wp_exit (then_x (then_x (blk_e (?_))))
      have hf := hf.prune [0, 3, 4] rfl
      have H := H.let [] [true] [] [0]
      exact ⟨(out', i), (Option.some.inj hR1).symm, A3, c3, Fs2, hf, H⟩
  rintro a w ⟨⟨out3, i2⟩, rfl, A7, c7, Fs3, hf, H⟩
  dsimp only at hF
  refine then_n ?_
  refine sq ?_
  refine reg ?_
  refine pRun_ok (tb := tab) (n := 23) tabOk 2 _ _ hf rfl rfl fun a hf => ?_
  refine wl_end ?_
  refine then_n ?_
  refine wp_ret (?_)
  obtain ⟨F3, H⟩ := H.freezeOwn 0 rfl
  have H := H.lend 0 rfl
  obtain rfl := Option.some.inj hF
  refine ret_1 (fn := Try.f72) (r := .tmp 2) hf rfl (rv_tmp hf rfl) ?_
  have hN : New w0 w F3 := by simpa using H.ends (X := [(⟨F3, MP.own F3 [(.slice A7 out3.length c7)] (out3 : List Frame)⟩ : DI)])
  exact ⟨_, rfl, H.bel, F3, (mko_list (H.ownAt 0 rfl)), hN⟩

/- loop.example/g00897/spec.l1In -/
set_option maxHeartbeats 1000000 in
theorem spec_l1In_ok {fu : Nat} {w0 : World} {S : Nat → Prop} {v0_ : Value} {v1_ : Value} {v2_ : Value} {x1 : Int} {a' : Int} {b' : Int} {r : Bool} (h0 : VR w0 S v0_ x1) (h1 : VR w0 S v1_ a') (h2 : VR w0 S v2_ b') (hF : spec_l1In fu x1 a' b' = some r) :
    Calls Try.prog 97 [v0_, v1_, v2_].toArray w0 fun e w' => ∃ v, e = .returned v ∧ (Below w0.heap.size w0 w' ∧ VR w' (St ⟨w0, []⟩ S [] [] [] true) v r) := by
  obtain rfl := VR_int h0
  obtain rfl := VR_int h1
  obtain rfl := VR_int h2
  have H := Mem.start ⟨w0, []⟩ S
  refine enter Try.func97 rfl rfl (nle rfl) rfl fun a hf => ?_
  rw [spec_l1In] at hF
  refine sq ?_
  refine reg ?_
  refine pRun_ok (tb := tab) (n := 15) tabOk 1 _ _ hf rfl rfl fun a hf => ?_
  refine wl_end ?_
  refine then_n ?_
  refine sq ?_
  obtain ⟨c, hGc, hF⟩ := bind_some hF
  refine mid (fun a w => Fr a 15 [(6, (.bool c))] ∧ Mem ⟨w0, []⟩ S [] [] [] [] w) ?_ ?_
  · refine reg ?_
    refine pRun_ok (tb := tab) (n := 15) tabOk 4 _ _ hf rfl rfl fun a hf => ?_
    refine (Bool.eq_false_or_eq_true (decide (x1 ≥ a'))).elim (fun hc => ?_) (fun hc => ?_)
    · rw [if_pos hc] at hGc
      have hf := hf.lit 10 rfl hc
      refine pRun_ok (tb := tab) (n := 15) tabOk 5 _ _ hf rfl rfl fun a hf => ?_
      obtain rfl := Option.some.inj hGc
      have hf := hf.prune [6] rfl
      have H := H.let [] [] [] []
      exact wl_end ⟨hf, H⟩
    · rw [if_neg (nt hc)] at hGc
      have hf := hf.lit 10 rfl hc
      refine pRun_ok (tb := tab) (n := 15) tabOk 5 _ _ hf rfl rfl fun a hf => ?_
      obtain rfl := Option.some.inj hGc
      have hf := hf.prune [6] rfl
      have H := H.let [] [] [] []
      exact wl_end ⟨hf, H⟩
  rintro a w ⟨hf, H⟩
  refine then_n ?_
  refine wp_ret (?_)
  obtain rfl := Option.some.inj hF
  refine ret_1 (fn := Try.f97) (r := .tmp 6) hf rfl (rv_tmp hf rfl) ?_
  exact ⟨_, rfl, H.bel, mk_bool⟩

/- loop.example/g00897/spec.l23Bytes -/
set_option maxHeartbeats 1000000 in
theorem spec_l23Bytes_ok {fu : Nat} {w0 : World} {S : Nat → Prop} {v0_ : Value} {list : List Int} {r : Bool} (h0 : VR w0 S v0_ list) (hF : spec_l23Bytes fu list = some r) :
    Calls Try.prog 130 [v0_].toArray w0 fun e w' => ∃ v, e = .returned v ∧ (Below w0.heap.size w0 w' ∧ VR w' (St ⟨w0, []⟩ S [] [] [] true) v r) := by
  obtain ⟨A, c, rfl, hl⟩ := VR_list h0
  have H := Mem.start ⟨w0, []⟩ S
  have H := H.pushArg (MP.val [(.slice A list.length c)] list) hl
  refine enter Try.func130 rfl rfl (nle rfl) rfl fun a hf => ?_
  rw [spec_l23Bytes] at hF
  refine sq ?_
  refine reg ?_
  refine pRun_ok (tb := tab) (n := 16) tabOk 1 _ _ hf rfl rfl fun a hf => ?_
  refine wl_end ?_
  refine then_n ?_
  refine sq ?_
  refine sq ?_
  refine reg ?_
  refine pRun_ok (tb := tab) (n := 16) tabOk 1 _ _ hf rfl rfl fun a hf => ?_
  refine wl_end ?_
  refine then_n ?_
  obtain ⟨out', hB1, hF⟩ := bind_some hF
  have hf := hf.prune [0, 3] rfl
  have H := H.let [] [] [] [0]
  have hI : (fun (s : Int) (a : Act) (w : World) => match s with | i => Fr a 16 [(0, (.slice A list.length c)), (3, (.int .i64 i))] ∧ Mem ⟨w0, []⟩ S [] [] [] [(false, MP.val [(.slice A list.length c)] (list : List Int))] w) 0 a w0 := ⟨hf, H⟩
  refine mid (fun a w => ∃ s : Int, out' = Out.next s ∧ (fun (s : Int) (a : Act) (w : World) => match s with | i => Fr a 16 [(0, (.slice A list.length c)), (3, (.int .i64 i))] ∧ Mem ⟨w0, []⟩ S [] [] [] [(false, MP.val [(.slice A list.length c)] (list : List Int))] w) s a w) ?_ ?_
  · refine wp_block ?_
    refine loop_rule (fun k (s : Int) => spec_l23Bytes_L1 fu list k s = some out') (fun (s : Int) (a : Act) (w : World) => match s with | i => Fr a 16 [(0, (.slice A list.length c)), (3, (.int .i64 i))] ∧ Mem ⟨w0, []⟩ S [] [] [] [(false, MP.val [(.slice A list.length c)] (list : List Int))] w) (fun s h => by cases h) ?_ fu 0 a w0 hB1 hI
    rintro fk i a w hR1 hI
    replace hR1 : spec_l23Bytes_L1 fu list (fk + 1) i = some out' := hR1
    rw [spec_l23Bytes_L1] at hR1
    obtain ⟨hf, H⟩ := hI
    refine sq ?_
    refine sq ?_
    refine reg ?_
    refine pRun_ok (tb := tab) (n := 16) tabOk 4 _ _ hf rfl rfl fun a hf => ?_
    refine wl_end ?_
    refine then_n ?_
    refine (Bool.eq_false_or_eq_true (decide (i < (list.length : Int)))).elim (fun hc => ?_) (fun hc => ?_)
    · rw [if_pos hc] at hR1
      refine cd_t hf rfl hc ?_
      refine wp_skip ?_
      refine then_n ?_
      refine sq ?_
      refine wp_block ?_
      refine sq ?_
      refine reg ?_
      refine pRun_ok (tb := tab) (n := 16) tabOk 2 _ _ hf rfl rfl fun a hf => ?_
      obtain ⟨e, he, hR1⟩ := bind_some hR1
      refine wl0 rfl (op_iaddr hf H Try.underlying35 TF.sz3 0 rfl rfl rfl he (by decide) fun p o cs a hf hr H => ?_)
      obtain rfl := hr
      refine wl0 rfl (op_q hf (rq_loadI hf H TF.ls3 0 0 rfl rfl rfl) rfl (by decide) fun a hf => ?_)
      obtain ⟨y, hy, hR1⟩ := bind_some hR1
      refine wl0 rfl (op_call hf TF.cl97 rfl (by decide) (spec_l1In_ok (S := fun _ => True) mk_int mk_int mk_int hy) fun v w a hp hf => ?_)
      obtain ⟨hb, hp⟩ := hp
      obtain rfl := VR_bool hp
      have H := H.keep hb
      refine pRun_ok (tb := tab) (n := 16) tabOk 1 _ _ hf rfl rfl fun a hf => ?_
      refine wl_end ?_
      refine then_n ?_
      refine (Bool.eq_false_or_eq_true (!y)).elim (fun hc2 => ?_) (fun hc2 => ?_)
      · rw [if_pos hc2] at hR1
        refine cd_t hf rfl hc2 ?_
        refine sq ?_
        refine reg ?_
        refine pRun_ok (tb := tab) (n := 16) tabOk 1 _ _ hf rfl rfl fun a hf => ?_
        refine wl_end ?_
        refine then_n ?_
        refine wp_ret (blk_r (then_r (then_r (blk_r (then_r (then_r (?_)))))))
        obtain rfl := Option.some.inj hR1
        replace hF := on_ret hF
        obtain rfl := Option.some.inj hF
        refine ret_1 (fn := Try.f130) (r := .tmp 2) hf rfl (rv_tmp hf rfl) ?_
        exact ⟨_, rfl, H.bel, mk_bool⟩
      · rw [if_neg (nt hc2)] at hR1
        refine cd_f hf rfl hc2 ?_
        refine wp_skip ?_
        refine blk_n ?_
        refine then_n ?_
        refine reg ?_
        refine pRun_ok (tb := tab) (n := 16) tabOk 3 _ _ hf rfl rfl fun a hf => ?_
        refine wl_end ?_
        have hf := hf.prune [0, 3] rfl
        have H := H.let [] [] [] [1]
        exact then_n ⟨w64 (i + 1), hR1, hf, H⟩
    · rw [if_neg (nt hc)] at hR1
      refine cd_f hf rfl hc ?_
      refine wp_exit (then_x (then_x (blk_e (?_))))
      have hf := hf.prune [0, 3] rfl
      have H := H.let [] [] [] [0]
      exact ⟨i, (Option.some.inj hR1).symm, hf, H⟩
  rintro a w ⟨i2, rfl, hf, H⟩
  replace hF := on_next hF
  refine then_n ?_
  refine sq ?_
  refine reg ?_
  refine pRun_ok (tb := tab) (n := 16) tabOk 1 _ _ hf rfl rfl fun a hf => ?_
  refine wl_end ?_
  refine then_n ?_
  refine wp_ret (?_)
  obtain rfl := Option.some.inj hF
  refine ret_1 (fn := Try.f130) (r := .tmp 2) hf rfl (rv_tmp hf rfl) ?_
  exact ⟨_, rfl, H.bel, mk_bool⟩

/- loop.example/g00897/spec.l23Good -/
set_option maxHeartbeats 1000000 in
theorem spec_l23Good_ok {fu : Nat} {w0 : World} {S : Nat → Prop} {v0_ : Value} {f : Frame} {r : Bool} (h0 : VR w0 S v0_ f) (hF : spec_l23Good fu f = some r) :
    Calls Try.prog 110 [v0_].toArray w0 fun e w' => ∃ v, e = .returned v ∧ (Below w0.heap.size w0 w' ∧ VR w' (St ⟨w0, []⟩ S [] [] [] true) v r) := by
  obtain ⟨A, c, rfl, hl⟩ := Frame_open h0
  have H := Mem.start ⟨w0, []⟩ S
  have H := H.pushArg (MP.val [(.slice A f.Payload.length c)] f.Payload) hl
  refine enter Try.func110 rfl rfl (nle rfl) rfl fun a hf => ?_
  rw [spec_l23Good] at hF
  refine sq ?_
  refine reg ?_
  refine wl0 rfl (op_box hf H rfl rfl (by decide) fun b' a w hf H => ?_)
  refine pRun_ok (tb := tab) (n := 22) tabOk 1 _ _ hf rfl rfl fun a hf => ?_
  refine wl_end ?_
  refine then_n ?_
  refine sq ?_
  obtain ⟨c2, hGc2, hF⟩ := bind_some hF
  refine mid (fun a w => Fr a 22 [(2, (.bool c2))] ∧ Mem ⟨w0, []⟩ S [] [] [] [] w) ?_ ?_
  · refine reg ?_
    refine pRun_ok (tb := tab) (n := 22) tabOk 1 _ _ hf rfl rfl fun a hf => ?_
    refine wl0 rfl (op_q hf (rq_loadB hf H TF.ls3 0 rfl rfl rfl) rfl (by decide) fun a hf => ?_)
    obtain ⟨y, hy, hGc2⟩ := bind_some hGc2
    refine wl0 rfl (op_call hf TF.cl97 rfl (by decide) (spec_l1In_ok (S := fun _ => True) mk_int mk_int mk_int hy) fun v w a hp hf => ?_)
    obtain ⟨hb, hp⟩ := hp
    obtain rfl := VR_bool hp
    have H := H.keep hb
    refine pRun_ok (tb := tab) (n := 22) tabOk 1 _ _ hf rfl rfl fun a hf => ?_
    refine (Bool.eq_false_or_eq_true (y)).elim (fun hc => ?_) (fun hc => ?_)
    · rw [if_pos hc] at hGc2
      have hf := hf.lit 6 rfl hc
      refine pRun_ok (tb := tab) (n := 22) tabOk 1 _ _ hf rfl rfl fun a hf => ?_
      refine wlg hf rfl rfl rfl (op_q hf (rq_loadB hf H TF.ls3 0 rfl rfl rfl) rfl (by decide) fun a hf => ?_)
      obtain ⟨y2, hy2, hGc2⟩ := bind_some hGc2
      refine wlg hf rfl rfl rfl (op_call hf TF.cl97 rfl (by decide) (spec_l1In_ok (S := fun _ => True) mk_int mk_int mk_int hy2) fun v2 w a hp2 hf => ?_)
      obtain ⟨hb2, hp2⟩ := hp2
      obtain rfl := VR_bool hp2
      have H := H.keep hb2
      refine pRun_ok (tb := tab) (n := 22) tabOk 2 _ _ hf rfl rfl fun a hf => ?_
      refine (Bool.eq_false_or_eq_true (y2)).elim (fun hc2 => ?_) (fun hc2 => ?_)
      · rw [if_pos hc2] at hGc2
        have hf := hf.lit 11 rfl hc2
        refine pRun_ok (tb := tab) (n := 22) tabOk 1 _ _ hf rfl rfl fun a hf => ?_
        refine wlg hf rfl rfl rfl (op_q hf (rq_loadB hf H TF.ls35 0 rfl rfl rfl) rfl (by decide) fun a hf => ?_)
        refine pRun_ok (tb := tab) (n := 22) tabOk 4 _ _ hf rfl rfl fun a hf => ?_
        refine (Bool.eq_false_or_eq_true ((f.Payload.length : Int) == 12)).elim (fun hc3 => ?_) (fun hc3 => ?_)
        · rw [if_pos hc3] at hGc2
          have hf := hf.lit 17 rfl hc3
          refine pRun_ok (tb := tab) (n := 22) tabOk 1 _ _ hf rfl rfl fun a hf => ?_
          refine wlg hf rfl rfl rfl (op_q hf (rq_loadB hf H TF.ls35 0 rfl rfl rfl) rfl (by decide) fun a hf => ?_)
          obtain ⟨y3, hy3, hGc2⟩ := bind_some hGc2
          refine wlg hf rfl rfl rfl (op_call hf TF.cl130 rfl (by decide) (spec_l23Bytes_ok (S := fun _ => True) (mk_list (rep_true (α := List Int) (H.get 0 rfl))) hy3) fun v3 w a hp3 hf => ?_)
          obtain ⟨hb3, hp3⟩ := hp3
          obtain rfl := VR_bool hp3
          have H := H.keep hb3
          refine pRun_ok (tb := tab) (n := 22) tabOk 2 _ _ hf rfl rfl fun a hf => ?_
          obtain rfl := Option.some.inj hGc2
          have hf := hf.prune [2] rfl
          have H := H.let [false] [] [] []
          exact wl_end ⟨hf, H⟩
        · rw [if_neg (nt hc3)] at hGc2
          have hf := hf.lit 17 rfl hc3
          refine pRun_ok (tb := tab) (n := 22) tabOk 5 _ _ hf rfl rfl fun a hf => ?_
          obtain rfl := Option.some.inj hGc2
          have hf := hf.prune [2] rfl
          have H := H.let [false] [] [] []
          exact wl_end ⟨hf, H⟩
      · rw [if_neg (nt hc2)] at hGc2
        have hf := hf.lit 11 rfl hc2
        refine pRun_ok (tb := tab) (n := 22) tabOk 11 _ _ hf rfl rfl fun a hf => ?_
        obtain rfl := Option.some.inj hGc2
        have hf := hf.prune [2] rfl
        have H := H.let [false] [] [] []
        exact wl_end ⟨hf, H⟩
    · rw [if_neg (nt hc)] at hGc2
      have hf := hf.lit 6 rfl hc
      refine pRun_ok (tb := tab) (n := 22) tabOk 16 _ _ hf rfl rfl fun a hf => ?_
      obtain rfl := Option.some.inj hGc2
      have hf := hf.prune [2] rfl
      have H := H.let [false] [] [] []
      exact wl_end ⟨hf, H⟩
  rintro a w ⟨hf, H⟩
  refine then_n ?_
  refine wp_ret (?_)
  obtain rfl := Option.some.inj hF
  refine ret_1 (fn := Try.f110) (r := .tmp 2) hf rfl (rv_tmp hf rfl) ?_
  exact ⟨_, rfl, H.bel, mk_bool⟩

/- loop.example/g00897/spec.l23Frames -/
set_option maxHeartbeats 1000000 in
theorem spec_l23Frames_ok {fu : Nat} {w0 : World} {S : Nat → Prop} {v0_ : Value} {frames : List Frame} {r : Bool} (h0 : VR w0 S v0_ frames) (hF : spec_l23Frames fu frames = some r) :
    Calls Try.prog 131 [v0_].toArray w0 fun e w' => ∃ v, e = .returned v ∧ (Below w0.heap.size w0 w' ∧ VR w' (St ⟨w0, []⟩ S [] [] [] true) v r) := by
  obtain ⟨A, c, rfl, hl⟩ := VR_list h0
  have H := Mem.start ⟨w0, []⟩ S
  have H := H.pushArg (MP.val [(.slice A frames.length c)] frames) hl
  refine enter Try.func131 rfl rfl (nle rfl) rfl fun a hf => ?_
  rw [spec_l23Frames] at hF
  refine sq ?_
  refine reg ?_
  refine pRun_ok (tb := tab) (n := 23) tabOk 1 _ _ hf rfl rfl fun a hf => ?_
  refine wl_end ?_
  refine then_n ?_
  refine sq ?_
  refine sq ?_
  refine reg ?_
  refine pRun_ok (tb := tab) (n := 23) tabOk 1 _ _ hf rfl rfl fun a hf => ?_
  refine wl_end ?_
  refine then_n ?_
  obtain ⟨out', hB1, hF⟩ := bind_some hF
  have hf := hf.prune [0, 3] rfl
  have H := H.let [] [] [] [0]
  have hI : (fun (s : Int) (a : Act) (w : World) => match s with | i => Fr a 23 [(0, (.slice A frames.length c)), (3, (.int .i64 i))] ∧ Mem ⟨w0, []⟩ S [] [] [] [(false, MP.val [(.slice A frames.length c)] (frames : List Frame))] w) 0 a w0 := ⟨hf, H⟩
  refine mid (fun a w => ∃ s : Int, out' = Out.next s ∧ (fun (s : Int) (a : Act) (w : World) => match s with | i => Fr a 23 [(0, (.slice A frames.length c)), (3, (.int .i64 i))] ∧ Mem ⟨w0, []⟩ S [] [] [] [(false, MP.val [(.slice A frames.length c)] (frames : List Frame))] w) s a w) ?_ ?_
  · refine wp_block ?_
    refine loop_rule (fun k (s : Int) => spec_l23Frames_L1 fu frames k s = some out') (fun (s : Int) (a : Act) (w : World) => match s with | i => Fr a 23 [(0, (.slice A frames.length c)), (3, (.int .i64 i))] ∧ Mem ⟨w0, []⟩ S [] [] [] [(false, MP.val [(.slice A frames.length c)] (frames : List Frame))] w) (fun s h => by cases h) ?_ fu 0 a w0 hB1 hI
    rintro fk i a w hR1 hI
    replace hR1 : spec_l23Frames_L1 fu frames (fk + 1) i = some out' := hR1
    rw [spec_l23Frames_L1] at hR1
    obtain ⟨hf, H⟩ := hI
    refine sq ?_
    refine sq ?_
    obtain ⟨c2, hGc2, hR1⟩ := bind_some hR1
    refine mid (fun a w => Fr a 23 [(0, (.slice A frames.length c)), (3, (.int .i64 i)), (11, (.bool c2))] ∧ Mem ⟨w0, []⟩ S [] [] [] [(false, MP.val [(.slice A frames.length c)] (frames : List Frame))] w) ?_ ?_
    · refine reg ?_
      refine pRun_ok (tb := tab) (n := 23) tabOk 5 _ _ hf rfl rfl fun a hf => ?_
      refine (Bool.eq_false_or_eq_true (decide (i < (frames.length : Int)))).elim (fun hc => ?_) (fun hc => ?_)
      · rw [if_pos hc] at hGc2
        have hf := hf.lit 8 rfl hc
        refine pRun_ok (tb := tab) (n := 23) tabOk 3 _ _ hf rfl rfl fun a hf => ?_
        obtain rfl := Option.some.inj hGc2
        have hf := hf.prune [0, 3, 11] rfl
        have H := H.let [] [] [] [0]
        exact wl_end ⟨hf, H⟩
      · rw [if_neg (nt hc)] at hGc2
        have hf := hf.lit 8 rfl hc
        refine pRun_ok (tb := tab) (n := 23) tabOk 3 _ _ hf rfl rfl fun a hf => ?_
        obtain rfl := Option.some.inj hGc2
        have hf := hf.prune [0, 3, 11] rfl
        have H := H.let [] [] [] [0]
        exact wl_end ⟨hf, H⟩
    rintro a w ⟨hf, H⟩
    refine then_n ?_
    refine (Bool.eq_false_or_eq_true (c2)).elim (fun hc2 => ?_) (fun hc2 => ?_)
    · rw [if_pos hc2] at hR1
      refine cd_t hf rfl hc2 ?_
      refine wp_skip ?_
      refine then_n ?_
      refine sq ?_
      refine wp_block ?_
      refine sq ?_
      refine reg ?_
      refine pRun_ok (tb := tab) (n := 23) tabOk 2 _ _ hf rfl rfl fun a hf => ?_
      obtain ⟨e, he, hR1⟩ := bind_some hR1
      refine wl0 rfl (op_iaddr hf H Try.underlying78 TF.sz40 0 rfl rfl rfl he (by decide) fun p o cs a hf hr H => ?_)
      obtain ⟨A2, c3, rfl, hl2⟩ := Frame_cells hr
      have H := H.push (false, MP.val [(.slice A2 e.Payload.length c3)] e.Payload) hl2
      refine wl0 rfl (op_q hf (rq_loadIN hf H TF.la40 1 0 rfl rfl rfl rfl) rfl (by decide) fun a hf => ?_)
      obtain ⟨y, hy, hR1⟩ := bind_some hR1
      refine wl0 rfl (op_call hf TF.cl110 rfl (by decide) (spec_l23Good_ok (S := fun _ => True) (Frame_mkv (rep_true (α := List Int) (H.get 0 rfl))) hy) fun v w a hp hf => ?_)
      obtain ⟨hb, hp⟩ := hp
      obtain rfl := VR_bool hp
      have H := H.keep hb
      refine pRun_ok (tb := tab) (n := 23) tabOk 1 _ _ hf rfl rfl fun a hf => ?_
      refine wl_end ?_
      refine then_n ?_
      refine (Bool.eq_false_or_eq_true (!y)).elim (fun hc3 => ?_) (fun hc3 => ?_)
      · rw [if_pos hc3] at hR1
        refine cd_t hf rfl hc3 ?_
        refine sq ?_
        refine reg ?_
        refine pRun_ok (tb := tab) (n := 23) tabOk 1 _ _ hf rfl rfl fun a hf => ?_
        refine wl_end ?_
        refine then_n ?_
        refine wp_ret (blk_r (then_r (then_r (blk_r (then_r (then_r (?_)))))))
        obtain rfl := Option.some.inj hR1
        replace hF := on_ret hF
        obtain rfl := Option.some.inj hF
        refine ret_1 (fn := Try.f131) (r := .tmp 2) hf rfl (rv_tmp hf rfl) ?_
        exact ⟨_, rfl, H.bel, mk_bool⟩
      · rw [if_neg (nt hc3)] at hR1
        refine cd_f hf rfl hc3 ?_
        refine wp_skip ?_
        refine blk_n ?_
        refine then_n ?_
        refine reg ?_
        refine pRun_ok (tb := tab) (n := 23) tabOk 3 _ _ hf rfl rfl fun a hf => ?_
        refine wl_end ?_
        have hf := hf.prune [0, 3] rfl
        have H := H.let [] [] [] [2]
        exact then_n ⟨w64 (i + 1), hR1, hf, H⟩
    · rw [if_neg (nt hc2)] at hR1
      refine cd_f hf rfl hc2 ?_
      refine wp_exit (then_x (then_x (blk_e (?_))))
      have hf := hf.prune [0, 3] rfl
      have H := H.let [] [] [] [0]
      exact ⟨i, (Option.some.inj hR1).symm, hf, H⟩
  rintro a w ⟨i2, rfl, hf, H⟩
  replace hF := on_next hF
  refine then_n ?_
  refine sq ?_
  refine reg ?_
  refine pRun_ok (tb := tab) (n := 23) tabOk 4 _ _ hf rfl rfl fun a hf => ?_
  refine wl_end ?_
  refine then_n ?_
  refine wp_ret (?_)
  obtain rfl := Option.some.inj hF
  refine ret_1 (fn := Try.f131) (r := .tmp 2) hf rfl (rv_tmp hf rfl) ?_
  exact ⟨_, rfl, H.bel, mk_bool⟩

/- loop.example/g00897/spec.CounterGaps -/
set_option maxHeartbeats 1000000 in
theorem spec_CounterGaps_ok {fu : Nat} {w0 : World} {S : Nat → Prop} {v0_ : Value} {frames : List Frame} {r : List Int × Bool} (h0 : VR w0 S v0_ frames) (hF : spec_CounterGaps fu frames = some r) :
    Calls Try.prog 71 [v0_].toArray w0 fun e w' => ∃ v, e = .returned v ∧ (Below w0.heap.size w0 w' ∧ ∃ F0, ∃ u0 u1, v = .tuple #[u0, u1] ∧ VO w' F0 u0 r.1 ∧ VR w' (St ⟨w0, []⟩ S [] [] [] true) u1 r.2 ∧ New w0 w' F0) := by
  obtain ⟨A, c, rfl, hl⟩ := VR_list h0
  have H := Mem.start ⟨w0, []⟩ S
  have H := H.pushArg (MP.val [(.slice A frames.length c)] frames) hl
  refine enter Try.func71 rfl rfl (nle rfl) rfl fun a hf => ?_
  rw [spec_CounterGaps] at hF
  refine sq ?_
  refine reg ?_
  refine pRun_ok (tb := tab) (n := 36) tabOk 2 _ _ hf rfl rfl fun a hf => ?_
  refine wl_end ?_
  refine then_n ?_
  refine sq ?_
  refine reg ?_
  refine wl0 rfl (op_bslice hf H (.sh true) rfl 3 ([] : List Int) [] rfl (fun w => by kernel_rfl) rfl (by decide) rfl trivial el0 (by decide) fun A2 a w hf H => ?_)
  refine pRun_ok (tb := tab) (n := 36) tabOk 1 _ _ hf rfl rfl fun a hf => ?_
  refine wl_end ?_
  refine then_n ?_
  refine sq ?_
  refine sq ?_
  refine reg ?_
  refine pRun_ok (tb := tab) (n := 36) tabOk 1 _ _ hf rfl rfl fun a hf => ?_
  obtain ⟨y, hy, hF⟩ := bind_some hF
  refine wl0 rfl (op_call hf TF.cl131 rfl (by decide) (spec_l23Frames_ok (S := fun _ => True) (mk_list (rep_true (α := List Frame) (H.get 0 rfl))) hy) fun v w a hp hf => ?_)
  obtain ⟨hb, hp⟩ := hp
  obtain rfl := VR_bool hp
  have H := H.keep hb
  refine pRun_ok (tb := tab) (n := 36) tabOk 1 _ _ hf rfl rfl fun a hf => ?_
  refine wl_end ?_
  refine then_n ?_
  refine (Bool.eq_false_or_eq_true (!y)).elim (fun hc => ?_) (fun hc => ?_)
  · rw [if_pos hc] at hF
    refine cd_t hf rfl hc ?_
    refine sq ?_
    refine reg ?_
    refine pRun_ok (tb := tab) (n := 36) tabOk 3 _ _ hf rfl rfl fun a hf => ?_
    refine wl_end ?_
    refine then_n ?_
    refine wp_ret (then_r (?_))
    have H := H.rowOwn 0 rfl rfl
    obtain ⟨F, H⟩ := H.freezeOwn 0 rfl
    have H := H.lend 0 rfl
    obtain rfl := Option.some.inj hF
    refine ret_2 (fn := Try.f71) (r := .tmp 2) (s := .tmp 3) hf rfl (rv_tmp hf rfl) (rv_tmp hf rfl) ?_
    have hN : New w0 w F := by simpa using H.ends (X := [(⟨F, MP.own F [(.slice A2 0 0)] (([] : List Int) : List Int)⟩ : DI)])
    exact ⟨_, rfl, H.bel, F, _, _, rfl, (mko_list (H.ownAt 0 rfl)), mk_bool, hN⟩
  · rw [if_neg (nt hc)] at hF
    refine cd_f hf rfl hc ?_
    refine wp_skip ?_
    refine then_n ?_
    refine sq ?_
    refine sq ?_
    refine reg ?_
    refine pRun_ok (tb := tab) (n := 36) tabOk 1 _ _ hf rfl rfl fun a hf => ?_
    refine wl_end ?_
    refine then_n ?_
    obtain ⟨out2, hB1, hF⟩ := bind_some hF
    have hf := hf.prune [0, 4, 5] rfl
    have H := H.let [] [true] [] [0]
    have hI : (fun (s : List Int × Int) (a : Act) (w : World) => match s with | (out', i) => ∃ (A3 : Option Addr) (c2 : Nat), Fr a 36 [(0, (.slice A frames.length c)), (4, (.slice A3 out'.length c2)), (5, (.int .i64 i))] ∧ Mem ⟨w0, []⟩ S [] [⟨.sh true, 3, A3, c2, (out' : List Int)⟩] [] [(false, MP.val [(.slice A frames.length c)] (frames : List Frame))] w) (([] : List Int), 1) a w := ⟨A2, 0, hf, H⟩
    refine mid (fun a w => ∃ s : List Int × Int, out2 = s ∧ (fun (s : List Int × Int) (a : Act) (w : World) => match s with | (out', i) => ∃ (A3 : Option Addr) (c2 : Nat), Fr a 36 [(0, (.slice A frames.length c)), (4, (.slice A3 out'.length c2)), (5, (.int .i64 i))] ∧ Mem ⟨w0, []⟩ S [] [⟨.sh true, 3, A3, c2, (out' : List Int)⟩] [] [(false, MP.val [(.slice A frames.length c)] (frames : List Frame))] w) s a w) ?_ ?_
    · refine wp_block ?_
      refine loop_rule (fun k (s : List Int × Int) => spec_CounterGaps_L1 fu frames k s.1 s.2 = some out2) (fun (s : List Int × Int) (a : Act) (w : World) => match s with | (out', i) => ∃ (A3 : Option Addr) (c2 : Nat), Fr a 36 [(0, (.slice A frames.length c)), (4, (.slice A3 out'.length c2)), (5, (.int .i64 i))] ∧ Mem ⟨w0, []⟩ S [] [⟨.sh true, 3, A3, c2, (out' : List Int)⟩] [] [(false, MP.val [(.slice A frames.length c)] (frames : List Frame))] w) (fun s h => by cases h) ?_ fu (([] : List Int), 1) a w hB1 hI
      rintro fk ⟨out', i⟩ a w hR1 hI
      replace hR1 : spec_CounterGaps_L1 fu frames (fk + 1) out' i = some out2 := hR1
      rw [spec_CounterGaps_L1] at hR1
      obtain ⟨A3, c2, hf, H⟩ := hI
      refine sq ?_
      refine sq ?_
      refine reg ?_
      refine pRun_ok (tb := tab) (n := 36) tabOk 4 _ _ hf rfl rfl fun a hf => ?_
      refine wl_end ?_
      refine then_n ?_
      refine (Bool.eq_false_or_eq_true (decide (i < (frames.length : Int)))).elim (fun hc2 => ?_) (fun hc2 => ?_)
      · rw [if_pos hc2] at hR1
        refine cd_t hf rfl hc2 ?_
        refine wp_skip ?_
        refine then_n ?_
        refine sq ?_
        refine wp_block ?_
        refine sq ?_
        refine drawn [] (bs := [false, false, false, false, false, false, false, false, false, false, false, false, false, false]) (fuel := 14) (Checked.mixed Try.checked) rfl rfl fun w hb => ?_
        have H := H.keep hb
        refine tkP (i := 0) (bs' := [true, false, false, false, false, false, false, false, false, false, false, false, false, false]) rfl rfl rfl (by decide) hf (by kernel_rfl) (fun _ => trivial) (fun w => pOp_ok (tb := tab) tabOk hf rfl) rfl fun a hf => ?_
        refine tkP (i := 1) (bs' := [true, true, false, false, false, false, false, false, false, false, false, false, false, false]) rfl rfl rfl (by decide) hf (by kernel_rfl) (fun _ => trivial) (fun w => pOp_ok (tb := tab) tabOk hf rfl) rfl fun a hf => ?_
        obtain ⟨e, he, hR1⟩ := bind_some hR1
        obtain ⟨p, o, cs, hx, hr, H⟩ := pre_iaddr H Try.underlying78 TF.sz40 0 rfl he
        refine tkP (i := 2) (bs' := [true, true, true, false, false, false, false, false, false, false, false, false, false, false]) rfl rfl rfl (by decide) hf (by kernel_rfl) (fun _ => trivial) (fun w => rq_iaddrE hf rfl rfl rfl hx w) rfl fun a hf => ?_
        obtain ⟨A4, c3, rfl, hl2⟩ := Frame_cells hr
        have H := H.push (false, MP.val [(.slice A4 e.Payload.length c3)] e.Payload) hl2
        refine tkP (i := 3) (bs' := [true, true, true, true, false, false, false, false, false, false, false, false, false, false]) rfl rfl rfl (by decide) hf (by kernel_rfl) (fun _ => trivial) (fun w => pOp_ok (tb := tab) tabOk hf rfl) rfl fun a hf => ?_
        refine str (fun w => Mem ⟨w0, []⟩ S [] [⟨.sh true, 3, A3, c2, (out' : List Int)⟩] [] [(false, MP.val [(.slice A4 e.Payload.length c3)] (e.Payload : List Int)), (false, MP.cells ⟨p, o, none⟩ [(.int .i64 e.Counter), (.int .i64 e.Pointer), (.slice A4 e.Payload.length c3)]), (false, MP.val [(.slice A frames.length c)] (frames : List Frame))] w) (fun w H => trivial) ?_
        have hS : Mem ⟨w0, []⟩ S [] [⟨.sh true, 3, A3, c2, (out' : List Int)⟩] [] [(false, MP.val [(.slice A4 e.Payload.length c3)] (e.Payload : List Int)), (false, MP.cells ⟨p, o, none⟩ [(.int .i64 e.Counter), (.int .i64 e.Pointer), (.slice A4 e.Payload.length c3)]), (false, MP.val [(.slice A frames.length c)] (frames : List Frame))] w := H.let [] [true] [] [0, 1, 2]
        refine tkS (i := 4) (bs' := [true, true, true, true, true, false, false, false, false, false, false, false, false, false]) [] rfl rfl rfl (by decide) hf (by kernel_rfl) (by kernel_rfl) hS (fun w H => rq_loadI hf H TF.ls3 1 0 rfl rfl rfl) rfl fun a hf => ?_
        refine tkP (i := 5) (bs' := [true, true, true, true, true, true, false, false, false, false, false, false, false, false]) rfl rfl rfl (by decide) hf (by kernel_rfl) (fun _ => hS) (fun w => pOp_ok (tb := tab) tabOk hf rfl) rfl fun a hf => ?_
        refine tkP (i := 6) (bs' := [true, true, true, true, true, true, true, false, false, false, false, false, false, false]) rfl rfl rfl (by decide) hf (by kernel_rfl) (fun _ => hS) (fun w => pOp_ok (tb := tab) tabOk hf rfl) rfl fun a hf => ?_
        refine tkP (i := 7) (bs' := [true, true, true, true, true, true, true, true, false, false, false, false, false, false]) rfl rfl rfl (by decide) hf (by kernel_rfl) (fun _ => hS) (fun w => pOp_ok (tb := tab) tabOk hf rfl) rfl fun a hf => ?_
        obtain ⟨e2, he2, hR1⟩ := bind_some hR1
        obtain ⟨p2, o2, cs2, hx2, hr2, H⟩ := pre_iaddr H Try.underlying78 TF.sz40 2 rfl he2
        refine tkP (i := 8) (bs' := [true, true, true, true, true, true, true, true, true, false, false, false, false, false]) rfl rfl rfl (by decide) hf (by kernel_rfl) (fun _ => hS) (fun w => rq_iaddrE hf rfl rfl rfl hx2 w) rfl fun a hf => ?_
        obtain ⟨A5, c4, rfl, hl3⟩ := Frame_cells hr2
        have H := H.push (false, MP.val [(.slice A5 e2.Payload.length c4)] e2.Payload) hl3
        refine tkP (i := 9) (bs' := [true, true, true, true, true, true, true, true, true, true, false, false, false, false]) rfl rfl rfl (by decide) hf (by kernel_rfl) (fun _ => hS) (fun w => pOp_ok (tb := tab) tabOk hf rfl) rfl fun a hf => ?_
        refine str (fun w => Mem ⟨w0, []⟩ S [] [⟨.sh true, 3, A3, c2, (out' : List Int)⟩] [] [(false, MP.val [(.slice A5 e2.Payload.length c4)] (e2.Payload : List Int)), (false, MP.cells ⟨p2, o2, none⟩ [(.int .i64 e2.Counter), (.int .i64 e2.Pointer), (.slice A5 e2.Payload.length c4)]), (false, MP.val [(.slice A4 e.Payload.length c3)] (e.Payload : List Int)), (false, MP.cells ⟨p, o, none⟩ [(.int .i64 e.Counter), (.int .i64 e.Pointer), (.slice A4 e.Payload.length c3)]), (false, MP.val [(.slice A frames.length c)] (frames : List Frame))] w) (fun w H => H.let [] [true] [] [2, 3, 4]) ?_
        have hS : Mem ⟨w0, []⟩ S [] [⟨.sh true, 3, A3, c2, (out' : List Int)⟩] [] [(false, MP.val [(.slice A5 e2.Payload.length c4)] (e2.Payload : List Int)), (false, MP.cells ⟨p2, o2, none⟩ [(.int .i64 e2.Counter), (.int .i64 e2.Pointer), (.slice A5 e2.Payload.length c4)]), (false, MP.val [(.slice A4 e.Payload.length c3)] (e.Payload : List Int)), (false, MP.cells ⟨p, o, none⟩ [(.int .i64 e.Counter), (.int .i64 e.Pointer), (.slice A4 e.Payload.length c3)]), (false, MP.val [(.slice A frames.length c)] (frames : List Frame))] w := H.let [] [true] [] [0, 1, 2, 3, 4]
        refine tkS (i := 10) (bs' := [true, true, true, true, true, true, true, true, true, true, true, false, false, false]) [] rfl rfl rfl (by decide) hf (by kernel_rfl) (by kernel_rfl) hS (fun w H => rq_loadI hf H TF.ls3 1 0 rfl rfl rfl) rfl fun a hf => ?_
        refine tkP (i := 11) (bs' := [true, true, true, true, true, true, true, true, true, true, true, true, false, false]) rfl rfl rfl (by decide) hf (by kernel_rfl) (fun _ => hS) (fun w => pOp_ok (tb := tab) tabOk hf rfl) rfl fun a hf => ?_
        obtain ⟨q, hq, hR1⟩ := bind_some hR1
        refine tkP (i := 12) (bs' := [true, true, true, true, true, true, true, true, true, true, true, true, true, false]) rfl rfl rfl (by decide) hf (by kernel_rfl) (fun _ => hS) (fun w => rq_rem hf rfl rfl hq) rfl fun a hf => ?_
        refine tkP (i := 13) (bs' := [true, true, true, true, true, true, true, true, true, true, true, true, true, true]) rfl rfl rfl (by decide) hf (by kernel_rfl) (fun _ => hS) (fun w => pOp_ok (tb := tab) tabOk hf rfl) rfl fun a hf => ?_
        refine dn (by kernel_rfl) ?_
        have hf := hf.prune [0, 4, 5, 30] rfl
        refine then_n ?_
        refine (Bool.eq_false_or_eq_true (e.Counter != q)).elim (fun hc3 => ?_) (fun hc3 => ?_)
        · rw [if_pos hc3] at hR1
          refine cd_t hf rfl hc3 ?_
          refine reg ?_
          refine pRun_ok (tb := tab) (n := 36) tabOk 2 _ _ hf rfl rfl fun a hf => ?_
          refine wl0 rfl (op_bslice hf H (.sh true) rfl 3 ([i] : List Int) [(.int .i64 i)] rfl (fun w => by kernel_rfl) rfl (by decide) rfl trivial (el1 (y := i) rfl) (by decide) fun A6 a w hf H => ?_)
          obtain ⟨l, hl, hR1⟩ := bind_some hR1
          refine wl0 rfl (op_appR hf H Try.underlying35 TF.ai3 rfl (by decide) 1 0 rfl rfl rfl rfl (.inr rfl) hl (by decide) fun A7 c5 a w hf H => ?_)
          refine pRun_ok (tb := tab) (n := 36) tabOk 1 _ _ hf rfl rfl fun a hf => ?_
          refine wl_end ?_
          refine blk_n ?_
          refine then_n ?_
          refine reg ?_
          refine pRun_ok (tb := tab) (n := 36) tabOk 3 _ _ hf rfl rfl fun a hf => ?_
          refine wl_end ?_
          have hf := hf.prune [0, 4, 5] rfl
          have H := H.let [] [false, true] [] [4]
          exact then_n ⟨(l, w64 (i + 1)), hR1, A7, c5, hf, H⟩
        · rw [if_neg (nt hc3)] at hR1
          refine cd_f hf rfl hc3 ?_
          refine wp_skip ?_
          refine blk_n ?_
          refine then_n ?_
          refine reg ?_
          refine pRun_ok (tb := tab) (n := 36) tabOk 3 _ _ hf rfl rfl fun a hf => ?_
          refine wl_end ?_
          have hf := hf.prune [0, 4, 5] rfl
          have H := H.let [] [true] [] [4]
          exact then_n ⟨(out', w64 (i + 1)), hR1, A3, c2, hf, H⟩
      · rw [if_neg (nt hc2)] at hR1
        refine cd_f hf rfl hc2 ?_
        refine wp_exit (then_x (then_x (blk_e (?_))))
        have hf := hf.prune [0, 4, 5] rfl
        have H := H.let [] [true] [] [0]
        exact ⟨(out', i), (Option.some.inj hR1).symm, A3, c2, hf, H⟩
    rintro a w ⟨⟨out3, i2⟩, rfl, A8, c6, hf, H⟩
    dsimp only at hF
    refine then_n ?_
    refine sq ?_
    refine reg ?_
    refine pRun_ok (tb := tab) (n := 36) tabOk 3 _ _ hf rfl rfl fun a hf => ?_
    refine wl_end ?_
    refine then_n ?_
    refine wp_ret (?_)
    have H := H.rowOwn 0 rfl rfl
    obtain ⟨F2, H⟩ := H.freezeOwn 0 rfl
    have H := H.lend 0 rfl
    obtain rfl := Option.some.inj hF
    refine ret_2 (fn := Try.f71) (r := .tmp 2) (s := .tmp 3) hf rfl (rv_tmp hf rfl) (rv_tmp hf rfl) ?_
    have hN : New w0 w F2 := by simpa using H.ends (X := [(⟨F2, MP.own F2 [(.slice A8 out3.length c6)] (out3 : List Int)⟩ : DI)])
    exact ⟨_, rfl, H.bel, F2, _, _, rfl, (mko_list (H.ownAt 0 rfl)), mk_bool, hN⟩

/- loop.example/g00897/impl.within -/
set_option maxHeartbeats 1000000 in
theorem impl_within_ok {fu : Nat} {w0 : World} {S : Nat → Prop} {v0_ : Value} {v1_ : Value} {v2_ : Value} {n' : Int} {low : Int} {high : Int} {r : Bool} (h0 : VR w0 S v0_ n') (h1 : VR w0 S v1_ low) (h2 : VR w0 S v2_ high) (hF : impl_within fu n' low high = some r) :
    Calls Try.prog 98 [v0_, v1_, v2_].toArray w0 fun e w' => ∃ v, e = .returned v ∧ (Below w0.heap.size w0 w' ∧ VR w' (St ⟨w0, []⟩ S [] [] [] true) v r) := by
  obtain rfl := VR_int h0
  obtain rfl := VR_int h1
  obtain rfl := VR_int h2
  have H := Mem.start ⟨w0, []⟩ S
  refine enter Try.func98 rfl rfl (nle rfl) rfl fun a hf => ?_
  rw [impl_within] at hF
  refine sq ?_
  refine reg ?_
  refine pRun_ok (tb := tab) (n := 15) tabOk 1 _ _ hf rfl rfl fun a hf => ?_
  refine wl_end ?_
  refine then_n ?_
  refine sq ?_
  obtain ⟨c, hGc, hF⟩ := bind_some hF
  refine mid (fun a w => Fr a 15 [(6, (.bool c))] ∧ Mem ⟨w0, []⟩ S [] [] [] [] w) ?_ ?_
  · refine reg ?_
    refine pRun_ok (tb := tab) (n := 15) tabOk 4 _ _ hf rfl rfl fun a hf => ?_
    refine (Bool.eq_false_or_eq_true (decide (low ≤ n'))).elim (fun hc => ?_) (fun hc => ?_)
    · rw [if_pos hc] at hGc
      have hf := hf.lit 10 rfl hc
      refine pRun_ok (tb := tab) (n := 15) tabOk 5 _ _ hf rfl rfl fun a hf => ?_
      obtain rfl := Option.some.inj hGc
      have hf := hf.prune [6] rfl
      have H := H.let [] [] [] []
      exact wl_end ⟨hf, H⟩
    · rw [if_neg (nt hc)] at hGc
      have hf := hf.lit 10 rfl hc
      refine pRun_ok (tb := tab) (n := 15) tabOk 5 _ _ hf rfl rfl fun a hf => ?_
      obtain rfl := Option.some.inj hGc
      have hf := hf.prune [6] rfl
      have H := H.let [] [] [] []
      exact wl_end ⟨hf, H⟩
  rintro a w ⟨hf, H⟩
  refine then_n ?_
  refine wp_ret (?_)
  obtain rfl := Option.some.inj hF
  refine ret_1 (fn := Try.f98) (r := .tmp 6) hf rfl (rv_tmp hf rfl) ?_
  exact ⟨_, rfl, H.bel, mk_bool⟩

/- loop.example/g00897/impl.areBytes$1 -/
set_option maxHeartbeats 1000000 in
theorem impl_areBytes_c1_ok {fu : Nat} {w0 : World} {S : Nat → Prop} {v0_ : Value} {b' : Int} {r : Bool} (h0 : VR w0 S v0_ b') (hF : impl_areBytes_c1 fu b' = some r) :
    Calls Try.prog 153 [v0_].toArray w0 fun e w' => ∃ v, e = .returned v ∧ (Below w0.heap.size w0 w' ∧ VR w' (St ⟨w0, []⟩ S [] [] [] true) v r) := by
  obtain rfl := VR_int h0
  have H := Mem.start ⟨w0, []⟩ S
  refine enter Try.func153 rfl rfl (nle rfl) rfl fun a hf => ?_
  rw [impl_areBytes_c1] at hF
  refine sq ?_
  refine reg ?_
  refine pRun_ok (tb := tab) (n := 6) tabOk 1 _ _ hf rfl rfl fun a hf => ?_
  refine wl_end ?_
  refine then_n ?_
  refine sq ?_
  refine reg ?_
  refine pRun_ok (tb := tab) (n := 6) tabOk 1 _ _ hf rfl rfl fun a hf => ?_
  obtain ⟨y, hy, hF⟩ := bind_some hF
  refine wl0 rfl (op_call hf TF.cl98 rfl (by decide) (impl_within_ok (S := fun _ => True) mk_int mk_int mk_int hy) fun v w a hp hf => ?_)
  obtain ⟨hb, hp⟩ := hp
  obtain rfl := VR_bool hp
  have H := H.keep hb
  refine pRun_ok (tb := tab) (n := 6) tabOk 2 _ _ hf rfl rfl fun a hf => ?_
  refine wl_end ?_
  refine then_n ?_
  refine wp_ret (?_)
  obtain rfl := Option.some.inj hF
  refine ret_1 (fn := Try.f153) (r := .tmp 2) hf rfl (rv_tmp hf rfl) ?_
  exact ⟨_, rfl, H.bel, mk_bool⟩

/- slices.IndexFunc[[]int,int] -/
set_option maxHeartbeats 1000000 in
theorem slices_IndexFunc_int_int_of_areBytes_c1_ok {fu : Nat} {w0 : World} {S : Nat → Prop} {v0_ : Value} {s' : List Int} {r : Int} (h0 : VR w0 S v0_ s') (hF : slices_IndexFunc_int_int_of_areBytes_c1 fu s' = some r) :
    Calls Try.prog 155 [v0_, (.func (.func 153) #[] #[])].toArray w0 fun e w' => ∃ v, e = .returned v ∧ (Below w0.heap.size w0 w' ∧ VR w' (St ⟨w0, []⟩ S [] [] [] true) v r) := by
  obtain ⟨A, c, rfl, hl⟩ := VR_list h0
  have H := Mem.start ⟨w0, []⟩ S
  have H := H.pushArg (MP.val [(.slice A s'.length c)] s') hl
  refine enter Try.func155 rfl rfl (nle rfl) rfl fun a hf => ?_
  rw [slices_IndexFunc_int_int_of_areBytes_c1] at hF
  refine sq ?_
  refine reg ?_
  refine pRun_ok (tb := tab) (n := 19) tabOk 1 _ _ hf rfl rfl fun a hf => ?_
  refine wl_end ?_
  refine then_n ?_
  refine sq ?_
  refine sq ?_
  refine reg ?_
  refine pRun_ok (tb := tab) (n := 19) tabOk 3 _ _ hf rfl rfl fun a hf => ?_
  refine wl_end ?_
  refine then_n ?_
  obtain ⟨out', hB1, hF⟩ := bind_some hF
  have hf := hf.prune [0, 1, 7, 8] rfl
  have H := H.let [] [] [] [0]
  have hI : (fun (s : Int) (a : Act) (w : World) => match s with | i => Fr a 19 [(0, (.slice A s'.length c)), (1, (.func (.func 153) #[] #[])), (7, (.int .i64 (s'.length : Int))), (8, (.int .i64 i))] ∧ Mem ⟨w0, []⟩ S [] [] [] [(false, MP.val [(.slice A s'.length c)] (s' : List Int))] w) 0 a w0 := ⟨hf, H⟩
  refine mid (fun a w => ∃ s : Int, out' = Out.next s ∧ (fun (s : Int) (a : Act) (w : World) => match s with | i => Fr a 19 [(0, (.slice A s'.length c)), (1, (.func (.func 153) #[] #[])), (7, (.int .i64 (s'.length : Int))), (8, (.int .i64 i))] ∧ Mem ⟨w0, []⟩ S [] [] [] [(false, MP.val [(.slice A s'.length c)] (s' : List Int))] w) s a w) ?_ ?_
  · refine wp_block ?_
    refine loop_rule (fun k (s : Int) => slices_IndexFunc_int_int_of_areBytes_c1_L1 fu s' k s = some out') (fun (s : Int) (a : Act) (w : World) => match s with | i => Fr a 19 [(0, (.slice A s'.length c)), (1, (.func (.func 153) #[] #[])), (7, (.int .i64 (s'.length : Int))), (8, (.int .i64 i))] ∧ Mem ⟨w0, []⟩ S [] [] [] [(false, MP.val [(.slice A s'.length c)] (s' : List Int))] w) (fun s h => by cases h) ?_ fu 0 a w0 hB1 hI
    rintro fk i a w hR1 hI
    replace hR1 : slices_IndexFunc_int_int_of_areBytes_c1_L1 fu s' (fk + 1) i = some out' := hR1
    rw [slices_IndexFunc_int_int_of_areBytes_c1_L1] at hR1
    obtain ⟨hf, H⟩ := hI
    refine sq ?_
    refine reg ?_
    refine pRun_ok (tb := tab) (n := 19) tabOk 1 _ _ hf rfl rfl fun a hf => ?_
    refine wl_end ?_
    refine then_n ?_
    refine sq ?_
    refine (Bool.eq_false_or_eq_true (decide (i < (s'.length : Int)))).elim (fun hc => ?_) (fun hc => ?_)
    · rw [if_pos hc] at hR1
      refine cd_t hf rfl hc ?_
      refine wp_skip ?_
      refine then_n ?_
      refine sq ?_
      refine wp_block ?_
      refine sq ?_
      refine reg ?_
      refine pRun_ok (tb := tab) (n := 19) tabOk 2 _ _ hf rfl rfl fun a hf => ?_
      refine wl_end ?_
      refine then_n ?_
      refine sq ?_
      refine reg ?_
      refine pRun_ok (tb := tab) (n := 19) tabOk 3 _ _ hf rfl rfl fun a hf => ?_
      obtain ⟨e, he, hR1⟩ := bind_some hR1
      refine wl0 rfl (op_iaddr hf H Try.underlying35 TF.sz3 0 rfl rfl rfl he (by decide) fun p o cs a hf hr H => ?_)
      obtain rfl := hr
      refine wl0 rfl (op_q hf (rq_loadI hf H TF.ls3 0 0 rfl rfl rfl) rfl (by decide) fun a hf => ?_)
      obtain ⟨y, hy, hR1⟩ := bind_some hR1
      refine wl0 rfl (op_callV hf TF.cl153 rfl rfl (by decide) (impl_areBytes_c1_ok (S := fun _ => True) mk_int hy) fun v w a hp hf => ?_)
      obtain ⟨hb, hp⟩ := hp
      obtain rfl := VR_bool hp
      have H := H.keep hb
      refine wl_end ?_
      refine then_n ?_
      refine (Bool.eq_false_or_eq_true (y)).elim (fun hc2 => ?_) (fun hc2 => ?_)
      · rw [if_pos hc2] at hR1
        refine cd_t hf rfl hc2 ?_
        refine sq ?_
        refine reg ?_
        refine pRun_ok (tb := tab) (n := 19) tabOk 2 _ _ hf rfl rfl fun a hf => ?_
        have hf := hf.prune [4] rfl
        refine wl_end ?_
        refine then_n ?_
        refine wp_ret (blk_r (then_r (then_r (blk_r (then_r (then_r (?_)))))))
        obtain rfl := Option.some.inj hR1
        replace hF := on_ret hF
        obtain rfl := Option.some.inj hF
        refine ret_1 (fn := Try.f155) (r := .tmp 4) hf rfl (rv_tmp hf rfl) ?_
        exact ⟨_, rfl, H.bel, mk_int⟩
      · rw [if_neg (nt hc2)] at hR1
        refine cd_f hf rfl hc2 ?_
        refine wp_skip ?_
        refine blk_n ?_
        refine then_n ?_
        refine reg ?_
        refine pRun_ok (tb := tab) (n := 19) tabOk 2 _ _ hf rfl rfl fun a hf => ?_
        refine wl_end ?_
        have hf := hf.prune [0, 1, 7, 8] rfl
        have H := H.let [] [] [] [1]
        exact then_n ⟨w64 (i + 1), hR1, hf, H⟩
    · rw [if_neg (nt hc)] at hR1
      refine cd_f hf rfl hc ?_
      refine wp_exit (then_x (then_x (blk_e (?_))))
      have hf := hf.prune [0, 1, 7, 8] rfl
      have H := H.let [] [] [] [0]
      exact ⟨i, (Option.some.inj hR1).symm, hf, H⟩
  rintro a w ⟨i2, rfl, hf, H⟩
  replace hF := on_next hF
  refine then_n ?_
  refine sq ?_
  refine reg ?_
  refine pRun_ok (tb := tab) (n := 19) tabOk 1 _ _ hf rfl rfl fun a hf => ?_
  refine wl_end ?_
  refine then_n ?_
  refine wp_ret (?_)
  obtain rfl := Option.some.inj hF
  refine ret_1 (fn := Try.f155) (r := .tmp 4) hf rfl (rv_tmp hf rfl) ?_
  exact ⟨_, rfl, H.bel, mk_int⟩

/- slices.ContainsFunc[[]int,int] -/
set_option maxHeartbeats 1000000 in
theorem slices_ContainsFunc_int_int_of_areBytes_c1_ok {fu : Nat} {w0 : World} {S : Nat → Prop} {v0_ : Value} {s' : List Int} {r : Bool} (h0 : VR w0 S v0_ s') (hF : slices_ContainsFunc_int_int_of_areBytes_c1 fu s' = some r) :
    Calls Try.prog 115 [v0_, (.func (.func 153) #[] #[])].toArray w0 fun e w' => ∃ v, e = .returned v ∧ (Below w0.heap.size w0 w' ∧ VR w' (St ⟨w0, []⟩ S [] [] [] true) v r) := by
  obtain ⟨A, c, rfl, hl⟩ := VR_list h0
  have H := Mem.start ⟨w0, []⟩ S
  have H := H.pushArg (MP.val [(.slice A s'.length c)] s') hl
  refine enter Try.func115 rfl rfl (nle rfl) rfl fun a hf => ?_
  rw [slices_ContainsFunc_int_int_of_areBytes_c1] at hF
  refine sq ?_
  refine reg ?_
  refine pRun_ok (tb := tab) (n := 9) tabOk 1 _ _ hf rfl rfl fun a hf => ?_
  refine wl_end ?_
  refine then_n ?_
  refine sq ?_
  refine reg ?_
  refine pRun_ok (tb := tab) (n := 9) tabOk 2 _ _ hf rfl rfl fun a hf => ?_
  obtain ⟨y, hy, hF⟩ := bind_some hF
  refine wl0 rfl (op_call hf TF.cl155 rfl (by decide) (slices_IndexFunc_int_int_of_areBytes_c1_ok (S := fun _ => True) (mk_list (rep_true (α := List Int) (H.get 0 rfl))) hy) fun v w a hp hf => ?_)
  obtain ⟨hb, hp⟩ := hp
  obtain rfl := VR_int hp
  have H := H.keep hb
  refine pRun_ok (tb := tab) (n := 9) tabOk 2 _ _ hf rfl rfl fun a hf => ?_
  refine wl_end ?_
  refine then_n ?_
  refine wp_ret (?_)
  obtain rfl := Option.some.inj hF
  refine ret_1 (fn := Try.f115) (r := .tmp 4) hf rfl (rv_tmp hf rfl) ?_
  exact ⟨_, rfl, H.bel, mk_bool⟩

/- loop.example/g00897/impl.areBytes -/
set_option maxHeartbeats 1000000 in
theorem impl_areBytes_ok {fu : Nat} {w0 : World} {S : Nat → Prop} {v0_ : Value} {l : List Int} {r : Bool} (h0 : VR w0 S v0_ l) (hF : impl_areBytes fu l = some r) :
    Calls Try.prog 111 [v0_].toArray w0 fun e w' => ∃ v, e = .returned v ∧ (Below w0.heap.size w0 w' ∧ VR w' (St ⟨w0, []⟩ S [] [] [] true) v r) := by
  obtain ⟨A, c, rfl, hl⟩ := VR_list h0
  have H := Mem.start ⟨w0, []⟩ S
  have H := H.pushArg (MP.val [(.slice A l.length c)] l) hl
  refine enter Try.func111 rfl rfl (nle rfl) rfl fun a hf => ?_
  rw [impl_areBytes] at hF
  refine sq ?_
  refine reg ?_
  refine pRun_ok (tb := tab) (n := 6) tabOk 1 _ _ hf rfl rfl fun a hf => ?_
  refine wl_end ?_
  refine then_n ?_
  refine sq ?_
  refine reg ?_
  refine pRun_ok (tb := tab) (n := 6) tabOk 1 _ _ hf rfl rfl fun a hf => ?_
  obtain ⟨y, hy, hF⟩ := bind_some hF
  refine wl0 rfl (op_call hf TF.cl115 rfl (by decide) (slices_ContainsFunc_int_int_of_areBytes_c1_ok (S := fun _ => True) (mk_list (rep_true (α := List Int) (H.get 0 rfl))) hy) fun v w a hp hf => ?_)
  obtain ⟨hb, hp⟩ := hp
  obtain rfl := VR_bool hp
  have H := H.keep hb
  refine pRun_ok (tb := tab) (n := 6) tabOk 2 _ _ hf rfl rfl fun a hf => ?_
  refine wl_end ?_
  refine then_n ?_
  refine wp_ret (?_)
  obtain rfl := Option.some.inj hF
  refine ret_1 (fn := Try.f111) (r := .tmp 2) hf rfl (rv_tmp hf rfl) ?_
  exact ⟨_, rfl, H.bel, mk_bool⟩

/- loop.example/g00897/impl.IsValidFrame -/
set_option maxHeartbeats 1000000 in
theorem impl_IsValidFrame_ok {fu : Nat} {w0 : World} {S : Nat → Prop} {v0_ : Value} {f : Frame} {r : Bool} (h0 : VR w0 S v0_ f) (hF : impl_IsValidFrame fu f = some r) :
    Calls Try.prog 38 [v0_].toArray w0 fun e w' => ∃ v, e = .returned v ∧ (Below w0.heap.size w0 w' ∧ VR w' (St ⟨w0, []⟩ S [] [] [] true) v r) := by
  obtain ⟨A, c, rfl, hl⟩ := Frame_open h0
  have H := Mem.start ⟨w0, []⟩ S
  have H := H.pushArg (MP.val [(.slice A f.Payload.length c)] f.Payload) hl
  refine enter Try.func38 rfl rfl (nle rfl) rfl fun a hf => ?_
  rw [impl_IsValidFrame] at hF
  refine sq ?_
  refine reg ?_
  refine wl0 rfl (op_box hf H rfl rfl (by decide) fun b' a w hf H => ?_)
  refine pRun_ok (tb := tab) (n := 22) tabOk 1 _ _ hf rfl rfl fun a hf => ?_
  refine wl_end ?_
  refine then_n ?_
  refine sq ?_
  obtain ⟨c2, hGc2, hF⟩ := bind_some hF
  refine mid (fun a w => Fr a 22 [(2, (.bool c2))] ∧ Mem ⟨w0, []⟩ S [] [] [] [] w) ?_ ?_
  · refine reg ?_
    refine pRun_ok (tb := tab) (n := 22) tabOk 1 _ _ hf rfl rfl fun a hf => ?_
    refine wl0 rfl (op_q hf (rq_loadB hf H TF.ls3 0 rfl rfl rfl) rfl (by decide) fun a hf => ?_)
    obtain ⟨y, hy, hGc2⟩ := bind_some hGc2
    refine wl0 rfl (op_call hf TF.cl98 rfl (by decide) (impl_within_ok (S := fun _ => True) mk_int mk_int mk_int hy) fun v w a hp hf => ?_)
    obtain ⟨hb, hp⟩ := hp
    obtain rfl := VR_bool hp
    have H := H.keep hb
    refine pRun_ok (tb := tab) (n := 22) tabOk 1 _ _ hf rfl rfl fun a hf => ?_
    refine (Bool.eq_false_or_eq_true (y)).elim (fun hc => ?_) (fun hc => ?_)
    · rw [if_pos hc] at hGc2
      have hf := hf.lit 6 rfl hc
      refine pRun_ok (tb := tab) (n := 22) tabOk 1 _ _ hf rfl rfl fun a hf => ?_
      refine wlg hf rfl rfl rfl (op_q hf (rq_loadB hf H TF.ls3 0 rfl rfl rfl) rfl (by decide) fun a hf => ?_)
      obtain ⟨y2, hy2, hGc2⟩ := bind_some hGc2
      refine wlg hf rfl rfl rfl (op_call hf TF.cl98 rfl (by decide) (impl_within_ok (S := fun _ => True) mk_int mk_int mk_int hy2) fun v2 w a hp2 hf => ?_)
      obtain ⟨hb2, hp2⟩ := hp2
      obtain rfl := VR_bool hp2
      have H := H.keep hb2
      refine pRun_ok (tb := tab) (n := 22) tabOk 2 _ _ hf rfl rfl fun a hf => ?_
      refine (Bool.eq_false_or_eq_true (y2)).elim (fun hc2 => ?_) (fun hc2 => ?_)
      · rw [if_pos hc2] at hGc2
        have hf := hf.lit 11 rfl hc2
        refine pRun_ok (tb := tab) (n := 22) tabOk 1 _ _ hf rfl rfl fun a hf => ?_
        refine wlg hf rfl rfl rfl (op_q hf (rq_loadB hf H TF.ls35 0 rfl rfl rfl) rfl (by decide) fun a hf => ?_)
        refine pRun_ok (tb := tab) (n := 22) tabOk 4 _ _ hf rfl rfl fun a hf => ?_
        refine (Bool.eq_false_or_eq_true ((f.Payload.length : Int) == 12)).elim (fun hc3 => ?_) (fun hc3 => ?_)
        · rw [if_pos hc3] at hGc2
          have hf := hf.lit 17 rfl hc3
          refine pRun_ok (tb := tab) (n := 22) tabOk 1 _ _ hf rfl rfl fun a hf => ?_
          refine wlg hf rfl rfl rfl (op_q hf (rq_loadB hf H TF.ls35 0 rfl rfl rfl) rfl (by decide) fun a hf => ?_)
          obtain ⟨y3, hy3, hGc2⟩ := bind_some hGc2
          refine wlg hf rfl rfl rfl (op_call hf TF.cl111 rfl (by decide) (impl_areBytes_ok (S := fun _ => True) (mk_list (rep_true (α := List Int) (H.get 0 rfl))) hy3) fun v3 w a hp3 hf => ?_)
          obtain ⟨hb3, hp3⟩ := hp3
          obtain rfl := VR_bool hp3
          have H := H.keep hb3
          refine pRun_ok (tb := tab) (n := 22) tabOk 2 _ _ hf rfl rfl fun a hf => ?_
          obtain rfl := Option.some.inj hGc2
          have hf := hf.prune [2] rfl
          have H := H.let [false] [] [] []
          exact wl_end ⟨hf, H⟩
        · rw [if_neg (nt hc3)] at hGc2
          have hf := hf.lit 17 rfl hc3
          refine pRun_ok (tb := tab) (n := 22) tabOk 5 _ _ hf rfl rfl fun a hf => ?_
          obtain rfl := Option.some.inj hGc2
          have hf := hf.prune [2] rfl
          have H := H.let [false] [] [] []
          exact wl_end ⟨hf, H⟩
      · rw [if_neg (nt hc2)] at hGc2
        have hf := hf.lit 11 rfl hc2
        refine pRun_ok (tb := tab) (n := 22) tabOk 11 _ _ hf rfl rfl fun a hf => ?_
        obtain rfl := Option.some.inj hGc2
        have hf := hf.prune [2] rfl
        have H := H.let [false] [] [] []
        exact wl_end ⟨hf, H⟩
    · rw [if_neg (nt hc)] at hGc2
      have hf := hf.lit 6 rfl hc
      refine pRun_ok (tb := tab) (n := 22) tabOk 16 _ _ hf rfl rfl fun a hf => ?_
      obtain rfl := Option.some.inj hGc2
      have hf := hf.prune [2] rfl
      have H := H.let [false] [] [] []
      exact wl_end ⟨hf, H⟩
  rintro a w ⟨hf, H⟩
  refine then_n ?_
  refine wp_ret (?_)
  obtain rfl := Option.some.inj hF
  refine ret_1 (fn := Try.f38) (r := .tmp 2) hf rfl (rv_tmp hf rfl) ?_
  exact ⟨_, rfl, H.bel, mk_bool⟩

/- loop.example/g00897/impl.areFrames$1 -/
set_option maxHeartbeats 1000000 in
theorem impl_areFrames_c1_ok {fu : Nat} {w0 : World} {S : Nat → Prop} {v0_ : Value} {f : Frame} {r : Bool} (h0 : VR w0 S v0_ f) (hF : impl_areFrames_c1 fu f = some r) :
    Calls Try.prog 158 [v0_].toArray w0 fun e w' => ∃ v, e = .returned v ∧ (Below w0.heap.size w0 w' ∧ VR w' (St ⟨w0, []⟩ S [] [] [] true) v r) := by
  obtain ⟨A, c, rfl, hl⟩ := Frame_open h0
  have H := Mem.start ⟨w0, []⟩ S
  have H := H.pushArg (MP.val [(.slice A f.Payload.length c)] f.Payload) hl
  refine enter Try.func158 rfl rfl (nle rfl) rfl fun a hf => ?_
  rw [impl_areFrames_c1] at hF
  refine sq ?_
  refine reg ?_
  refine wl0 rfl (op_box hf H rfl rfl (by decide) fun b' a w hf H => ?_)
  refine pRun_ok (tb := tab) (n := 6) tabOk 1 _ _ hf rfl rfl fun a hf => ?_
  refine wl_end ?_
  refine then_n ?_
  refine sq ?_
  refine reg ?_
  refine wl0 rfl (op_q hf (rq_loadBN hf H TF.la40 0 rfl rfl rfl rfl) rfl (by decide) fun a hf => ?_)
  obtain ⟨y, hy, hF⟩ := bind_some hF
  refine wl0 rfl (op_call hf TF.cl38 rfl (by decide) (impl_IsValidFrame_ok (S := fun _ => True) (Frame_mkv (rep_true (α := List Int) (H.get 0 rfl))) hy) fun v w a hp hf => ?_)
  obtain ⟨hb, hp⟩ := hp
  obtain rfl := VR_bool hp
  have H := H.keep hb
  refine pRun_ok (tb := tab) (n := 6) tabOk 2 _ _ hf rfl rfl fun a hf => ?_
  refine wl_end ?_
  refine then_n ?_
  refine wp_ret (?_)
  obtain rfl := Option.some.inj hF
  refine ret_1 (fn := Try.f158) (r := .tmp 2) hf rfl (rv_tmp hf rfl) ?_
  exact ⟨_, rfl, H.bel, mk_bool⟩

/- slices.IndexFunc[[]loop.example/g00897/impl.Frame,loop.example/g00897/impl.Frame] -/
set_option maxHeartbeats 1000000 in
theorem slices_IndexFunc_impl_Frame_impl_Frame_of_areFrames_c1_ok {fu : Nat} {w0 : World} {S : Nat → Prop} {v0_ : Value} {s' : List Frame} {r : Int} (h0 : VR w0 S v0_ s') (hF : slices_IndexFunc_impl_Frame_impl_Frame_of_areFrames_c1 fu s' = some r) :
    Calls Try.prog 165 [v0_, (.func (.func 158) #[] #[])].toArray w0 fun e w' => ∃ v, e = .returned v ∧ (Below w0.heap.size w0 w' ∧ VR w' (St ⟨w0, []⟩ S [] [] [] true) v r) := by
  obtain ⟨A, c, rfl, hl⟩ := VR_list h0
  have H := Mem.start ⟨w0, []⟩ S
  have H := H.pushArg (MP.val [(.slice A s'.length c)] s') hl
  refine enter Try.func165 rfl rfl (nle rfl) rfl fun a hf => ?_
  rw [slices_IndexFunc_impl_Frame_impl_Frame_of_areFrames_c1] at hF
  refine sq ?_
  refine reg ?_
  refine pRun_ok (tb := tab) (n := 19) tabOk 1 _ _ hf rfl rfl fun a hf => ?_
  refine wl_end ?_
  refine then_n ?_
  refine sq ?_
  refine sq ?_
  refine reg ?_
  refine pRun_ok (tb := tab) (n := 19) tabOk 3 _ _ hf rfl rfl fun a hf => ?_
  refine wl_end ?_
  refine then_n ?_
  obtain ⟨out', hB1, hF⟩ := bind_some hF
  have hf := hf.prune [0, 1, 7, 8] rfl
  have H := H.let [] [] [] [0]
  have hI : (fun (s : Int) (a : Act) (w : World) => match s with | i => Fr a 19 [(0, (.slice A s'.length c)), (1, (.func (.func 158) #[] #[])), (7, (.int .i64 (s'.length : Int))), (8, (.int .i64 i))] ∧ Mem ⟨w0, []⟩ S [] [] [] [(false, MP.val [(.slice A s'.length c)] (s' : List Frame))] w) 0 a w0 := ⟨hf, H⟩
  refine mid (fun a w => ∃ s : Int, out' = Out.next s ∧ (fun (s : Int) (a : Act) (w : World) => match s with | i => Fr a 19 [(0, (.slice A s'.length c)), (1, (.func (.func 158) #[] #[])), (7, (.int .i64 (s'.length : Int))), (8, (.int .i64 i))] ∧ Mem ⟨w0, []⟩ S [] [] [] [(false, MP.val [(.slice A s'.length c)] (s' : List Frame))] w) s a w) ?_ ?_
  · refine wp_block ?_
    refine loop_rule (fun k (s : Int) => slices_IndexFunc_impl_Frame_impl_Frame_of_areFrames_c1_L1 fu s' k s = some out') (fun (s : Int) (a : Act) (w : World) => match s with | i => Fr a 19 [(0, (.slice A s'.length c)), (1, (.func (.func 158) #[] #[])), (7, (.int .i64 (s'.length : Int))), (8, (.int .i64 i))] ∧ Mem ⟨w0, []⟩ S [] [] [] [(false, MP.val [(.slice A s'.length c)] (s' : List Frame))] w) (fun s h => by cases h) ?_ fu 0 a w0 hB1 hI
    rintro fk i a w hR1 hI
    replace hR1 : slices_IndexFunc_impl_Frame_impl_Frame_of_areFrames_c1_L1 fu s' (fk + 1) i = some out' := hR1
    rw [slices_IndexFunc_impl_Frame_impl_Frame_of_areFrames_c1_L1] at hR1
    obtain ⟨hf, H⟩ := hI
    refine sq ?_
    refine reg ?_
    refine pRun_ok (tb := tab) (n := 19) tabOk 1 _ _ hf rfl rfl fun a hf => ?_
    refine wl_end ?_
    refine then_n ?_
    refine sq ?_
    refine (Bool.eq_false_or_eq_true (decide (i < (s'.length : Int)))).elim (fun hc => ?_) (fun hc => ?_)
    · rw [if_pos hc] at hR1
      refine cd_t hf rfl hc ?_
      refine wp_skip ?_
      refine then_n ?_
      refine sq ?_
      refine wp_block ?_
      refine sq ?_
      refine reg ?_
      refine pRun_ok (tb := tab) (n := 19) tabOk 2 _ _ hf rfl rfl fun a hf => ?_
      refine wl_end ?_
      refine then_n ?_
      refine sq ?_
      refine reg ?_
      refine pRun_ok (tb := tab) (n := 19) tabOk 3 _ _ hf rfl rfl fun a hf => ?_
      obtain ⟨e, he, hR1⟩ := bind_some hR1
      refine wl0 rfl (op_iaddr hf H Try.underlying78 TF.sz40 0 rfl rfl rfl he (by decide) fun p o cs a hf hr H => ?_)
      obtain ⟨A2, c2, rfl, hl2⟩ := Frame_cells hr
      have H := H.push (false, MP.val [(.slice A2 e.Payload.length c2)] e.Payload) hl2
      refine wl0 rfl (op_q hf (rq_loadIN hf H TF.la40 1 0 rfl rfl rfl rfl) rfl (by decide) fun a hf => ?_)
      obtain ⟨y, hy, hR1⟩ := bind_some hR1
      refine wl0 rfl (op_callV hf TF.cl158 rfl rfl (by decide) (impl_areFrames_c1_ok (S := fun _ => True) (Frame_mkv (rep_true (α := List Int) (H.get 0 rfl))) hy) fun v w a hp hf => ?_)
      obtain ⟨hb, hp⟩ := hp
      obtain rfl := VR_bool hp
      have H := H.keep hb
      refine wl_end ?_
      refine then_n ?_
      refine (Bool.eq_false_or_eq_true (y)).elim (fun hc2 => ?_) (fun hc2 => ?_)
      · rw [if_pos hc2] at hR1
        refine cd_t hf rfl hc2 ?_
        refine sq ?_
        refine reg ?_
        refine pRun_ok (tb := tab) (n := 19) tabOk 2 _ _ hf rfl rfl fun a hf => ?_
        have hf := hf.prune [4] rfl
        refine wl_end ?_
        refine then_n ?_
        refine wp_ret (blk_r (then_r (then_r (blk_r (then_r (then_r (?_)))))))
        obtain rfl := Option.some.inj hR1
        replace hF := on_ret hF
        obtain rfl := Option.some.inj hF
        refine ret_1 (fn := Try.f165) (r := .tmp 4) hf rfl (rv_tmp hf rfl) ?_
        exact ⟨_, rfl, H.bel, mk_int⟩
      · rw [if_neg (nt hc2)] at hR1
        refine cd_f hf rfl hc2 ?_
        refine wp_skip ?_
        refine blk_n ?_
        refine then_n ?_
        refine reg ?_
        refine pRun_ok (tb := tab) (n := 19) tabOk 2 _ _ hf rfl rfl fun a hf => ?_
        refine wl_end ?_
        have hf := hf.prune [0, 1, 7, 8] rfl
        have H := H.let [] [] [] [2]
        exact then_n ⟨w64 (i + 1), hR1, hf, H⟩
    · rw [if_neg (nt hc)] at hR1
      refine cd_f hf rfl hc ?_
      refine wp_exit (then_x (then_x (blk_e (?_))))
      have hf := hf.prune [0, 1, 7, 8] rfl
      have H := H.let [] [] [] [0]
      exact ⟨i, (Option.some.inj hR1).symm, hf, H⟩
  rintro a w ⟨i2, rfl, hf, H⟩
  replace hF := on_next hF
  refine then_n ?_
  refine sq ?_
  refine reg ?_
  refine pRun_ok (tb := tab) (n := 19) tabOk 1 _ _ hf rfl rfl fun a hf => ?_
  refine wl_end ?_
  refine then_n ?_
  refine wp_ret (?_)
  obtain rfl := Option.some.inj hF
  refine ret_1 (fn := Try.f165) (r := .tmp 4) hf rfl (rv_tmp hf rfl) ?_
  exact ⟨_, rfl, H.bel, mk_int⟩

/- slices.ContainsFunc[[]loop.example/g00897/impl.Frame,loop.example/g00897/impl.Frame] -/
set_option maxHeartbeats 1000000 in
theorem slices_ContainsFunc_impl_Frame_impl_Frame_of_areFrames_c1_ok {fu : Nat} {w0 : World} {S : Nat → Prop} {v0_ : Value} {s' : List Frame} {r : Bool} (h0 : VR w0 S v0_ s') (hF : slices_ContainsFunc_impl_Frame_impl_Frame_of_areFrames_c1 fu s' = some r) :
    Calls Try.prog 157 [v0_, (.func (.func 158) #[] #[])].toArray w0 fun e w' => ∃ v, e = .returned v ∧ (Below w0.heap.size w0 w' ∧ VR w' (St ⟨w0, []⟩ S [] [] [] true) v r) := by
  obtain ⟨A, c, rfl, hl⟩ := VR_list h0
  have H := Mem.start ⟨w0, []⟩ S
  have H := H.pushArg (MP.val [(.slice A s'.length c)] s') hl
  refine enter Try.func157 rfl rfl (nle rfl) rfl fun a hf => ?_
  rw [slices_ContainsFunc_impl_Frame_impl_Frame_of_areFrames_c1] at hF
  refine sq ?_
  refine reg ?_
  refine pRun_ok (tb := tab) (n := 9) tabOk 1 _ _ hf rfl rfl fun a hf => ?_
  refine wl_end ?_
  refine then_n ?_
  refine sq ?_
  refine reg ?_
  refine pRun_ok (tb := tab) (n := 9) tabOk 2 _ _ hf rfl rfl fun a hf => ?_
  obtain ⟨y, hy, hF⟩ := bind_some hF
  refine wl0 rfl (op_call hf TF.cl165 rfl (by decide) (slices_IndexFunc_impl_Frame_impl_Frame_of_areFrames_c1_ok (S := fun _ => True) (mk_list (rep_true (α := List Frame) (H.get 0 rfl))) hy) fun v w a hp hf => ?_)
  obtain ⟨hb, hp⟩ := hp
  obtain rfl := VR_int hp
  have H := H.keep hb
  refine pRun_ok (tb := tab) (n := 9) tabOk 2 _ _ hf rfl rfl fun a hf => ?_
  refine wl_end ?_
  refine then_n ?_
  refine wp_ret (?_)
  obtain rfl := Option.some.inj hF
  refine ret_1 (fn := Try.f157) (r := .tmp 4) hf rfl (rv_tmp hf rfl) ?_
  exact ⟨_, rfl, H.bel, mk_bool⟩

/- loop.example/g00897/impl.areFrames -/
set_option maxHeartbeats 1000000 in
theorem impl_areFrames_ok {fu : Nat} {w0 : World} {S : Nat → Prop} {v0_ : Value} {frames : List Frame} {r : Bool} (h0 : VR w0 S v0_ frames) (hF : impl_areFrames fu frames = some r) :
    Calls Try.prog 132 [v0_].toArray w0 fun e w' => ∃ v, e = .returned v ∧ (Below w0.heap.size w0 w' ∧ VR w' (St ⟨w0, []⟩ S [] [] [] true) v r) := by
  obtain ⟨A, c, rfl, hl⟩ := VR_list h0
  have H := Mem.start ⟨w0, []⟩ S
  have H := H.pushArg (MP.val [(.slice A frames.length c)] frames) hl
  refine enter Try.func132 rfl rfl (nle rfl) rfl fun a hf => ?_
  rw [impl_areFrames] at hF
  refine sq ?_
  refine reg ?_
  refine pRun_ok (tb := tab) (n := 11) tabOk 1 _ _ hf rfl rfl fun a hf => ?_
  refine wl_end ?_
  refine then_n ?_
  refine sq ?_
  obtain ⟨c2, hGc2, hF⟩ := bind_some hF
  refine mid (fun a w => Fr a 11 [(2, (.bool c2))] ∧ Mem ⟨w0, []⟩ S [] [] [] [] w) ?_ ?_
  · refine reg ?_
    refine pRun_ok (tb := tab) (n := 11) tabOk 4 _ _ hf rfl rfl fun a hf => ?_
    refine (Bool.eq_false_or_eq_true (decide ((frames.length : Int) ≤ 12))).elim (fun hc => ?_) (fun hc => ?_)
    · rw [if_pos hc] at hGc2
      have hf := hf.lit 6 rfl hc
      refine pRun_ok (tb := tab) (n := 11) tabOk 1 _ _ hf rfl rfl fun a hf => ?_
      obtain ⟨y, hy, hGc2⟩ := bind_some hGc2
      refine wlg hf rfl rfl rfl (op_call hf TF.cl157 rfl (by decide) (slices_ContainsFunc_impl_Frame_impl_Frame_of_areFrames_c1_ok (S := fun _ => True) (mk_list (rep_true (α := List Frame) (H.get 0 rfl))) hy) fun v w a hp hf => ?_)
      obtain ⟨hb, hp⟩ := hp
      obtain rfl := VR_bool hp
      have H := H.keep hb
      refine pRun_ok (tb := tab) (n := 11) tabOk 3 _ _ hf rfl rfl fun a hf => ?_
      obtain rfl := Option.some.inj hGc2
      have hf := hf.prune [2] rfl
      have H := H.let [] [] [] []
      exact wl_end ⟨hf, H⟩
    · rw [if_neg (nt hc)] at hGc2
      have hf := hf.lit 6 rfl hc
      refine pRun_ok (tb := tab) (n := 11) tabOk 5 _ _ hf rfl rfl fun a hf => ?_
      obtain rfl := Option.some.inj hGc2
      have hf := hf.prune [2] rfl
      have H := H.let [] [] [] []
      exact wl_end ⟨hf, H⟩
  rintro a w ⟨hf, H⟩
  refine then_n ?_
  refine wp_ret (?_)
  obtain rfl := Option.some.inj hF
  refine ret_1 (fn := Try.f132) (r := .tmp 2) hf rfl (rv_tmp hf rfl) ?_
  exact ⟨_, rfl, H.bel, mk_bool⟩

/- loop.example/g00897/impl.CounterGaps -/
set_option maxHeartbeats 1000000 in
theorem impl_CounterGaps_ok {fu : Nat} {w0 : World} {S : Nat → Prop} {v0_ : Value} {frames : List Frame} {r : List Int × Bool} (h0 : VR w0 S v0_ frames) (hF : impl_CounterGaps fu frames = some r) :
    Calls Try.prog 73 [v0_].toArray w0 fun e w' => ∃ v, e = .returned v ∧ (Below w0.heap.size w0 w' ∧ ∃ F0, ∃ u0 u1, v = .tuple #[u0, u1] ∧ VO w' F0 u0 r.1 ∧ VR w' (St ⟨w0, []⟩ S [] [] [] true) u1 r.2 ∧ New w0 w' F0) := by
  obtain ⟨A, c, rfl, hl⟩ := VR_list h0
  have H := Mem.start ⟨w0, []⟩ S
  have H := H.pushArg (MP.val [(.slice A frames.length c)] frames) hl
  refine enter Try.func73 rfl rfl (nle rfl) rfl fun a hf => ?_
  rw [impl_CounterGaps] at hF
  refine sq ?_
  refine reg ?_
  refine pRun_ok (tb := tab) (n := 35) tabOk 2 _ _ hf rfl rfl fun a hf => ?_
  refine wl_end ?_
  refine then_n ?_
  refine sq ?_
  refine sq ?_
  refine reg ?_
  refine pRun_ok (tb := tab) (n := 35) tabOk 1 _ _ hf rfl rfl fun a hf => ?_
  obtain ⟨y, hy, hF⟩ := bind_some hF
  refine wl0 rfl (op_call hf TF.cl132 rfl (by decide) (impl_areFrames_ok (S := fun _ => True) (mk_list (rep_true (α := List Frame) (H.get 0 rfl))) hy) fun v w a hp hf => ?_)
  obtain ⟨hb, hp⟩ := hp
  obtain rfl := VR_bool hp
  have H := H.keep hb
  refine pRun_ok (tb := tab) (n := 35) tabOk 1 _ _ hf rfl rfl fun a hf => ?_
  refine wl_end ?_
  refine then_n ?_
  refine (Bool.eq_false_or_eq_true (!y)).elim (fun hc => ?_) (fun hc => ?_)
  · rw [if_pos hc] at hF
    refine cd_t hf rfl hc ?_
    refine sq ?_
    refine reg ?_
    refine pRun_ok (tb := tab) (n := 35) tabOk 2 _ _ hf rfl rfl fun a hf => ?_
    refine wl_end ?_
    refine then_n ?_
    refine wp_ret (then_r (?_))
    have H := H.ownNil (Int)
    have H := H.lend 0 rfl
    obtain rfl := Option.some.inj hF
    refine ret_2 (fn := Try.f73) (r := .tmp 2) (s := .tmp 3) hf rfl (rv_tmp hf rfl) (rv_tmp hf rfl) ?_
    have hN : New w0 w [] := by simpa using H.ends (X := [(⟨[], MP.own [] [(.slice none 0 0)] ([] : List Int)⟩ : DI)])
    exact ⟨_, rfl, H.bel, [], _, _, rfl, (mko_list (H.ownAt 0 rfl)), mk_bool, hN⟩
  · rw [if_neg (nt hc)] at hF
    refine cd_f hf rfl hc ?_
    refine wp_skip ?_
    refine then_n ?_
    refine sq ?_
    refine reg ?_
    refine wl0 rfl (op_bslice hf H (.sh true) rfl 3 ([] : List Int) [] rfl (fun w => by kernel_rfl) rfl (by decide) rfl trivial el0 (by decide) fun A2 a w hf H => ?_)
    refine pRun_ok (tb := tab) (n := 35) tabOk 1 _ _ hf rfl rfl fun a hf => ?_
    refine wl_end ?_
    refine then_n ?_
    refine sq ?_
    refine sq ?_
    refine reg ?_
    refine pRun_ok (tb := tab) (n := 35) tabOk 1 _ _ hf rfl rfl fun a hf => ?_
    refine wl_end ?_
    refine then_n ?_
    obtain ⟨out2, hB1, hF⟩ := bind_some hF
    have hf := hf.prune [0, 4, 5] rfl
    have H := H.let [] [true] [] [0]
    have hI : (fun (s : List Int × Int) (a : Act) (w : World) => match s with | (out', i) => ∃ (A3 : Option Addr) (c2 : Nat), Fr a 35 [(0, (.slice A frames.length c)), (4, (.slice A3 out'.length c2)), (5, (.int .i64 i))] ∧ Mem ⟨w0, []⟩ S [] [⟨.sh true, 3, A3, c2, (out' : List Int)⟩] [] [(false, MP.val [(.slice A frames.length c)] (frames : List Frame))] w) (([] : List Int), 1) a w := ⟨A2, 0, hf, H⟩
    refine mid (fun a w => ∃ s : List Int × Int, out2 = s ∧ (fun (s : List Int × Int) (a : Act) (w : World) => match s with | (out', i) => ∃ (A3 : Option Addr) (c2 : Nat), Fr a 35 [(0, (.slice A frames.length c)), (4, (.slice A3 out'.length c2)), (5, (.int .i64 i))] ∧ Mem ⟨w0, []⟩ S [] [⟨.sh true, 3, A3, c2, (out' : List Int)⟩] [] [(false, MP.val [(.slice A frames.length c)] (frames : List Frame))] w) s a w) ?_ ?_
    · refine wp_block ?_
      refine loop_rule (fun k (s : List Int × Int) => impl_CounterGaps_L1 fu frames k s.1 s.2 = some out2) (fun (s : List Int × Int) (a : Act) (w : World) => match s with | (out', i) => ∃ (A3 : Option Addr) (c2 : Nat), Fr a 35 [(0, (.slice A frames.length c)), (4, (.slice A3 out'.length c2)), (5, (.int .i64 i))] ∧ Mem ⟨w0, []⟩ S [] [⟨.sh true, 3, A3, c2, (out' : List Int)⟩] [] [(false, MP.val [(.slice A frames.length c)] (frames : List Frame))] w) (fun s h => by cases h) ?_ fu (([] : List Int), 1) a w hB1 hI
      rintro fk ⟨out', i⟩ a w hR1 hI
      replace hR1 : impl_CounterGaps_L1 fu frames (fk + 1) out' i = some out2 := hR1
      rw [impl_CounterGaps_L1] at hR1
      obtain ⟨A3, c2, hf, H⟩ := hI
      refine sq ?_
      refine sq ?_
      refine reg ?_
      refine pRun_ok (tb := tab) (n := 35) tabOk 4 _ _ hf rfl rfl fun a hf => ?_
      refine wl_end ?_
      refine then_n ?_
      refine (Bool.eq_false_or_eq_true (decide (i < (frames.length : Int)))).elim (fun hc2 => ?_) (fun hc2 => ?_)
      · rw [if_pos hc2] at hR1
        refine cd_t hf rfl hc2 ?_
        refine wp_skip ?_
        refine then_n ?_
        refine sq ?_
        refine wp_block ?_
        refine sq ?_
        refine drawn [] (bs := [false, false, false, false, false, false, false, false, false, false, false, false, false, false]) (fuel := 14) (Checked.mixed Try.checked) rfl rfl fun w hb => ?_
        have H := H.keep hb
        refine tkP (i := 0) (bs' := [true, false, false, false, false, false, false, false, false, false, false, false, false, false]) rfl rfl rfl (by decide) hf (by kernel_rfl) (fun _ => trivial) (fun w => pOp_ok (tb := tab) tabOk hf rfl) rfl fun a hf => ?_
        refine tkP (i := 1) (bs' := [true, true, false, false, false, false, false, false, false, false, false, false, false, false]) rfl rfl rfl (by decide) hf (by kernel_rfl) (fun _ => trivial) (fun w => pOp_ok (tb := tab) tabOk hf rfl) rfl fun a hf => ?_
        obtain ⟨e, he, hR1⟩ := bind_some hR1
        obtain ⟨p, o, cs, hx, hr, H⟩ := pre_iaddr H Try.underlying78 TF.sz40 0 rfl he
        refine tkP (i := 2) (bs' := [true, true, true, false, false, false, false, false, false, false, false, false, false, false]) rfl rfl rfl (by decide) hf (by kernel_rfl) (fun _ => trivial) (fun w => rq_iaddrE hf rfl rfl rfl hx w) rfl fun a hf => ?_
        obtain ⟨A4, c3, rfl, hl2⟩ := Frame_cells hr
        have H := H.push (false, MP.val [(.slice A4 e.Payload.length c3)] e.Payload) hl2
        refine tkP (i := 3) (bs' := [true, true, true, true, false, false, false, false, false, false, false, false, false, false]) rfl rfl rfl (by decide) hf (by kernel_rfl) (fun _ => trivial) (fun w => pOp_ok (tb := tab) tabOk hf rfl) rfl fun a hf => ?_
        refine str (fun w => Mem ⟨w0, []⟩ S [] [⟨.sh true, 3, A3, c2, (out' : List Int)⟩] [] [(false, MP.val [(.slice A4 e.Payload.length c3)] (e.Payload : List Int)), (false, MP.cells ⟨p, o, none⟩ [(.int .i64 e.Counter), (.int .i64 e.Pointer), (.slice A4 e.Payload.length c3)]), (false, MP.val [(.slice A frames.length c)] (frames : List Frame))] w) (fun w H => trivial) ?_
        have hS : Mem ⟨w0, []⟩ S [] [⟨.sh true, 3, A3, c2, (out' : List Int)⟩] [] [(false, MP.val [(.slice A4 e.Payload.length c3)] (e.Payload : List Int)), (false, MP.cells ⟨p, o, none⟩ [(.int .i64 e.Counter), (.int .i64 e.Pointer), (.slice A4 e.Payload.length c3)]), (false, MP.val [(.slice A frames.length c)] (frames : List Frame))] w := H.let [] [true] [] [0, 1, 2]
        refine tkS (i := 4) (bs' := [true, true, true, true, true, false, false, false, false, false, false, false, false, false]) [] rfl rfl rfl (by decide) hf (by kernel_rfl) (by kernel_rfl) hS (fun w H => rq_loadI hf H TF.ls3 1 0 rfl rfl rfl) rfl fun a hf => ?_
        refine tkP (i := 5) (bs' := [true, true, true, true, true, true, false, false, false, false, false, false, false, false]) rfl rfl rfl (by decide) hf (by kernel_rfl) (fun _ => hS) (fun w => pOp_ok (tb := tab) tabOk hf rfl) rfl fun a hf => ?_
        refine tkP (i := 6) (bs' := [true, true, true, true, true, true, true, false, false, false, false, false, false, false]) rfl rfl rfl (by decide) hf (by kernel_rfl) (fun _ => hS) (fun w => pOp_ok (tb := tab) tabOk hf rfl) rfl fun a hf => ?_
        refine tkP (i := 7) (bs' := [true, true, true, true, true, true, true, true, false, false, false, false, false, false]) rfl rfl rfl (by decide) hf (by kernel_rfl) (fun _ => hS) (fun w => pOp_ok (tb := tab) tabOk hf rfl) rfl fun a hf => ?_
        obtain ⟨e2, he2, hR1⟩ := bind_some hR1
        obtain ⟨p2, o2, cs2, hx2, hr2, H⟩ := pre_iaddr H Try.underlying78 TF.sz40 2 rfl he2
        refine tkP (i := 8) (bs' := [true, true, true, true, true, true, true, true, true, false, false, false, false, false]) rfl rfl rfl (by decide) hf (by kernel_rfl) (fun _ => hS) (fun w => rq_iaddrE hf rfl rfl rfl hx2 w) rfl fun a hf => ?_
        obtain ⟨A5, c4, rfl, hl3⟩ := Frame_cells hr2
        have H := H.push (false, MP.val [(.slice A5 e2.Payload.length c4)] e2.Payload) hl3
        refine tkP (i := 9) (bs' := [true, true, true, true, true, true, true, true, true, true, false, false, false, false]) rfl rfl rfl (by decide) hf (by kernel_rfl) (fun _ => hS) (fun w => pOp_ok (tb := tab) tabOk hf rfl) rfl fun a hf => ?_
        refine str (fun w => Mem ⟨w0, []⟩ S [] [⟨.sh true, 3, A3, c2, (out' : List Int)⟩] [] [(false, MP.val [(.slice A5 e2.Payload.length c4)] (e2.Payload : List Int)), (false, MP.cells ⟨p2, o2, none⟩ [(.int .i64 e2.Counter), (.int .i64 e2.Pointer), (.slice A5 e2.Payload.length c4)]), (false, MP.val [(.slice A4 e.Payload.length c3)] (e.Payload : List Int)), (false, MP.cells ⟨p, o, none⟩ [(.int .i64 e.Counter), (.int .i64 e.Pointer), (.slice A4 e.Payload.length c3)]), (false, MP.val [(.slice A frames.length c)] (frames : List Frame))] w) (fun w H => H.let [] [true] [] [2, 3, 4]) ?_
        have hS : Mem ⟨w0, []⟩ S [] [⟨.sh true, 3, A3, c2, (out' : List Int)⟩] [] [(false, MP.val [(.slice A5 e2.Payload.length c4)] (e2.Payload : List Int)), (false, MP.cells ⟨p2, o2, none⟩ [(.int .i64 e2.Counter), (.int .i64 e2.Pointer), (.slice A5 e2.Payload.length c4)]), (false, MP.val [(.slice A4 e.Payload.length c3)] (e.Payload : List Int)), (false, MP.cells ⟨p, o, none⟩ [(.int .i64 e.Counter), (.int .i64 e.Pointer), (.slice A4 e.Payload.length c3)]), (false, MP.val [(.slice A frames.length c)] (frames : List Frame))] w := H.let [] [true] [] [0, 1, 2, 3, 4]
        refine tkS (i := 10) (bs' := [true, true, true, true, true, true, true, true, true, true, true, false, false, false]) [] rfl rfl rfl (by decide) hf (by kernel_rfl) (by kernel_rfl) hS (fun w H => rq_loadI hf H TF.ls3 1 0 rfl rfl rfl) rfl fun a hf => ?_
        refine tkP (i := 11) (bs' := [true, true, true, true, true, true, true, true, true, true, true, true, false, false]) rfl rfl rfl (by decide) hf (by kernel_rfl) (fun _ => hS) (fun w => pOp_ok (tb := tab) tabOk hf rfl) rfl fun a hf => ?_
        obtain ⟨q, hq, hR1⟩ := bind_some hR1
        refine tkP (i := 12) (bs' := [true, true, true, true, true, true, true, true, true, true, true, true, true, false]) rfl rfl rfl (by decide) hf (by kernel_rfl) (fun _ => hS) (fun w => rq_rem hf rfl rfl hq) rfl fun a hf => ?_
        refine tkP (i := 13) (bs' := [true, true, true, true, true, true, true, true, true, true, true, true, true, true]) rfl rfl rfl (by decide) hf (by kernel_rfl) (fun _ => hS) (fun w => pOp_ok (tb := tab) tabOk hf rfl) rfl fun a hf => ?_
        refine dn (by kernel_rfl) ?_
        have hf := hf.prune [0, 4, 5, 29] rfl
        refine then_n ?_
        refine (Bool.eq_false_or_eq_true (e.Counter != q)).elim (fun hc3 => ?_) (fun hc3 => ?_)
        · rw [if_pos hc3] at hR1
          refine cd_t hf rfl hc3 ?_
          refine reg ?_
          refine pRun_ok (tb := tab) (n := 35) tabOk 2 _ _ hf rfl rfl fun a hf => ?_
          refine wl0 rfl (op_bslice hf H (.sh true) rfl 3 ([i] : List Int) [(.int .i64 i)] rfl (fun w => by kernel_rfl) rfl (by decide) rfl trivial (el1 (y := i) rfl) (by decide) fun A6 a w hf H => ?_)
          obtain ⟨l, hl, hR1⟩ := bind_some hR1
          refine wl0 rfl (op_appR hf H Try.underlying35 TF.ai3 rfl (by decide) 1 0 rfl rfl rfl rfl (.inr rfl) hl (by decide) fun A7 c5 a w hf H => ?_)
          refine pRun_ok (tb := tab) (n := 35) tabOk 1 _ _ hf rfl rfl fun a hf => ?_
          refine wl_end ?_
          refine blk_n ?_
          refine then_n ?_
          refine reg ?_
          refine pRun_ok (tb := tab) (n := 35) tabOk 3 _ _ hf rfl rfl fun a hf => ?_
          refine wl_end ?_
          have hf := hf.prune [0, 4, 5] rfl
          have H := H.let [] [false, true] [] [4]
          exact then_n ⟨(l, w64 (i + 1)), hR1, A7, c5, hf, H⟩
        · rw [if_neg (nt hc3)] at hR1
          refine cd_f hf rfl hc3 ?_
          refine wp_skip ?_
          refine blk_n ?_
          refine then_n ?_
          refine reg ?_
          refine pRun_ok (tb := tab) (n := 35) tabOk 3 _ _ hf rfl rfl fun a hf => ?_
          refine wl_end ?_
          have hf := hf.prune [0, 4, 5] rfl
          have H := H.let [] [true] [] [4]
          exact then_n ⟨(out', w64 (i + 1)), hR1, A3, c2, hf, H⟩
      · rw [if_neg (nt hc2)] at hR1
        refine cd_f hf rfl hc2 ?_
        refine wp_exit (then_x (then_x (blk_e (?_))))
        have hf := hf.prune [0, 4, 5] rfl
        have H := H.let [] [true] [] [0]
        exact ⟨(out', i), (Option.some.inj hR1).symm, A3, c2, hf, H⟩
    rintro a w ⟨⟨out3, i2⟩, rfl, A8, c6, hf, H⟩
    dsimp only at hF
    refine then_n ?_
    refine sq ?_
    refine reg ?_
    refine pRun_ok (tb := tab) (n := 35) tabOk 3 _ _ hf rfl rfl fun a hf => ?_
    refine wl_end ?_
    refine then_n ?_
    refine wp_ret (?_)
    have H := H.rowOwn 0 rfl rfl
    obtain ⟨F, H⟩ := H.freezeOwn 0 rfl
    have H := H.lend 0 rfl
    obtain rfl := Option.some.inj hF
    refine ret_2 (fn := Try.f73) (r := .tmp 2) (s := .tmp 3) hf rfl (rv_tmp hf rfl) (rv_tmp hf rfl) ?_
    have hN : New w0 w F := by simpa using H.ends (X := [(⟨F, MP.own F [(.slice A8 out3.length c6)] (out3 : List Int)⟩ : DI)])
    exact ⟨_, rfl, H.bel, F, _, _, rfl, (mko_list (H.ownAt 0 rfl)), mk_bool, hN⟩

/- loop.example/g00897/laws.eqIntS -/
set_option maxHeartbeats 1000000 in
theorem laws_eqIntS_ok {fu : Nat} {w0 : World} {S : Nat → Prop} {v0_ : Value} {v1_ : Value} {a' : List Int} {b' : List Int} {r : Bool} (h0 : VR w0 S v0_ a') (h1 : VR w0 S v1_ b') (hF : laws_eqIntS fu a' b' = some r) :
    Calls Try.prog 43 [v0_, v1_].toArray w0 fun e w' => ∃ v, e = .returned v ∧ (Below w0.heap.size w0 w' ∧ VR w' (St ⟨w0, []⟩ S [] [] [] true) v r) := by
  obtain ⟨A, c, rfl, hl⟩ := VR_list h0
  obtain ⟨A2, c2, rfl, hl2⟩ := VR_list h1
  have H := Mem.start ⟨w0, []⟩ S
  have H := H.pushArg (MP.val [(.slice A a'.length c)] a') hl
  have H := H.pushArg (MP.val [(.slice A2 b'.length c2)] b') hl2
  refine enter Try.func43 rfl rfl (nle rfl) rfl fun a hf => ?_
  rw [laws_eqIntS] at hF
  refine sq ?_
  refine reg ?_
  refine pRun_ok (tb := tab) (n := 26) tabOk 1 _ _ hf rfl rfl fun a hf => ?_
  refine wl_end ?_
  refine then_n ?_
  refine sq ?_
  refine sq ?_
  refine reg ?_
  refine pRun_ok (tb := tab) (n := 26) tabOk 5 _ _ hf rfl rfl fun a hf => ?_
  refine wl_end ?_
  refine then_n ?_
  refine (Bool.eq_false_or_eq_true ((a'.length : Int) != (b'.length : Int))).elim (fun hc => ?_) (fun hc => ?_)
  · rw [if_pos hc] at hF
    refine cd_t hf rfl hc ?_
    refine sq ?_
    refine reg ?_
    refine pRun_ok (tb := tab) (n := 26) tabOk 1 _ _ hf rfl rfl fun a hf => ?_
    refine wl_end ?_
    refine then_n ?_
    refine wp_ret (then_r (?_))
    obtain rfl := Option.some.inj hF
    refine ret_1 (fn := Try.f43) (r := .tmp 4) hf rfl (rv_tmp hf rfl) ?_
    exact ⟨_, rfl, H.bel, mk_bool⟩
  · rw [if_neg (nt hc)] at hF
    refine cd_f hf rfl hc ?_
    refine wp_skip ?_
    refine then_n ?_
    refine sq ?_
    refine sq ?_
    refine reg ?_
    refine pRun_ok (tb := tab) (n := 26) tabOk 1 _ _ hf rfl rfl fun a hf => ?_
    refine wl_end ?_
    refine then_n ?_
    obtain ⟨out', hB1, hF⟩ := bind_some hF
    have hf := hf.prune [0, 1, 5] rfl
    have H := H.let [] [] [] [0, 1]
    have hI : (fun (s : Int) (a : Act) (w : World) => match s with | i => Fr a 26 [(0, (.slice A a'.length c)), (1, (.slice A2 b'.length c2)), (5, (.int .i64 i))] ∧ Mem ⟨w0, []⟩ S [] [] [] [(false, MP.val [(.slice A2 b'.length c2)] (b' : List Int)), (false, MP.val [(.slice A a'.length c)] (a' : List Int))] w) 0 a w0 := ⟨hf, H⟩
    refine mid (fun a w => ∃ s : Int, out' = Out.next s ∧ (fun (s : Int) (a : Act) (w : World) => match s with | i => Fr a 26 [(0, (.slice A a'.length c)), (1, (.slice A2 b'.length c2)), (5, (.int .i64 i))] ∧ Mem ⟨w0, []⟩ S [] [] [] [(false, MP.val [(.slice A2 b'.length c2)] (b' : List Int)), (false, MP.val [(.slice A a'.length c)] (a' : List Int))] w) s a w) ?_ ?_
    · refine wp_block ?_
      refine loop_rule (fun k (s : Int) => laws_eqIntS_L1 fu a' b' k s = some out') (fun (s : Int) (a : Act) (w : World) => match s with | i => Fr a 26 [(0, (.slice A a'.length c)), (1, (.slice A2 b'.length c2)), (5, (.int .i64 i))] ∧ Mem ⟨w0, []⟩ S [] [] [] [(false, MP.val [(.slice A2 b'.length c2)] (b' : List Int)), (false, MP.val [(.slice A a'.length c)] (a' : List Int))] w) (fun s h => by cases h) ?_ fu 0 a w0 hB1 hI
      rintro fk i a w hR1 hI
      replace hR1 : laws_eqIntS_L1 fu a' b' (fk + 1) i = some out' := hR1
      rw [laws_eqIntS_L1] at hR1
      obtain ⟨hf, H⟩ := hI
      refine sq ?_
      refine sq ?_
      refine reg ?_
      refine pRun_ok (tb := tab) (n := 26) tabOk 4 _ _ hf rfl rfl fun a hf => ?_
      refine wl_end ?_
      refine then_n ?_
      refine (Bool.eq_false_or_eq_true (decide (i < (a'.length : Int)))).elim (fun hc2 => ?_) (fun hc2 => ?_)
      · rw [if_pos hc2] at hR1
        refine cd_t hf rfl hc2 ?_
        refine wp_skip ?_
        refine then_n ?_
        refine sq ?_
        refine wp_block ?_
        refine sq ?_
        refine drawn [] (bs := [false, false, false, false, false, false, false, false, false]) (fuel := 9) (Checked.mixed Try.checked) rfl rfl fun w hb => ?_
        have H := H.keep hb
        refine tkP (i := 0) (bs' := [true, false, false, false, false, false, false, false, false]) rfl rfl rfl (by decide) hf (by kernel_rfl) (fun _ => trivial) (fun w => pOp_ok (tb := tab) tabOk hf rfl) rfl fun a hf => ?_
        refine tkP (i := 1) (bs' := [true, true, false, false, false, false, false, false, false]) rfl rfl rfl (by decide) hf (by kernel_rfl) (fun _ => trivial) (fun w => pOp_ok (tb := tab) tabOk hf rfl) rfl fun a hf => ?_
        obtain ⟨e, he, hR1⟩ := bind_some hR1
        obtain ⟨p, o, cs, hx, hr, H⟩ := pre_iaddr H Try.underlying35 TF.sz3 1 rfl he
        refine tkP (i := 2) (bs' := [true, true, true, false, false, false, false, false, false]) rfl rfl rfl (by decide) hf (by kernel_rfl) (fun _ => trivial) (fun w => rq_iaddrE hf rfl rfl rfl hx w) rfl fun a hf => ?_
        obtain rfl := hr
        refine str (fun w => Mem ⟨w0, []⟩ S [] [] [] [(false, MP.cells ⟨p, o, none⟩ [(.int .i64 e)]), (false, MP.val [(.slice A2 b'.length c2)] (b' : List Int)), (false, MP.val [(.slice A a'.length c)] (a' : List Int))] w) (fun w H => trivial) ?_
        have hS : Mem ⟨w0, []⟩ S [] [] [] [(false, MP.cells ⟨p, o, none⟩ [(.int .i64 e)]), (false, MP.val [(.slice A2 b'.length c2)] (b' : List Int)), (false, MP.val [(.slice A a'.length c)] (a' : List Int))] w := H.let [] [] [] [0, 1, 2]
        refine tkS (i := 3) (bs' := [true, true, true, true, false, false, false, false, false]) [] rfl rfl rfl (by decide) hf (by kernel_rfl) (by kernel_rfl) hS (fun w H => rq_loadI hf H TF.ls3 0 0 rfl rfl rfl) rfl fun a hf => ?_
        refine tkP (i := 4) (bs' := [true, true, true, true, true, false, false, false, false]) rfl rfl rfl (by decide) hf (by kernel_rfl) (fun _ => hS) (fun w => pOp_ok (tb := tab) tabOk hf rfl) rfl fun a hf => ?_
        refine tkP (i := 5) (bs' := [true, true, true, true, true, true, false, false, false]) rfl rfl rfl (by decide) hf (by kernel_rfl) (fun _ => hS) (fun w => pOp_ok (tb := tab) tabOk hf rfl) rfl fun a hf => ?_
        obtain ⟨e2, he2, hR1⟩ := bind_some hR1
        obtain ⟨p2, o2, cs2, hx2, hr2, H⟩ := pre_iaddr H Try.underlying35 TF.sz3 1 rfl he2
        refine tkP (i := 6) (bs' := [true, true, true, true, true, true, true, false, false]) rfl rfl rfl (by decide) hf (by kernel_rfl) (fun _ => hS) (fun w => rq_iaddrE hf rfl rfl rfl hx2 w) rfl fun a hf => ?_
        obtain rfl := hr2
        refine str (fun w => Mem ⟨w0, []⟩ S [] [] [] [(false, MP.cells ⟨p2, o2, none⟩ [(.int .i64 e2)]), (false, MP.cells ⟨p, o, none⟩ [(.int .i64 e)]), (false, MP.val [(.slice A2 b'.length c2)] (b' : List Int)), (false, MP.val [(.slice A a'.length c)] (a' : List Int))] w) (fun w H => H.let [] [] [] [1, 2, 3]) ?_
        have hS : Mem ⟨w0, []⟩ S [] [] [] [(false, MP.cells ⟨p2, o2, none⟩ [(.int .i64 e2)]), (false, MP.cells ⟨p, o, none⟩ [(.int .i64 e)]), (false, MP.val [(.slice A2 b'.length c2)] (b' : List Int)), (false, MP.val [(.slice A a'.length c)] (a' : List Int))] w := H.let [] [] [] [0, 1, 2, 3]
        refine tkS (i := 7) (bs' := [true, true, true, true, true, true, true, true, false]) [] rfl rfl rfl (by decide) hf (by kernel_rfl) (by kernel_rfl) hS (fun w H => rq_loadI hf H TF.ls3 0 0 rfl rfl rfl) rfl fun a hf => ?_
        refine tkP (i := 8) (bs' := [true, true, true, true, true, true, true, true, true]) rfl rfl rfl (by decide) hf (by kernel_rfl) (fun _ => hS) (fun w => pOp_ok (tb := tab) tabOk hf rfl) rfl fun a hf => ?_
        refine dn (by kernel_rfl) ?_
        refine then_n ?_
        refine (Bool.eq_false_or_eq_true (e != e2)).elim (fun hc3 => ?_) (fun hc3 => ?_)
        · rw [if_pos hc3] at hR1
          refine cd_t hf rfl hc3 ?_
          refine sq ?_
          refine reg ?_
          refine pRun_ok (tb := tab) (n := 26) tabOk 1 _ _ hf rfl rfl fun a hf => ?_
          have hf := hf.prune [4] rfl
          refine wl_end ?_
          refine then_n ?_
          refine wp_ret (blk_r (then_r (then_r (blk_r (then_r (then_r (?_)))))))
          obtain rfl := Option.some.inj hR1
          replace hF := on_ret hF
          obtain rfl := Option.some.inj hF
          refine ret_1 (fn := Try.f43) (r := .tmp 4) hf rfl (rv_tmp hf rfl) ?_
          exact ⟨_, rfl, H.bel, mk_bool⟩
        · rw [if_neg (nt hc3)] at hR1
          refine cd_f hf rfl hc3 ?_
          refine wp_skip ?_
          refine blk_n ?_
          refine then_n ?_
          refine reg ?_
          refine pRun_ok (tb := tab) (n := 26) tabOk 3 _ _ hf rfl rfl fun a hf => ?_
          have hf := hf.prune [0, 1, 5] rfl
          refine wl_end ?_
          have hf := hf.prune [0, 1, 5] rfl
          have H := H.let [] [] [] [2, 3]
          exact then_n ⟨w64 (i + 1), hR1, hf, H⟩
      · rw [if_neg (nt hc2)] at hR1
        refine cd_f hf rfl hc2 ?_
        refine wp_exit (then_x (then_x (blk_e (?_))))
        have hf := hf.prune [0, 1, 5] rfl
        have H := H.let [] [] [] [0, 1]
        exact ⟨i, (Option.some.inj hR1).symm, hf, H⟩
    rintro a w ⟨i2, rfl, hf, H⟩
    replace hF := on_next hF
    refine then_n ?_
    refine sq ?_
    refine reg ?_
    refine pRun_ok (tb := tab) (n := 26) tabOk 1 _ _ hf rfl rfl fun a hf => ?_
    refine wl_end ?_
    refine then_n ?_
    refine wp_ret (?_)
    obtain rfl := Option.some.inj hF
    refine ret_1 (fn := Try.f43) (r := .tmp 4) hf rfl (rv_tmp hf rfl) ?_
    exact ⟨_, rfl, H.bel, mk_bool⟩

/- loop.example/g00897/laws.eqFrame -/
set_option maxHeartbeats 1000000 in
theorem laws_eqFrame_ok {fu : Nat} {w0 : World} {S : Nat → Prop} {v0_ : Value} {v1_ : Value} {a' : Frame} {b' : Frame} {r : Bool} (h0 : VR w0 S v0_ a') (h1 : VR w0 S v1_ b') (hF : laws_eqFrame fu a' b' = some r) :
    Calls Try.prog 39 [v0_, v1_].toArray w0 fun e w' => ∃ v, e = .returned v ∧ (Below w0.heap.size w0 w' ∧ VR w' (St ⟨w0, []⟩ S [] [] [] true) v r) := by
  obtain ⟨A, c, rfl, hl⟩ := Frame_open h0
  obtain ⟨A2, c2, rfl, hl2⟩ := Frame_open h1
  have H := Mem.start ⟨w0, []⟩ S
  have H := H.pushArg (MP.val [(.slice A a'.Payload.length c)] a'.Payload) hl
  have H := H.pushArg (MP.val [(.slice A2 b'.Payload.length c2)] b'.Payload) hl2
  refine enter Try.func39 rfl rfl (nle rfl) rfl fun a hf => ?_
  rw [laws_eqFrame] at hF
  refine sq ?_
  refine reg ?_
  refine wl0 rfl (op_box hf H rfl rfl (by decide) fun b2 a w hf H => ?_)
  refine wl0 rfl (op_box hf H rfl rfl (by decide) fun b3 a w hf H => ?_)
  refine pRun_ok (tb := tab) (n := 21) tabOk 1 _ _ hf rfl rfl fun a hf => ?_
  refine wl_end ?_
  refine then_n ?_
  refine sq ?_
  refine sq ?_
  refine reg ?_
  refine pRun_ok (tb := tab) (n := 21) tabOk 1 _ _ hf rfl rfl fun a hf => ?_
  refine wl0 rfl (op_q hf (rq_loadB hf H TF.ls3 1 rfl rfl rfl) rfl (by decide) fun a hf => ?_)
  refine pRun_ok (tb := tab) (n := 21) tabOk 1 _ _ hf rfl rfl fun a hf => ?_
  refine wl0 rfl (op_q hf (rq_loadB hf H TF.ls3 0 rfl rfl rfl) rfl (by decide) fun a hf => ?_)
  refine pRun_ok (tb := tab) (n := 21) tabOk 1 _ _ hf rfl rfl fun a hf => ?_
  refine wl_end ?_
  refine then_n ?_
  refine (Bool.eq_false_or_eq_true (a'.Counter != b'.Counter)).elim (fun hc => ?_) (fun hc => ?_)
  · rw [if_pos hc] at hF
    refine cd_t hf rfl hc ?_
    refine sq ?_
    refine reg ?_
    refine pRun_ok (tb := tab) (n := 21) tabOk 1 _ _ hf rfl rfl fun a hf => ?_
    refine wl_end ?_
    refine then_n ?_
    refine wp_ret (then_r (?_))
    obtain rfl := Option.some.inj hF
    refine ret_1 (fn := Try.f39) (r := .tmp 4) hf rfl (rv_tmp hf rfl) ?_
    exact ⟨_, rfl, H.bel, mk_bool⟩
  · rw [if_neg (nt hc)] at hF
    refine cd_f hf rfl hc ?_
    refine wp_skip ?_
    refine then_n ?_
    refine sq ?_
    refine sq ?_
    refine reg ?_
    refine pRun_ok (tb := tab) (n := 21) tabOk 1 _ _ hf rfl rfl fun a hf => ?_
    refine wl0 rfl (op_q hf (rq_loadB hf H TF.ls3 1 rfl rfl rfl) rfl (by decide) fun a hf => ?_)
    refine pRun_ok (tb := tab) (n := 21) tabOk 1 _ _ hf rfl rfl fun a hf => ?_
    refine wl0 rfl (op_q hf (rq_loadB hf H TF.ls3 0 rfl rfl rfl) rfl (by decide) fun a hf => ?_)
    refine pRun_ok (tb := tab) (n := 21) tabOk 1 _ _ hf rfl rfl fun a hf => ?_
    refine wl_end ?_
    refine then_n ?_
    refine (Bool.eq_false_or_eq_true (a'.Pointer != b'.Pointer)).elim (fun hc2 => ?_) (fun hc2 => ?_)
    · rw [if_pos hc2] at hF
      refine cd_t hf rfl hc2 ?_
      refine sq ?_
      refine reg ?_
      refine pRun_ok (tb := tab) (n := 21) tabOk 1 _ _ hf rfl rfl fun a hf => ?_
      have hf := hf.prune [4] rfl
      refine wl_end ?_
      refine then_n ?_
      refine wp_ret (then_r (?_))
      obtain rfl := Option.some.inj hF
      refine ret_1 (fn := Try.f39) (r := .tmp 4) hf rfl (rv_tmp hf rfl) ?_
      exact ⟨_, rfl, H.bel, mk_bool⟩
    · rw [if_neg (nt hc2)] at hF
      refine cd_f hf rfl hc2 ?_
      refine wp_skip ?_
      refine then_n ?_
      refine sq ?_
      refine sq ?_
      refine reg ?_
      refine pRun_ok (tb := tab) (n := 21) tabOk 1 _ _ hf rfl rfl fun a hf => ?_
      refine wl0 rfl (op_q hf (rq_loadB hf H TF.ls35 1 rfl rfl rfl) rfl (by decide) fun a hf => ?_)
      refine pRun_ok (tb := tab) (n := 21) tabOk 1 _ _ hf rfl rfl fun a hf => ?_
      refine wl0 rfl (op_q hf (rq_loadB hf H TF.ls35 0 rfl rfl rfl) rfl (by decide) fun a hf => ?_)
      obtain ⟨y, hy, hF⟩ := bind_some hF
      refine wl0 rfl (op_call hf TF.cl43 rfl (by decide) (laws_eqIntS_ok (S := fun _ => True) (mk_list (rep_true (α := List Int) (H.get 1 rfl))) (mk_list (rep_true (α := List Int) (H.get 0 rfl))) hy) fun v w a hp hf => ?_)
      obtain ⟨hb, hp⟩ := hp
      obtain rfl := VR_bool hp
      have H := H.keep hb
      refine pRun_ok (tb := tab) (n := 21) tabOk 1 _ _ hf rfl rfl fun a hf => ?_
      have hf := hf.prune [20] rfl
      refine wl_end ?_
      refine then_n ?_
      refine (Bool.eq_false_or_eq_true (!y)).elim (fun hc3 => ?_) (fun hc3 => ?_)
      · rw [if_pos hc3] at hF
        refine cd_t hf rfl hc3 ?_
        refine sq ?_
        refine reg ?_
        refine pRun_ok (tb := tab) (n := 21) tabOk 1 _ _ hf rfl rfl fun a hf => ?_
        refine wl_end ?_
        refine then_n ?_
        refine wp_ret (then_r (?_))
        obtain rfl := Option.some.inj hF
        refine ret_1 (fn := Try.f39) (r := .tmp 4) hf rfl (rv_tmp hf rfl) ?_
        exact ⟨_, rfl, H.bel, mk_bool⟩
      · rw [if_neg (nt hc3)] at hF
        refine cd_f hf rfl hc3 ?_
        refine wp_skip ?_
        refine then_n ?_
        refine sq ?_
        refine reg ?_
        refine pRun_ok (tb := tab) (n := 21) tabOk 1 _ _ hf rfl rfl fun a hf => ?_
        refine wl_end ?_
        refine then_n ?_
        refine wp_ret (?_)
        obtain rfl := Option.some.inj hF
        refine ret_1 (fn := Try.f39) (r := .tmp 4) hf rfl (rv_tmp hf rfl) ?_
        exact ⟨_, rfl, H.bel, mk_bool⟩

/- loop.example/g00897/laws.eqFrameS -/
set_option maxHeartbeats 1000000 in
theorem laws_eqFrameS_ok {fu : Nat} {w0 : World} {S : Nat → Prop} {v0_ : Value} {v1_ : Value} {a' : List Frame} {b' : List Frame} {r : Bool} (h0 : VR w0 S v0_ a') (h1 : VR w0 S v1_ b') (hF : laws_eqFrameS fu a' b' = some r) :
    Calls Try.prog 74 [v0_, v1_].toArray w0 fun e w' => ∃ v, e = .returned v ∧ (Below w0.heap.size w0 w' ∧ VR w' (St ⟨w0, []⟩ S [] [] [] true) v r) := by
  obtain ⟨A, c, rfl, hl⟩ := VR_list h0
  obtain ⟨A2, c2, rfl, hl2⟩ := VR_list h1
  have H := Mem.start ⟨w0, []⟩ S
  have H := H.pushArg (MP.val [(.slice A a'.length c)] a') hl
  have H := H.pushArg (MP.val [(.slice A2 b'.length c2)] b') hl2
  refine enter Try.func74 rfl rfl (nle rfl) rfl fun a hf => ?_
  rw [laws_eqFrameS] at hF
  refine sq ?_
  refine reg ?_
  refine pRun_ok (tb := tab) (n := 27) tabOk 1 _ _ hf rfl rfl fun a hf => ?_
  refine wl_end ?_
  refine then_n ?_
  refine sq ?_
  refine sq ?_
  refine reg ?_
  refine pRun_ok (tb := tab) (n := 27) tabOk 5 _ _ hf rfl rfl fun a hf => ?_
  refine wl_end ?_
  refine then_n ?_
  refine (Bool.eq_false_or_eq_true ((a'.length : Int) != (b'.length : Int))).elim (fun hc => ?_) (fun hc => ?_)
  · rw [if_pos hc] at hF
    refine cd_t hf rfl hc ?_
    refine sq ?_
    refine reg ?_
    refine pRun_ok (tb := tab) (n := 27) tabOk 1 _ _ hf rfl rfl fun a hf => ?_
    refine wl_end ?_
    refine then_n ?_
    refine wp_ret (then_r (?_))
    obtain rfl := Option.some.inj hF
    refine ret_1 (fn := Try.f74) (r := .tmp 4) hf rfl (rv_tmp hf rfl) ?_
    exact ⟨_, rfl, H.bel, mk_bool⟩
  · rw [if_neg (nt hc)] at hF
    refine cd_f hf rfl hc ?_
    refine wp_skip ?_
    refine then_n ?_
    refine sq ?_
    refine sq ?_
    refine reg ?_
    refine pRun_ok (tb := tab) (n := 27) tabOk 1 _ _ hf rfl rfl fun a hf => ?_
    refine wl_end ?_
    refine then_n ?_
    obtain ⟨out', hB1, hF⟩ := bind_some hF
    have hf := hf.prune [0, 1, 5] rfl
    have H := H.let [] [] [] [0, 1]
    have hI : (fun (s : Int) (a : Act) (w : World) => match s with | i => Fr a 27 [(0, (.slice A a'.length c)), (1, (.slice A2 b'.length c2)), (5, (.int .i64 i))] ∧ Mem ⟨w0, []⟩ S [] [] [] [(false, MP.val [(.slice A2 b'.length c2)] (b' : List Frame)), (false, MP.val [(.slice A a'.length c)] (a' : List Frame))] w) 0 a w0 := ⟨hf, H⟩
    refine mid (fun a w => ∃ s : Int, out' = Out.next s ∧ (fun (s : Int) (a : Act) (w : World) => match s with | i => Fr a 27 [(0, (.slice A a'.length c)), (1, (.slice A2 b'.length c2)), (5, (.int .i64 i))] ∧ Mem ⟨w0, []⟩ S [] [] [] [(false, MP.val [(.slice A2 b'.length c2)] (b' : List Frame)), (false, MP.val [(.slice A a'.length c)] (a' : List Frame))] w) s a w) ?_ ?_
    · refine wp_block ?_
      refine loop_rule (fun k (s : Int) => laws_eqFrameS_L1 fu a' b' k s = some out') (fun (s : Int) (a : Act) (w : World) => match s with | i => Fr a 27 [(0, (.slice A a'.length c)), (1, (.slice A2 b'.length c2)), (5, (.int .i64 i))] ∧ Mem ⟨w0, []⟩ S [] [] [] [(false, MP.val [(.slice A2 b'.length c2)] (b' : List Frame)), (false, MP.val [(.slice A a'.length c)] (a' : List Frame))] w) (fun s h => by cases h) ?_ fu 0 a w0 hB1 hI
      rintro fk i a w hR1 hI
      replace hR1 : laws_eqFrameS_L1 fu a' b' (fk + 1) i = some out' := hR1
      rw [laws_eqFrameS_L1] at hR1
      obtain ⟨hf, H⟩ := hI
      refine sq ?_
      refine sq ?_
      refine reg ?_
      refine pRun_ok (tb := tab) (n := 27) tabOk 4 _ _ hf rfl rfl fun a hf => ?_
      refine wl_end ?_
      refine then_n ?_
      refine (Bool.eq_false_or_eq_true (decide (i < (a'.length : Int)))).elim (fun hc2 => ?_) (fun hc2 => ?_)
      · rw [if_pos hc2] at hR1
        refine cd_t hf rfl hc2 ?_
        refine wp_skip ?_
        refine then_n ?_
        refine sq ?_
        refine wp_block ?_
        refine sq ?_
        refine drawn [] (bs := [false, false, false, false, false, false, false, false, false, false]) (fuel := 10) (Checked.mixed Try.checked) rfl rfl fun w hb => ?_
        have H := H.keep hb
        refine tkP (i := 0) (bs' := [true, false, false, false, false, false, false, false, false, false]) rfl rfl rfl (by decide) hf (by kernel_rfl) (fun _ => trivial) (fun w => pOp_ok (tb := tab) tabOk hf rfl) rfl fun a hf => ?_
        refine tkP (i := 1) (bs' := [true, true, false, false, false, false, false, false, false, false]) rfl rfl rfl (by decide) hf (by kernel_rfl) (fun _ => trivial) (fun w => pOp_ok (tb := tab) tabOk hf rfl) rfl fun a hf => ?_
        obtain ⟨e, he, hR1⟩ := bind_some hR1
        obtain ⟨p, o, cs, hx, hr, H⟩ := pre_iaddr H Try.underlying78 TF.sz40 1 rfl he
        refine tkP (i := 2) (bs' := [true, true, true, false, false, false, false, false, false, false]) rfl rfl rfl (by decide) hf (by kernel_rfl) (fun _ => trivial) (fun w => rq_iaddrE hf rfl rfl rfl hx w) rfl fun a hf => ?_
        obtain ⟨A3, c3, rfl, hl3⟩ := Frame_cells hr
        have H := H.push (false, MP.val [(.slice A3 e.Payload.length c3)] e.Payload) hl3
        refine str (fun w => Mem ⟨w0, []⟩ S [] [] [] [(false, MP.val [(.slice A3 e.Payload.length c3)] (e.Payload : List Int)), (false, MP.cells ⟨p, o, none⟩ [(.int .i64 e.Counter), (.int .i64 e.Pointer), (.slice A3 e.Payload.length c3)]), (false, MP.val [(.slice A2 b'.length c2)] (b' : List Frame)), (false, MP.val [(.slice A a'.length c)] (a' : List Frame))] w) (fun w H => trivial) ?_
        have hS : Mem ⟨w0, []⟩ S [] [] [] [(false, MP.val [(.slice A3 e.Payload.length c3)] (e.Payload : List Int)), (false, MP.cells ⟨p, o, none⟩ [(.int .i64 e.Counter), (.int .i64 e.Pointer), (.slice A3 e.Payload.length c3)]), (false, MP.val [(.slice A2 b'.length c2)] (b' : List Frame)), (false, MP.val [(.slice A a'.length c)] (a' : List Frame))] w := H.let [] [] [] [0, 1, 2, 3]
        refine tkS (i := 3) (bs' := [true, true, true, true, false, false, false, false, false, false]) [] rfl rfl rfl (by decide) hf (by kernel_rfl) (by kernel_rfl) hS (fun w H => rq_loadIN hf H TF.la40 1 0 rfl rfl rfl rfl) rfl fun a hf => ?_
        refine tkP (i := 4) (bs' := [true, true, true, true, true, false, false, false, false, false]) rfl rfl rfl (by decide) hf (by kernel_rfl) (fun _ => hS) (fun w => pOp_ok (tb := tab) tabOk hf rfl) rfl fun a hf => ?_
        refine tkP (i := 5) (bs' := [true, true, true, true, true, true, false, false, false, false]) rfl rfl rfl (by decide) hf (by kernel_rfl) (fun _ => hS) (fun w => pOp_ok (tb := tab) tabOk hf rfl) rfl fun a hf => ?_
        obtain ⟨e2, he2, hR1⟩ := bind_some hR1
        obtain ⟨p2, o2, cs2, hx2, hr2, H⟩ := pre_iaddr H Try.underlying78 TF.sz40 2 rfl he2
        refine tkP (i := 6) (bs' := [true, true, true, true, true, true, true, false, false, false]) rfl rfl rfl (by decide) hf (by kernel_rfl) (fun _ => hS) (fun w => rq_iaddrE hf rfl rfl rfl hx2 w) rfl fun a hf => ?_
        obtain ⟨A4, c4, rfl, hl4⟩ := Frame_cells hr2
        have H := H.push (false, MP.val [(.slice A4 e2.Payload.length c4)] e2.Payload) hl4
        refine str (fun w => Mem ⟨w0, []⟩ S [] [] [] [(false, MP.val [(.slice A4 e2.Payload.length c4)] (e2.Payload : List Int)), (false, MP.cells ⟨p2, o2, none⟩ [(.int .i64 e2.Counter), (.int .i64 e2.Pointer), (.slice A4 e2.Payload.length c4)]), (false, MP.val [(.slice A3 e.Payload.length c3)] (e.Payload : List Int)), (false, MP.cells ⟨p, o, none⟩ [(.int .i64 e.Counter), (.int .i64 e.Pointer), (.slice A3 e.Payload.length c3)]), (false, MP.val [(.slice A2 b'.length c2)] (b' : List Frame)), (false, MP.val [(.slice A a'.length c)] (a' : List Frame))] w) (fun w H => H.let [] [] [] [2, 3, 4, 5]) ?_
        have hS : Mem ⟨w0, []⟩ S [] [] [] [(false, MP.val [(.slice A4 e2.Payload.length c4)] (e2.Payload : List Int)), (false, MP.cells ⟨p2, o2, none⟩ [(.int .i64 e2.Counter), (.int .i64 e2.Pointer), (.slice A4 e2.Payload.length c4)]), (false, MP.val [(.slice A3 e.Payload.length c3)] (e.Payload : List Int)), (false, MP.cells ⟨p, o, none⟩ [(.int .i64 e.Counter), (.int .i64 e.Pointer), (.slice A3 e.Payload.length c3)]), (false, MP.val [(.slice A2 b'.length c2)] (b' : List Frame)), (false, MP.val [(.slice A a'.length c)] (a' : List Frame))] w := H.let [] [] [] [0, 1, 2, 3, 4, 5]
        refine tkS (i := 7) (bs' := [true, true, true, true, true, true, true, true, false, false]) [] rfl rfl rfl (by decide) hf (by kernel_rfl) (by kernel_rfl) hS (fun w H => rq_loadIN hf H TF.la40 1 0 rfl rfl rfl rfl) rfl fun a hf => ?_
        obtain ⟨y, hy, hR1⟩ := bind_some hR1
        refine on1 (i := 8) (bs' := [true, true, true, true, true, true, true, true, true, false]) (by kernel_rfl) rfl rfl rfl (op_call hf TF.cl39 rfl (by decide) (laws_eqFrame_ok (S := fun _ => True) (Frame_mkv (rep_true (α := List Int) (H.get 2 rfl))) (Frame_mkv (rep_true (α := List Int) (H.get 0 rfl))) hy) fun v w a hp hf => ?_)
        obtain ⟨hb, hp⟩ := hp
        obtain rfl := VR_bool hp
        have H := H.keep hb
        have hS : Mem ⟨w0, []⟩ S [] [] [] [(false, MP.val [(.slice A4 e2.Payload.length c4)] (e2.Payload : List Int)), (false, MP.cells ⟨p2, o2, none⟩ [(.int .i64 e2.Counter), (.int .i64 e2.Pointer), (.slice A4 e2.Payload.length c4)]), (false, MP.val [(.slice A3 e.Payload.length c3)] (e.Payload : List Int)), (false, MP.cells ⟨p, o, none⟩ [(.int .i64 e.Counter), (.int .i64 e.Pointer), (.slice A3 e.Payload.length c3)]), (false, MP.val [(.slice A2 b'.length c2)] (b' : List Frame)), (false, MP.val [(.slice A a'.length c)] (a' : List Frame))] w := H.let [] [] [] [0, 1, 2, 3, 4, 5]
        refine ⟨fun _ => hS, ?_⟩
        refine tkP (i := 9) (bs' := [true, true, true, true, true, true, true, true, true, true]) rfl rfl rfl (by decide) hf (by kernel_rfl) (fun _ => hS) (fun w => pOp_ok (tb := tab) tabOk hf rfl) rfl fun a hf => ?_
        refine dn (by kernel_rfl) ?_
        have hf := hf.prune [0, 1, 5, 26] rfl
        refine then_n ?_
        refine (Bool.eq_false_or_eq_true (!y)).elim (fun hc3 => ?_) (fun hc3 => ?_)
        · rw [if_pos hc3] at hR1
          refine cd_t hf rfl hc3 ?_
          refine sq ?_
          refine reg ?_
          refine pRun_ok (tb := tab) (n := 27) tabOk 1 _ _ hf rfl rfl fun a hf => ?_
          refine wl_end ?_
          refine then_n ?_
          refine wp_ret (blk_r (then_r (then_r (blk_r (then_r (then_r (?_)))))))
          obtain rfl := Option.some.inj hR1
          replace hF := on_ret hF
          obtain rfl := Option.some.inj hF
          refine ret_1 (fn := Try.f74) (r := .tmp 4) hf rfl (rv_tmp hf rfl) ?_
          exact ⟨_, rfl, H.bel, mk_bool⟩
        · rw [if_neg (nt hc3)] at hR1
          refine cd_f hf rfl hc3 ?_
          refine wp_skip ?_
          refine blk_n ?_
          refine then_n ?_
          refine reg ?_
          refine pRun_ok (tb := tab) (n := 27) tabOk 3 _ _ hf rfl rfl fun a hf => ?_
          refine wl_end ?_
          have hf := hf.prune [0, 1, 5] rfl
          have H := H.let [] [] [] [4, 5]
          exact then_n ⟨w64 (i + 1), hR1, hf, H⟩
      · rw [if_neg (nt hc2)] at hR1
        refine cd_f hf rfl hc2 ?_
        refine wp_exit (then_x (then_x (blk_e (?_))))
        have hf := hf.prune [0, 1, 5] rfl
        have H := H.let [] [] [] [0, 1]
        exact ⟨i, (Option.some.inj hR1).symm, hf, H⟩
    rintro a w ⟨i2, rfl, hf, H⟩
    replace hF := on_next hF
    refine then_n ?_
    refine sq ?_
    refine reg ?_
    refine pRun_ok (tb := tab) (n := 27) tabOk 1 _ _ hf rfl rfl fun a hf => ?_
    refine wl_end ?_
    refine then_n ?_
    refine wp_ret (?_)
    obtain rfl := Option.some.inj hF
    refine ret_1 (fn := Try.f74) (r := .tmp 4) hf rfl (rv_tmp hf rfl) ?_
    exact ⟨_, rfl, H.bel, mk_bool⟩

/- loop.example/g00897/laws.markIntS -/
set_option maxHeartbeats 1000000 in
theorem laws_markIntS_ok {fu : Nat} {w0 : World} {S : Nat → Prop} {F : List Nat} {cs : List Value} {v1_ : Value} {a' : List Int} {k' : Int} {r : Int × List Int} (hO : GoTy.own w0 F cs a') (hn : F.Nodup) (h1 : VR w0 S v1_ k') (hF : laws_markIntS fu a' k' = some r) :
    Calls Try.prog 44 [(bif GoTy.agg (List Int) then .agg cs.toArray else cs.headD undef), v1_].toArray w0 fun e w' => ∃ v, e = .returned v ∧ (Chg w0 w' F ∧ VR w' (fun _ => True) v r.1 ∧ ∃ F', GoTy.own w' F' cs r.2 ∧ Back w0 w' F F') := by
  obtain rfl := VR_int h1
  obtain ⟨A, c, rfl, hO⟩ := own_list hO
  have H := Mem.startG S hO hn
  obtain ⟨Fs, E, H, -⟩ := H.thaw rfl
  have H := H.rowSh 0 rfl
  refine enter Try.func44 rfl rfl (nle rfl) rfl fun a hf => ?_
  rw [laws_markIntS] at hF
  refine sq ?_
  refine reg ?_
  refine pRun_ok (tb := tab) (n := 19) tabOk 1 _ _ hf rfl rfl fun a hf => ?_
  refine wl_end ?_
  refine then_n ?_
  refine sq ?_
  refine sq ?_
  refine reg ?_
  refine pRun_ok (tb := tab) (n := 19) tabOk 1 _ _ hf rfl rfl fun a hf => ?_
  refine wl_end ?_
  refine then_n ?_
  obtain ⟨out', hB1, hF⟩ := bind_some hF
  have hf := hf.prune [0, 1, 5] rfl
  have hf : Fr a 19 [(0, (.slice A a'.length c)), (1, (.int .i64 k')), (5, (.int .i64 0))] := by first | exact hf | (simp only [List.length_set] at hf; exact hf)
  have H := H.let [] [true] [] []
  have hI : (fun (s : List Int × Int × Int) (a : Act) (w : World) => match s with | (a2, k2, i) => a2.length = a'.length ∧ Fr a 19 [(0, (.slice A a'.length c)), (1, (.int .i64 k2)), (5, (.int .i64 i))] ∧ Mem ⟨w0, F⟩ S [] [⟨.sh true, E, A, c, (a2 : List Int)⟩] [] [] w) (a', k', 0) a w0 := ⟨rfl, hf, H⟩
  refine mid (fun a w => ∃ s : List Int × Int × Int, out' = s ∧ (fun (s : List Int × Int × Int) (a : Act) (w : World) => match s with | (a2, k2, i) => a2.length = a'.length ∧ Fr a 19 [(0, (.slice A a'.length c)), (1, (.int .i64 k2)), (5, (.int .i64 i))] ∧ Mem ⟨w0, F⟩ S [] [⟨.sh true, E, A, c, (a2 : List Int)⟩] [] [] w) s a w) ?_ ?_
  · refine wp_block ?_
    refine loop_rule (fun k (s : List Int × Int × Int) => laws_markIntS_L1 fu k s.1 s.2.1 s.2.2 = some out') (fun (s : List Int × Int × Int) (a : Act) (w : World) => match s with | (a2, k2, i) => a2.length = a'.length ∧ Fr a 19 [(0, (.slice A a'.length c)), (1, (.int .i64 k2)), (5, (.int .i64 i))] ∧ Mem ⟨w0, F⟩ S [] [⟨.sh true, E, A, c, (a2 : List Int)⟩] [] [] w) (fun s h => by cases h) ?_ fu (a', k', 0) a w0 hB1 hI
    rintro fk ⟨a2, k2, i⟩ a w hR1 hI
    replace hR1 : laws_markIntS_L1 fu (fk + 1) a2 k2 i = some out' := hR1
    rw [laws_markIntS_L1] at hR1
    obtain ⟨hlen, hf, H⟩ := hI
    have hf : Fr a 19 [(0, (.slice A a2.length c)), (1, (.int .i64 k2)), (5, (.int .i64 i))] := by rw [hlen]; exact hf
    refine sq ?_
    refine sq ?_
    refine reg ?_
    refine pRun_ok (tb := tab) (n := 19) tabOk 4 _ _ hf rfl rfl fun a hf => ?_
    refine wl_end ?_
    refine then_n ?_
    refine (Bool.eq_false_or_eq_true (decide (i < (a2.length : Int)))).elim (fun hc => ?_) (fun hc => ?_)
    · rw [if_pos hc] at hR1
      refine cd_t hf rfl hc ?_
      refine wp_skip ?_
      refine then_n ?_
      refine sq ?_
      refine wp_block ?_
      refine sq ?_
      refine reg ?_
      refine pRun_ok (tb := tab) (n := 19) tabOk 3 _ _ hf rfl rfl fun a hf => ?_
      obtain ⟨e, he, hR1⟩ := bind_some hR1
      refine wl0 rfl (op_iaddrR hf H Try.underlying35 TF.sz3 0 rfl rfl rfl he (by decide) fun p o cs a hf hA hr hk => ?_)
      obtain rfl := hr
      refine wl0 rfl (op_storeR (e' := k2) hf H TF.sz3 0 rfl rfl rfl rfl rfl (nle rfl) rfl hA he (st_full rfl) fun w H => ?_)
      replace hf : Fr a 19 [(0, (.slice A a2.length c)), (1, (.int .i64 k2)), (5, (.int .i64 i)), (6, (.int .i64 i)), (7, (.slice A a2.length c)), (8, (.int .i64 (a2.length : Int))), (9, (.bool (decide (i < (a2.length : Int))))), (12, (.slice A a2.length c)), (13, (.int .i64 i)), (14, (.int .i64 k2)), (15, (.pointer (some ⟨p, o + 0, none⟩)))] := hf.prune [0, 1, 5, 6, 7, 8, 9, 12, 13, 14, 15] rfl
      replace hf : Fr a 19 [(0, (.slice A (a2.set (i).toNat k2).length c)), (1, (.int .i64 k2)), (5, (.int .i64 i)), (6, (.int .i64 i)), (7, (.slice A (a2.set (i).toNat k2).length c)), (8, (.int .i64 (a2.length : Int))), (9, (.bool (decide (i < (a2.length : Int))))), (12, (.slice A (a2.set (i).toNat k2).length c)), (13, (.int .i64 i)), (14, (.int .i64 k2)), (15, (.pointer (some ⟨p, o + 0, none⟩)))] := by simpa only [List.length_set, Nat.add_zero] using hf
      refine wl_end ?_
      refine then_n ?_
      refine reg ?_
      refine pRun_ok (tb := tab) (n := 19) tabOk 3 _ _ hf rfl rfl fun a hf => ?_
      refine wl_end ?_
      refine blk_n ?_
      refine then_n ?_
      refine reg ?_
      refine pRun_ok (tb := tab) (n := 19) tabOk 3 _ _ hf rfl rfl fun a hf => ?_
      refine wl_end ?_
      have hf := hf.prune [0, 1, 5] rfl
      have hf : Fr a 19 [(0, (.slice A a'.length c)), (1, (.int .i64 (w64 (k2 + 1)))), (5, (.int .i64 (w64 (i + 1))))] := by first | exact hf | (simp only [List.length_set, hlen] at hf; exact hf)
      have H := H.let [] [true] [] []
      exact then_n ⟨(a2.set (i).toNat k2, w64 (k2 + 1), w64 (i + 1)), hR1, (by simp only [List.length_set, hlen]), hf, H⟩
    · rw [if_neg (nt hc)] at hR1
      refine cd_f hf rfl hc ?_
      refine wp_exit (then_x (then_x (blk_e (?_))))
      have hf := hf.prune [0, 1, 5] rfl
      have hf : Fr a 19 [(0, (.slice A a'.length c)), (1, (.int .i64 k2)), (5, (.int .i64 i))] := by first | exact hf | (simp only [List.length_set, hlen] at hf; exact hf)
      have H := H.let [] [true] [] []
      exact ⟨(a2, k2, i), (Option.some.inj hR1).symm, (by simp only [List.length_set, hlen]), hf, H⟩
  rintro a w ⟨⟨a3, k3, i2⟩, rfl, hlen, hf, H⟩
  try dsimp only at hlen
  have hf : Fr a 19 [(0, (.slice A a3.length c)), (1, (.int .i64 k3)), (5, (.int .i64 i2))] := by rw [hlen]; exact hf
  dsimp only at hF
  refine then_n ?_
  refine sq ?_
  refine reg ?_
  refine pRun_ok (tb := tab) (n := 19) tabOk 2 _ _ hf rfl rfl fun a hf => ?_
  refine wl_end ?_
  refine then_n ?_
  refine wp_ret (?_)
  have H := H.rowOwn 0 rfl rfl
  obtain ⟨F', H⟩ := H.freezeOwn 0 rfl
  rw [hlen] at H
  obtain rfl := Option.some.inj hF
  refine ret_1 (fn := Try.f44) (r := .tmp 4) hf rfl (rv_tmp hf rfl) ?_
  exact ⟨_, rfl, H.chg, mk_int, _, H.ownAt 0 rfl, H.back⟩

/- loop.example/g00897/laws.markFrameS -/
set_option maxHeartbeats 1000000 in
theorem laws_markFrameS_ok {fu : Nat} {w0 : World} {S : Nat → Prop} {F : List Nat} {cs : List Value} {v1_ : Value} {a' : List Frame} {k' : Int} {r : Int × List Frame} (hO : GoTy.own w0 F cs a') (hn : F.Nodup) (h1 : VR w0 S v1_ k') (hF : laws_markFrameS fu a' k' = some r) :
    Calls Try.prog 75 [(bif GoTy.agg (List Frame) then .agg cs.toArray else cs.headD undef), v1_].toArray w0 fun e w' => ∃ v, e = .returned v ∧ (Chg w0 w' F ∧ VR w' (fun _ => True) v r.1 ∧ ∃ F', GoTy.own w' F' cs r.2 ∧ Back w0 w' F F') := by
  obtain rfl := VR_int h1
  obtain ⟨A, c, rfl, hO⟩ := own_list hO
  have H := Mem.startG S hO hn
  obtain ⟨Fs, E, H, -⟩ := H.thaw rfl
  refine enter Try.func75 rfl rfl (nle rfl) rfl fun a hf => ?_
  rw [laws_markFrameS] at hF
  refine sq ?_
  refine reg ?_
  refine pRun_ok (tb := tab) (n := 34) tabOk 1 _ _ hf rfl rfl fun a hf => ?_
  refine wl_end ?_
  refine then_n ?_
  refine sq ?_
  refine sq ?_
  refine reg ?_
  refine pRun_ok (tb := tab) (n := 34) tabOk 1 _ _ hf rfl rfl fun a hf => ?_
  refine wl_end ?_
  refine then_n ?_
  obtain ⟨out', hB1, hF⟩ := bind_some hF
  have hf := hf.prune [0, 1, 5] rfl
  have hf : Fr a 34 [(0, (.slice A a'.length c)), (1, (.int .i64 k')), (5, (.int .i64 0))] := by first | exact hf | (simp only [List.length_set] at hf; exact hf)
  have H := H.let [] [true] [] []
  have hI : (fun (s : List Frame × Int × Int) (a : Act) (w : World) => match s with | (a2, k2, i) => ∃ (Fs2 : List (List Nat)), a2.length = a'.length ∧ Fr a 34 [(0, (.slice A a'.length c)), (1, (.int .i64 k2)), (5, (.int .i64 i))] ∧ Mem ⟨w0, F⟩ S [] [⟨.ow Fs2, E, A, c, (a2 : List Frame)⟩] [] [] w) (a', k', 0) a w0 := ⟨Fs, rfl, hf, H⟩
  refine mid (fun a w => ∃ s : List Frame × Int × Int, out' = s ∧ (fun (s : List Frame × Int × Int) (a : Act) (w : World) => match s with | (a2, k2, i) => ∃ (Fs2 : List (List Nat)), a2.length = a'.length ∧ Fr a 34 [(0, (.slice A a'.length c)), (1, (.int .i64 k2)), (5, (.int .i64 i))] ∧ Mem ⟨w0, F⟩ S [] [⟨.ow Fs2, E, A, c, (a2 : List Frame)⟩] [] [] w) s a w) ?_ ?_
  · refine wp_block ?_
    refine loop_rule (fun k (s : List Frame × Int × Int) => laws_markFrameS_L1 fu k s.1 s.2.1 s.2.2 = some out') (fun (s : List Frame × Int × Int) (a : Act) (w : World) => match s with | (a2, k2, i) => ∃ (Fs2 : List (List Nat)), a2.length = a'.length ∧ Fr a 34 [(0, (.slice A a'.length c)), (1, (.int .i64 k2)), (5, (.int .i64 i))] ∧ Mem ⟨w0, F⟩ S [] [⟨.ow Fs2, E, A, c, (a2 : List Frame)⟩] [] [] w) (fun s h => by cases h) ?_ fu (a', k', 0) a w0 hB1 hI
    rintro fk ⟨a2, k2, i⟩ a w hR1 hI
    replace hR1 : laws_markFrameS_L1 fu (fk + 1) a2 k2 i = some out' := hR1
    rw [laws_markFrameS_L1] at hR1
    obtain ⟨Fs2, hlen, hf, H⟩ := hI
    have hf : Fr a 34 [(0, (.slice A a2.length c)), (1, (.int .i64 k2)), (5, (.int .i64 i))] := by rw [hlen]; exact hf
    refine sq ?_
    refine sq ?_
    refine reg ?_
    refine pRun_ok (tb := tab) (n := 34) tabOk 4 _ _ hf rfl rfl fun a hf => ?_
    refine wl_end ?_
    refine then_n ?_
    refine (Bool.eq_false_or_eq_true (decide (i < (a2.length : Int)))).elim (fun hc => ?_) (fun hc => ?_)
    · rw [if_pos hc] at hR1
      refine cd_t hf rfl hc ?_
      refine wp_skip ?_
      refine then_n ?_
      refine sq ?_
      refine wp_block ?_
      refine sq ?_
      refine reg ?_
      refine pRun_ok (tb := tab) (n := 34) tabOk 3 _ _ hf rfl rfl fun a hf => ?_
      obtain ⟨e, he, hR1⟩ := bind_some hR1
      refine wl0 rfl (op_iaddrR hf H Try.underlying78 TF.sz40 0 rfl rfl rfl he (by decide) fun p o cs a hf hA hr hk => ?_)
      have hrk := hr
      obtain ⟨A2, c2, rfl, hl⟩ := Frame_cells hr
      have H := H.push (true, MP.val [(.slice A2 e.Payload.length c2)] e.Payload) hl
      refine pRun_ok (tb := tab) (n := 34) tabOk 1 _ _ hf rfl rfl fun a hf => ?_
      refine wl0 rfl (op_storeR (e' := ({ Counter := k2, Pointer := e.Pointer, Payload := e.Payload } : Frame)) hf H TF.sz3 0 rfl rfl rfl rfl rfl (nle rfl) rfl hA he (st_own fun F cs h => by obtain ⟨A0, c0, F0, rfl, rfl, l0⟩ := Frame_own h; exact Frame_ownmk (x := ({ Counter := k2, Pointer := e.Pointer, Payload := e.Payload } : Frame)) l0) fun w H => ?_)
      replace hf : Fr a 34 [(0, (.slice A a2.length c)), (1, (.int .i64 k2)), (5, (.int .i64 i)), (6, (.int .i64 i)), (7, (.slice A a2.length c)), (8, (.int .i64 (a2.length : Int))), (9, (.bool (decide (i < (a2.length : Int))))), (12, (.slice A a2.length c)), (13, (.int .i64 i)), (14, (.int .i64 k2)), (15, (.pointer (some ⟨p, o + 0, none⟩))), (16, (.pointer (some ⟨p, o + 0, none⟩)))] := hf.prune [0, 1, 5, 6, 7, 8, 9, 12, 13, 14, 15, 16] rfl
      replace hf : Fr a 34 [(0, (.slice A (a2.set (i).toNat ({ Counter := k2, Pointer := e.Pointer, Payload := e.Payload } : Frame)).length c)), (1, (.int .i64 k2)), (5, (.int .i64 i)), (6, (.int .i64 i)), (7, (.slice A (a2.set (i).toNat ({ Counter := k2, Pointer := e.Pointer, Payload := e.Payload } : Frame)).length c)), (8, (.int .i64 (a2.length : Int))), (9, (.bool (decide (i < (a2.length : Int))))), (12, (.slice A (a2.set (i).toNat ({ Counter := k2, Pointer := e.Pointer, Payload := e.Payload } : Frame)).length c)), (13, (.int .i64 i)), (14, (.int .i64 k2)), (15, (.pointer (some ⟨p, o + 0, none⟩))), (16, (.pointer (some ⟨p, o + 0, none⟩)))] := by simpa only [List.length_set, Nat.add_zero] using hf
      refine wl_end ?_
      refine then_n ?_
      refine sq ?_
      refine reg ?_
      refine pRun_ok (tb := tab) (n := 34) tabOk 3 _ _ hf rfl rfl fun a hf => ?_
      refine wl_end ?_
      refine then_n ?_
      refine sq ?_
      refine reg ?_
      refine pRun_ok (tb := tab) (n := 34) tabOk 3 _ _ hf rfl rfl fun a hf => ?_
      obtain ⟨e2, he2, hR1⟩ := bind_some hR1
      refine wl0 rfl (op_iaddrR hf H Try.underlying78 TF.sz40 0 rfl rfl rfl he2 (by decide) fun p2 o2 cs2 a hf hA2 hr2 hk2 => ?_)
      have hrk2 := hr2
      obtain ⟨A3, c3, rfl, hl2⟩ := Frame_cells hr2
      have H := H.push (true, MP.val [(.slice A3 e2.Payload.length c3)] e2.Payload) hl2
      refine pRun_ok (tb := tab) (n := 34) tabOk 1 _ _ hf rfl rfl fun a hf => ?_
      refine wl0 rfl (op_storeR (e' := ({ Counter := e2.Counter, Pointer := w64 (k2 + 1), Payload := e2.Payload } : Frame)) hf H TF.sz3 0 rfl rfl rfl rfl rfl (nle rfl) rfl hA2 he2 (st_own fun F cs h => by obtain ⟨A0, c0, F0, rfl, rfl, l0⟩ := Frame_own h; exact Frame_ownmk (x := ({ Counter := e2.Counter, Pointer := w64 (k2 + 1), Payload := e2.Payload } : Frame)) l0) fun w H => ?_)
      replace hf : Fr a 34 [(0, (.slice A (a2.set (i).toNat ({ Counter := k2, Pointer := e.Pointer, Payload := e.Payload } : Frame)).length c)), (1, (.int .i64 (w64 (k2 + 1)))), (5, (.int .i64 i)), (6, (.int .i64 i)), (7, (.slice A (a2.set (i).toNat ({ Counter := k2, Pointer := e.Pointer, Payload := e.Payload } : Frame)).length c)), (8, (.int .i64 (a2.length : Int))), (9, (.bool (decide (i < (a2.length : Int))))), (12, (.slice A (a2.set (i).toNat ({ Counter := k2, Pointer := e.Pointer, Payload := e.Payload } : Frame)).length c)), (13, (.int .i64 i)), (14, (.int .i64 k2)), (15, (.pointer (some ⟨p, o + 0, none⟩))), (16, (.pointer (some ⟨p, o + 0, none⟩))), (17, (.int .i64 k2)), (18, (.int .i64 (w64 (k2 + 1)))), (19, (.slice A (a2.set (i).toNat ({ Counter := k2, Pointer := e.Pointer, Payload := e.Payload } : Frame)).length c)), (20, (.int .i64 i)), (21, (.int .i64 (w64 (k2 + 1)))), (22, (.pointer (some ⟨p2, o2 + 0, none⟩))), (23, (.pointer (some ⟨p2, o2 + 1, none⟩)))] := hf.prune [0, 1, 5, 6, 7, 8, 9, 12, 13, 14, 15, 16, 17, 18, 19, 20, 21, 22, 23] rfl
      replace hf : Fr a 34 [(0, (.slice A ((a2.set (i).toNat ({ Counter := k2, Pointer := e.Pointer, Payload := e.Payload } : Frame)).set (i).toNat ({ Counter := e2.Counter, Pointer := w64 (k2 + 1), Payload := e2.Payload } : Frame)).length c)), (1, (.int .i64 (w64 (k2 + 1)))), (5, (.int .i64 i)), (6, (.int .i64 i)), (7, (.slice A ((a2.set (i).toNat ({ Counter := k2, Pointer := e.Pointer, Payload := e.Payload } : Frame)).set (i).toNat ({ Counter := e2.Counter, Pointer := w64 (k2 + 1), Payload := e2.Payload } : Frame)).length c)), (8, (.int .i64 (a2.length : Int))), (9, (.bool (decide (i < (a2.length : Int))))), (12, (.slice A ((a2.set (i).toNat ({ Counter := k2, Pointer := e.Pointer, Payload := e.Payload } : Frame)).set (i).toNat ({ Counter := e2.Counter, Pointer := w64 (k2 + 1), Payload := e2.Payload } : Frame)).length c)), (13, (.int .i64 i)), (14, (.int .i64 k2)), (15, (.pointer (some ⟨p, o + 0, none⟩))), (16, (.pointer (some ⟨p, o + 0, none⟩))), (17, (.int .i64 k2)), (18, (.int .i64 (w64 (k2 + 1)))), (19, (.slice A ((a2.set (i).toNat ({ Counter := k2, Pointer := e.Pointer, Payload := e.Payload } : Frame)).set (i).toNat ({ Counter := e2.Counter, Pointer := w64 (k2 + 1), Payload := e2.Payload } : Frame)).length c)), (20, (.int .i64 i)), (21, (.int .i64 (w64 (k2 + 1)))), (22, (.pointer (some ⟨p2, o2 + 0, none⟩))), (23, (.pointer (some ⟨p2, o2 + 1, none⟩)))] := by simpa only [List.length_set, Nat.add_zero] using hf
      have hf := hf.prune [0, 1, 5] rfl
      refine wl_end ?_
      refine then_n ?_
      refine sq ?_
      refine reg ?_
      refine pRun_ok (tb := tab) (n := 34) tabOk 3 _ _ hf rfl rfl fun a hf => ?_
      refine wl_end ?_
      refine then_n ?_
      refine reg ?_
      refine pRun_ok (tb := tab) (n := 34) tabOk 2 _ _ hf rfl rfl fun a hf => ?_
      obtain ⟨e3, he3, hR1⟩ := bind_some hR1
      refine wl0 rfl (op_iaddrR hf H Try.underlying78 TF.sz40 0 rfl rfl rfl he3 (by decide) fun p3 o3 cs3 a hf hA3 hr3 hk3 => ?_)
      have hrk3 := hr3
      obtain ⟨A4, c4, rfl, hl3⟩ := Frame_cells hr3
      have H := H.push (true, MP.val [(.slice A4 e3.Payload.length c4)] e3.Payload) hl3
      refine pRun_ok (tb := tab) (n := 34) tabOk 1 _ _ hf rfl rfl fun a hf => ?_
      refine wl0 rfl (op_q hf (rq_load1 hf TF.ls35 rfl (hk3 2 _ rfl)) rfl (by decide) fun a hf => ?_)
      refine pRun_ok (tb := tab) (n := 34) tabOk 1 _ _ hf rfl rfl fun a hf => ?_
      obtain ⟨y, hy, hR1⟩ := bind_some hR1
      obtain ⟨F2, hO, hNd, hnx⟩ := H.mutEl rfl he3 hA3 hrk3 hk3 Frame_lens_Payload rfl
      refine wl0 rfl (op_call hf TF.cl44 rfl (by decide) (laws_markIntS_ok (S := fun _ => True) (cs := [(.slice A4 e3.Payload.length c4)]) hO hNd mk_int hy) fun v w a hp hf => ?_)
      obtain ⟨hch, hv, F3, ho, hbk⟩ := hp
      obtain rfl := VR_int hv
      obtain ⟨Fs3, H⟩ := hnx _ _ _ hch ho hbk
      replace hf : Fr a 34 [(0, (.slice A ((a2.set (i).toNat ({ Counter := k2, Pointer := e.Pointer, Payload := e.Payload } : Frame)).set (i).toNat ({ Counter := e2.Counter, Pointer := w64 (k2 + 1), Payload := e2.Payload } : Frame)).length c)), (1, (.int .i64 (w64 ((w64 (k2 + 1)) + 1)))), (5, (.int .i64 i)), (24, (.int .i64 (w64 (k2 + 1)))), (25, (.int .i64 (w64 ((w64 (k2 + 1)) + 1)))), (26, (.slice A ((a2.set (i).toNat ({ Counter := k2, Pointer := e.Pointer, Payload := e.Payload } : Frame)).set (i).toNat ({ Counter := e2.Counter, Pointer := w64 (k2 + 1), Payload := e2.Payload } : Frame)).length c)), (27, (.int .i64 i)), (28, (.pointer (some ⟨p3, o3 + 0, none⟩))), (29, (.pointer (some ⟨p3, o3 + 2, none⟩))), (30, (.slice A4 e3.Payload.length c4)), (31, (.int .i64 (w64 ((w64 (k2 + 1)) + 1)))), (32, (.int .i64 y.1))] := hf.prune [0, 1, 5, 24, 25, 26, 27, 28, 29, 30, 31, 32] rfl
      replace hf : Fr a 34 [(0, (.slice A (((a2.set (i).toNat ({ Counter := k2, Pointer := e.Pointer, Payload := e.Payload } : Frame)).set (i).toNat ({ Counter := e2.Counter, Pointer := w64 (k2 + 1), Payload := e2.Payload } : Frame)).set (i).toNat ({ e3 with Payload := y.2 })).length c)), (1, (.int .i64 (w64 ((w64 (k2 + 1)) + 1)))), (5, (.int .i64 i)), (24, (.int .i64 (w64 (k2 + 1)))), (25, (.int .i64 (w64 ((w64 (k2 + 1)) + 1)))), (26, (.slice A (((a2.set (i).toNat ({ Counter := k2, Pointer := e.Pointer, Payload := e.Payload } : Frame)).set (i).toNat ({ Counter := e2.Counter, Pointer := w64 (k2 + 1), Payload := e2.Payload } : Frame)).set (i).toNat ({ e3 with Payload := y.2 })).length c)), (27, (.int .i64 i)), (28, (.pointer (some ⟨p3, o3 + 0, none⟩))), (29, (.pointer (some ⟨p3, o3 + 2, none⟩))), (30, (.slice A4 e3.Payload.length c4)), (31, (.int .i64 (w64 ((w64 (k2 + 1)) + 1)))), (32, (.int .i64 y.1))] := by simpa only [List.length_set, Nat.add_zero] using hf
      refine pRun_ok (tb := tab) (n := 34) tabOk 1 _ _ hf rfl rfl fun a hf => ?_
      refine wl_end ?_
      refine blk_n ?_
      refine then_n ?_
      refine reg ?_
      refine pRun_ok (tb := tab) (n := 34) tabOk 3 _ _ hf rfl rfl fun a hf => ?_
      refine wl_end ?_
      have hf := hf.prune [0, 1, 5] rfl
      have hf : Fr a 34 [(0, (.slice A a'.length c)), (1, (.int .i64 y.1)), (5, (.int .i64 (w64 (i + 1))))] := by first | exact hf | (simp only [List.length_set, hlen] at hf; exact hf)
      have H := H.let [] [true] [] []
      exact then_n ⟨(((a2.set (i).toNat ({ Counter := k2, Pointer := e.Pointer, Payload := e.Payload } : Frame)).set (i).toNat ({ Counter := e2.Counter, Pointer := w64 (k2 + 1), Payload := e2.Payload } : Frame)).set (i).toNat ({ e3 with Payload := y.2 }), y.1, w64 (i + 1)), hR1, Fs3, (by simp only [List.length_set, hlen]), hf, H⟩
    · rw [if_neg (nt hc)] at hR1
      refine cd_f hf rfl hc ?_
      refine wp_exit (then_x (then_x (blk_e (?_))))
      have hf := hf.prune [0, 1, 5] rfl
      have hf : Fr a 34 [(0, (.slice A a'.length c)), (1, (.int .i64 k2)), (5, (.int .i64 i))] := by first | exact hf | (simp only [List.length_set, hlen] at hf; exact hf)
      have H := H.let [] [true] [] []
      exact ⟨(a2, k2, i), (Option.some.inj hR1).symm, Fs2, (by simp only [List.length_set, hlen]), hf, H⟩
  rintro a w ⟨⟨a3, k3, i2⟩, rfl, Fs4, hlen, hf, H⟩
  try dsimp only at hlen
  have hf : Fr a 34 [(0, (.slice A a3.length c)), (1, (.int .i64 k3)), (5, (.int .i64 i2))] := by rw [hlen]; exact hf
  dsimp only at hF
  refine then_n ?_
  refine sq ?_
  refine reg ?_
  refine pRun_ok (tb := tab) (n := 34) tabOk 2 _ _ hf rfl rfl fun a hf => ?_
  refine wl_end ?_
  refine then_n ?_
  refine wp_ret (?_)
  obtain ⟨F', H⟩ := H.freezeOwn 0 rfl
  rw [hlen] at H
  obtain rfl := Option.some.inj hF
  refine ret_1 (fn := Try.f75) (r := .tmp 4) hf rfl (rv_tmp hf rfl) ?_
  exact ⟨_, rfl, H.chg, mk_int, _, H.ownAt 0 rfl, H.back⟩

/- loop.example/g00897/laws.heldIntS -/
set_option maxHeartbeats 1000000 in
theorem laws_heldIntS_ok {fu : Nat} {w0 : World} {S : Nat → Prop} {v0_ : Value} {v1_ : Value} {a' : List Int} {k' : Int} {r : Int} (h0 : VR w0 S v0_ a') (h1 : VR w0 S v1_ k') (hF : laws_heldIntS fu a' k' = some r) :
    Calls Try.prog 45 [v0_, v1_].toArray w0 fun e w' => ∃ v, e = .returned v ∧ (Below w0.heap.size w0 w' ∧ VR w' (St ⟨w0, []⟩ S [] [] [] true) v r) := by
  obtain ⟨A, c, rfl, hl⟩ := VR_list h0
  obtain rfl := VR_int h1
  have H := Mem.start ⟨w0, []⟩ S
  have H := H.pushArg (MP.val [(.slice A a'.length c)] a') hl
  refine enter Try.func45 rfl rfl (nle rfl) rfl fun a hf => ?_
  rw [laws_heldIntS] at hF
  refine sq ?_
  refine reg ?_
  refine pRun_ok (tb := tab) (n := 21) tabOk 1 _ _ hf rfl rfl fun a hf => ?_
  refine wl_end ?_
  refine then_n ?_
  refine sq ?_
  refine sq ?_
  refine reg ?_
  refine pRun_ok (tb := tab) (n := 21) tabOk 1 _ _ hf rfl rfl fun a hf => ?_
  refine wl_end ?_
  refine then_n ?_
  obtain ⟨out', hB1, hF⟩ := bind_some hF
  have hf := hf.prune [0, 1, 5] rfl
  have H := H.let [] [] [] [0]
  have hI : (fun (s : Int × Int) (a : Act) (w : World) => match s with | (k2, i) => Fr a 21 [(0, (.slice A a'.length c)), (1, (.int .i64 k2)), (5, (.int .i64 i))] ∧ Mem ⟨w0, []⟩ S [] [] [] [(false, MP.val [(.slice A a'.length c)] (a' : List Int))] w) (k', 0) a w0 := ⟨hf, H⟩
  refine mid (fun a w => ∃ s : Int × Int, out' = Out.next s ∧ (fun (s : Int × Int) (a : Act) (w : World) => match s with | (k2, i) => Fr a 21 [(0, (.slice A a'.length c)), (1, (.int .i64 k2)), (5, (.int .i64 i))] ∧ Mem ⟨w0, []⟩ S [] [] [] [(false, MP.val [(.slice A a'.length c)] (a' : List Int))] w) s a w) ?_ ?_
  · refine wp_block ?_
    refine loop_rule (fun k (s : Int × Int) => laws_heldIntS_L1 fu a' k s.1 s.2 = some out') (fun (s : Int × Int) (a : Act) (w : World) => match s with | (k2, i) => Fr a 21 [(0, (.slice A a'.length c)), (1, (.int .i64 k2)), (5, (.int .i64 i))] ∧ Mem ⟨w0, []⟩ S [] [] [] [(false, MP.val [(.slice A a'.length c)] (a' : List Int))] w) (fun s h => by cases h) ?_ fu (k', 0) a w0 hB1 hI
    rintro fk ⟨k2, i⟩ a w hR1 hI
    replace hR1 : laws_heldIntS_L1 fu a' (fk + 1) k2 i = some out' := hR1
    rw [laws_heldIntS_L1] at hR1
    obtain ⟨hf, H⟩ := hI
    refine sq ?_
    refine sq ?_
    refine reg ?_
    refine pRun_ok (tb := tab) (n := 21) tabOk 4 _ _ hf rfl rfl fun a hf => ?_
    refine wl_end ?_
    refine then_n ?_
    refine (Bool.eq_false_or_eq_true (decide (i < (a'.length : Int)))).elim (fun hc => ?_) (fun hc => ?_)
    · rw [if_pos hc] at hR1
      refine cd_t hf rfl hc ?_
      refine wp_skip ?_
      refine then_n ?_
      refine sq ?_
      refine wp_block ?_
      refine sq ?_
      refine sq ?_
      refine reg ?_
      refine pRun_ok (tb := tab) (n := 21) tabOk 2 _ _ hf rfl rfl fun a hf => ?_
      obtain ⟨e, he, hR1⟩ := bind_some hR1
      refine wl0 rfl (op_iaddr hf H Try.underlying35 TF.sz3 0 rfl rfl rfl he (by decide) fun p o cs a hf hr H => ?_)
      obtain rfl := hr
      refine wl0 rfl (op_q hf (rq_loadI hf H TF.ls3 0 0 rfl rfl rfl) rfl (by decide) fun a hf => ?_)
      refine pRun_ok (tb := tab) (n := 21) tabOk 2 _ _ hf rfl rfl fun a hf => ?_
      refine wl_end ?_
      refine then_n ?_
      refine (Bool.eq_false_or_eq_true (e != k2)).elim (fun hc2 => ?_) (fun hc2 => ?_)
      · rw [if_pos hc2] at hR1
        refine cd_t hf rfl hc2 ?_
        refine sq ?_
        refine reg ?_
        refine pRun_ok (tb := tab) (n := 21) tabOk 1 _ _ hf rfl rfl fun a hf => ?_
        have hf := hf.prune [4] rfl
        refine wl_end ?_
        refine then_n ?_
        refine wp_ret (then_r (blk_r (then_r (then_r (blk_r (then_r (then_r (?_))))))))
        obtain rfl := Option.some.inj hR1
        replace hF := on_ret hF
        obtain rfl := Option.some.inj hF
        refine ret_1 (fn := Try.f45) (r := .tmp 4) hf rfl (rv_tmp hf rfl) ?_
        exact ⟨_, rfl, H.bel, mk_int⟩
      · rw [if_neg (nt hc2)] at hR1
        refine cd_f hf rfl hc2 ?_
        refine wp_skip ?_
        refine then_n ?_
        refine reg ?_
        refine pRun_ok (tb := tab) (n := 21) tabOk 3 _ _ hf rfl rfl fun a hf => ?_
        refine wl_end ?_
        refine blk_n ?_
        refine then_n ?_
        refine reg ?_
        refine pRun_ok (tb := tab) (n := 21) tabOk 3 _ _ hf rfl rfl fun a hf => ?_
        have hf := hf.prune [0, 1, 5] rfl
        refine wl_end ?_
        have hf := hf.prune [0, 1, 5] rfl
        have H := H.let [] [] [] [1]
        exact then_n ⟨(w64 (k2 + 1), w64 (i + 1)), hR1, hf, H⟩
    · rw [if_neg (nt hc)] at hR1
      refine cd_f hf rfl hc ?_
      refine wp_exit (then_x (then_x (blk_e (?_))))
      have hf := hf.prune [0, 1, 5] rfl
      have H := H.let [] [] [] [0]
      exact ⟨(k2, i), (Option.some.inj hR1).symm, hf, H⟩
  rintro a w ⟨⟨k3, i2⟩, rfl, hf, H⟩
  replace hF := on_next hF
  dsimp only at hF
  refine then_n ?_
  refine sq ?_
  refine reg ?_
  refine pRun_ok (tb := tab) (n := 21) tabOk 2 _ _ hf rfl rfl fun a hf => ?_
  refine wl_end ?_
  refine then_n ?_
  refine wp_ret (?_)
  obtain rfl := Option.some.inj hF
  refine ret_1 (fn := Try.f45) (r := .tmp 4) hf rfl (rv_tmp hf rfl) ?_
  exact ⟨_, rfl, H.bel, mk_int⟩

/- loop.example/g00897/laws.FnExactCounterGaps -/
set_option maxHeartbeats 1000000 in
theorem laws_FnExactCounterGaps_ok {fu : Nat} {w0 : World} {S : Nat → Prop} {v0_ : Value} {aFrames : List Frame} {r : Bool} (h0 : VR w0 S v0_ aFrames) (hF : laws_FnExactCounterGaps fu aFrames = some r) :
    Calls Try.prog 17 [v0_].toArray w0 fun e w' => ∃ v, e = .returned v ∧ (Below w0.heap.size w0 w' ∧ VR w' (St ⟨w0, []⟩ S [] [] [] true) v r) := by
  obtain ⟨A, c, rfl, hl⟩ := VR_list h0
  have H := Mem.start ⟨w0, []⟩ S
  have H := H.pushArg (MP.val [(.slice A aFrames.length c)] aFrames) hl
  refine enter Try.func17 rfl rfl (nle rfl) rfl fun a hf => ?_
  rw [laws_FnExactCounterGaps] at hF
  refine sq ?_
  refine reg ?_
  refine pRun_ok (tb := tab) (n := 96) tabOk 1 _ _ hf rfl rfl fun a hf => ?_
  refine wl_end ?_
  refine then_n ?_
  refine sq ?_
  refine reg ?_
  refine pRun_ok (tb := tab) (n := 96) tabOk 1 _ _ hf rfl rfl fun a hf => ?_
  refine wl_end ?_
  refine then_n ?_
  refine sq ?_
  refine reg ?_
  refine pRun_ok (tb := tab) (n := 96) tabOk 2 _ _ hf rfl rfl fun a hf => ?_
  obtain ⟨y, hy, hF⟩ := bind_some hF
  refine wl0 rfl (op_call hf TF.cl70 rfl (by decide) (laws_szFrameS_ok (S := fun _ => True) (mk_list (rep_true (α := List Frame) (H.get 0 rfl))) mk_int hy) fun v w a hp hf => ?_)
  obtain ⟨hb, hp⟩ := hp
  obtain rfl := VR_int hp
  have H := H.keep hb
  refine pRun_ok (tb := tab) (n := 96) tabOk 1 _ _ hf rfl rfl fun a hf => ?_
  refine wl_end ?_
  refine then_n ?_
  refine sq ?_
  refine sq ?_
  refine reg ?_
  refine pRun_ok (tb := tab) (n := 96) tabOk 2 _ _ hf rfl rfl fun a hf => ?_
  refine wl_end ?_
  refine then_n ?_
  refine (Bool.eq_false_or_eq_true (decide (y < 0))).elim (fun hc => ?_) (fun hc => ?_)
  · rw [if_pos hc] at hF
    refine cd_t hf rfl hc ?_
    refine sq ?_
    refine reg ?_
    refine pRun_ok (tb := tab) (n := 96) tabOk 1 _ _ hf rfl rfl fun a hf => ?_
    refine wl_end ?_
    refine then_n ?_
    refine wp_ret (then_r (?_))
    obtain rfl := Option.some.inj hF
    refine ret_1 (fn := Try.f17) (r := .tmp 2) hf rfl (rv_tmp hf rfl) ?_
    exact ⟨_, rfl, H.bel, mk_bool⟩
  · rw [if_neg (nt hc)] at hF
    refine cd_f hf rfl hc ?_
    refine wp_skip ?_
    refine then_n ?_
    refine sq ?_
    refine reg ?_
    refine pRun_ok (tb := tab) (n := 96) tabOk 1 _ _ hf rfl rfl fun a hf => ?_
    obtain ⟨y2, hy2, hF⟩ := bind_some hF
    refine wl0 rfl (op_call hf TF.cl72 rfl (by decide) (laws_toFrameS_ok (S := fun _ => True) (mk_list (rep_true (α := List Frame) (H.get 0 rfl))) hy2) fun v2 w a hp2 hf => ?_)
    obtain ⟨hb2, F, hp3, hN⟩ := hp2
    obtain ⟨A2, c2, rfl, hl2⟩ := VO_list hp3
    have H := H.addOwn hb2 (X := [(⟨F, MP.own F [(.slice A2 y2.length c2)] (y2 : List Frame)⟩ : DI)]) (by simpa using hN.1) (ps1 hl2 ps0) (by simpa using hN.2)
    have H := H.lend 0 rfl
    obtain ⟨y3, hy3, hF⟩ := bind_some hF
    refine wl0 rfl (op_call hf TF.cl71 rfl (by decide) (spec_CounterGaps_ok (S := fun _ => True) (mk_list (rep_true (α := List Frame) (H.get 0 rfl))) hy3) fun v3 w a hp4 hf => ?_)
    obtain ⟨hb3, F3, v4, v5, rfl, hp5, hp6, hN2⟩ := hp4
    obtain ⟨A3, c3, rfl, hl3⟩ := VO_list hp5
    obtain rfl := VR_bool hp6
    have H := H.addOwn hb3 (X := [(⟨F3, MP.own F3 [(.slice A3 y3.1.length c3)] (y3.1 : List Int)⟩ : DI)]) (by simpa using hN2.1) (ps1 hl3 ps0) (by simpa using hN2.2)
    have H := H.lend 0 rfl
    refine pRun_ok (tb := tab) (n := 96) tabOk 5 _ _ hf rfl rfl fun a hf => ?_
    have hf := hf.prune [0, 4, 5] rfl
    refine wl_end ?_
    refine then_n ?_
    refine sq ?_
    refine reg ?_
    refine pRun_ok (tb := tab) (n := 96) tabOk 1 _ _ hf rfl rfl fun a hf => ?_
    obtain ⟨y4, hy4, hF⟩ := bind_some hF
    refine wl0 rfl (op_call hf TF.cl72 rfl (by decide) (laws_toFrameS_ok (S := fun _ => True) (mk_list (rep_true (α := List Frame) (H.get 2 rfl))) hy4) fun v6 w a hp7 hf => ?_)
    obtain ⟨hb4, F5, hp8, hN3⟩ := hp7
    obtain ⟨A4, c4, rfl, hl4⟩ := VO_list hp8
    have H := H.addOwn hb4 (X := [(⟨F5, MP.own F5 [(.slice A4 y4.length c4)] (y4 : List Frame)⟩ : DI)]) (by simpa using hN3.1) (ps1 hl4 ps0) (by simpa using hN3.2)
    have H := H.lend 0 rfl
    refine pRun_ok (tb := tab) (n := 96) tabOk 1 _ _ hf rfl rfl fun a hf => ?_
    refine wl_end ?_
    refine then_n ?_
    refine sq ?_
    refine reg ?_
    refine pRun_ok (tb := tab) (n := 96) tabOk 1 _ _ hf rfl rfl fun a hf => ?_
    obtain ⟨y5, hy5, hF⟩ := bind_some hF
    refine wl0 rfl (op_call hf TF.cl73 rfl (by decide) (impl_CounterGaps_ok (S := fun _ => True) (mk_list (rep_true (α := List Frame) (H.get 0 rfl))) hy5) fun v7 w a hp9 hf => ?_)
    obtain ⟨hb5, F7, v8, v9, rfl, hp10, hp11, hN4⟩ := hp9
    obtain ⟨A5, c5, rfl, hl5⟩ := VO_list hp10
    obtain rfl := VR_bool hp11
    have H := H.addOwn hb5 (X := [(⟨F7, MP.own F7 [(.slice A5 y5.1.length c5)] (y5.1 : List Int)⟩ : DI)]) (by simpa using hN4.1) (ps1 hl5 ps0) (by simpa using hN4.2)
    have H := H.lend 0 rfl
    refine pRun_ok (tb := tab) (n := 96) tabOk 5 _ _ hf rfl rfl fun a hf => ?_
    refine wl_end ?_
    refine then_n ?_
    refine sq ?_
    refine sq ?_
    obtain ⟨c6, hGc6, hF⟩ := bind_some hF
    refine mid (fun a w => Fr a 96 [(0, (.slice A aFrames.length c)), (4, (.slice A3 y3.1.length c3)), (5, (.bool y3.2)), (6, (.slice A4 y4.length c4)), (7, (.slice A5 y5.1.length c5)), (8, (.bool y5.2)), (40, (.bool c6))] ∧ Mem ⟨w0, []⟩ S [] [] [⟨F7, MP.own F7 [(.slice A5 y5.1.length c5)] (y5.1 : List Int)⟩, ⟨F5, MP.own F5 [(.slice A4 y4.length c4)] (y4 : List Frame)⟩, ⟨F3, MP.own F3 [(.slice A3 y3.1.length c3)] (y3.1 : List Int)⟩] [(true, MP.val [(.slice A5 y5.1.length c5)] (y5.1 : List Int)), (true, MP.val [(.slice A4 y4.length c4)] (y4 : List Frame)), (true, MP.val [(.slice A3 y3.1.length c3)] (y3.1 : List Int)), (false, MP.val [(.slice A aFrames.length c)] (aFrames : List Frame))] w) ?_ ?_
    · refine reg ?_
      refine pRun_ok (tb := tab) (n := 96) tabOk 2 _ _ hf rfl rfl fun a hf => ?_
      obtain ⟨y6, hy6, hGc6⟩ := bind_some hGc6
      refine wl0 rfl (op_call hf TF.cl43 rfl (by decide) (laws_eqIntS_ok (S := fun _ => True) (mk_list (rep_true (α := List Int) (H.get 0 rfl))) (mk_list (rep_true (α := List Int) (H.get 2 rfl))) hy6) fun v10 w a hp12 hf => ?_)
      obtain ⟨hb6, hp12⟩ := hp12
      obtain rfl := VR_bool hp12
      have H := H.keep hb6
      refine pRun_ok (tb := tab) (n := 96) tabOk 2 _ _ hf rfl rfl fun a hf => ?_
      refine (Bool.eq_false_or_eq_true (!y6)).elim (fun hc2 => ?_) (fun hc2 => ?_)
      · rw [if_pos hc2] at hGc6
        have hf := hf.lit 36 rfl hc2
        refine pRun_ok (tb := tab) (n := 96) tabOk 4 _ _ hf rfl rfl fun a hf => ?_
        obtain rfl := Option.some.inj hGc6
        have hf := hf.prune [0, 4, 5, 6, 7, 8, 40] rfl
        have H := H.let [] [] [true, true, true, false] [0, 1, 2, 4]
        exact wl_end ⟨hf, H⟩
      · rw [if_neg (nt hc2)] at hGc6
        have hf := hf.lit 36 rfl hc2
        refine pRun_ok (tb := tab) (n := 96) tabOk 4 _ _ hf rfl rfl fun a hf => ?_
        obtain rfl := Option.some.inj hGc6
        have hf := hf.prune [0, 4, 5, 6, 7, 8, 40] rfl
        have H := H.let [] [] [true, true, true, false] [0, 1, 2, 4]
        exact wl_end ⟨hf, H⟩
    rintro a w ⟨hf, H⟩
    refine then_n ?_
    refine (Bool.eq_false_or_eq_true (c6)).elim (fun hc3 => ?_) (fun hc3 => ?_)
    · rw [if_pos hc3] at hF
      refine cd_t hf rfl hc3 ?_
      refine sq ?_
      refine reg ?_
      refine pRun_ok (tb := tab) (n := 96) tabOk 1 _ _ hf rfl rfl fun a hf => ?_
      refine wl_end ?_
      refine then_n ?_
      refine wp_ret (then_r (?_))
      obtain rfl := Option.some.inj hF
      refine ret_1 (fn := Try.f17) (r := .tmp 2) hf rfl (rv_tmp hf rfl) ?_
      exact ⟨_, rfl, H.bel, mk_bool⟩
    · rw [if_neg (nt hc3)] at hF
      refine cd_f hf rfl hc3 ?_
      refine wp_skip ?_
      refine then_n ?_
      refine sq ?_
      refine sq ?_
      refine reg ?_
      refine pRun_ok (tb := tab) (n := 96) tabOk 2 _ _ hf rfl rfl fun a hf => ?_
      obtain ⟨y7, hy7, hF⟩ := bind_some hF
      refine wl0 rfl (op_call hf TF.cl72 rfl (by decide) (laws_toFrameS_ok (S := fun _ => True) (mk_list (rep_true (α := List Frame) (H.get 3 rfl))) hy7) fun v11 w a hp13 hf => ?_)
      obtain ⟨hb7, F9, hp14, hN5⟩ := hp13
      obtain ⟨A6, c7, rfl, hl6⟩ := VO_list hp14
      have H := H.addOwn hb7 (X := [(⟨F9, MP.own F9 [(.slice A6 y7.length c7)] (y7 : List Frame)⟩ : DI)]) (by simpa using hN5.1) (ps1 hl6 ps0) (by simpa using hN5.2)
      have H := H.lend 0 rfl
      obtain ⟨y8, hy8, hF⟩ := bind_some hF
      refine wl0 rfl (op_call hf TF.cl74 rfl (by decide) (laws_eqFrameS_ok (S := fun _ => True) (mk_list (rep_true (α := List Frame) (H.get 2 rfl))) (mk_list (rep_true (α := List Frame) (H.get 0 rfl))) hy8) fun v12 w a hp15 hf => ?_)
      obtain ⟨hb8, hp15⟩ := hp15
      obtain rfl := VR_bool hp15
      have H := H.keep hb8
      refine pRun_ok (tb := tab) (n := 96) tabOk 1 _ _ hf rfl rfl fun a hf => ?_
      refine wl_end ?_
      refine then_n ?_
      refine (Bool.eq_false_or_eq_true (!y8)).elim (fun hc4 => ?_) (fun hc4 => ?_)
      · rw [if_pos hc4] at hF
        refine cd_t hf rfl hc4 ?_
        refine sq ?_
        refine reg ?_
        refine pRun_ok (tb := tab) (n := 96) tabOk 1 _ _ hf rfl rfl fun a hf => ?_
        refine wl_end ?_
        refine then_n ?_
        refine wp_ret (then_r (?_))
        obtain rfl := Option.some.inj hF
        refine ret_1 (fn := Try.f17) (r := .tmp 2) hf rfl (rv_tmp hf rfl) ?_
        exact ⟨_, rfl, H.bel, mk_bool⟩
      · rw [if_neg (nt hc4)] at hF
        refine cd_f hf rfl hc4 ?_
        refine wp_skip ?_
        refine then_n ?_
        refine sq ?_
        refine reg ?_
        refine pRun_ok (tb := tab) (n := 96) tabOk 1 _ _ hf rfl rfl fun a hf => ?_
        refine wl_end ?_
        refine then_n ?_
        refine sq ?_
        refine reg ?_
        refine pRun_ok (tb := tab) (n := 96) tabOk 2 _ _ hf rfl rfl fun a hf => ?_
        have H := H.frontD 2 rfl
        obtain ⟨y9, hy9, hF⟩ := bind_some hF
        refine wl0 rfl (op_call hf TF.cl75 rfl (by decide) (laws_markFrameS_ok (S := fun _ => True) (F := F5) (cs := [(.slice A4 y4.length c4)]) (H.ownAt 0 rfl) H.diNd.1 mk_int hy9) fun v13 w a hp16 hf => ?_)
        obtain ⟨hch, hv, F11, ho, hbk⟩ := hp16
        obtain rfl := VR_int hv
        have H := H.wrote rfl hch ho hbk
        have H := H.arg (p := MP.val [(.slice A aFrames.length c)] aFrames) hl
        have H := H.lend 0 rfl
        have H := H.lend 1 rfl
        have H := H.lend 2 rfl
        have H := H.lend 3 rfl
        refine pRun_ok (tb := tab) (n := 96) tabOk 1 _ _ hf rfl rfl fun a hf => ?_
        refine wl_end ?_
        refine then_n ?_
        refine sq ?_
        refine sq ?_
        obtain ⟨c8, hGc8, hF⟩ := bind_some hF
        refine mid (fun a w => Fr a 96 [(0, (.slice A aFrames.length c)), (4, (.slice A3 y3.1.length c3)), (5, (.bool y3.2)), (7, (.slice A5 y5.1.length c5)), (61, (.bool c8))] ∧ Mem ⟨w0, []⟩ S [] [] [⟨F7, MP.own F7 [(.slice A5 y5.1.length c5)] (y5.1 : List Int)⟩, ⟨F3, MP.own F3 [(.slice A3 y3.1.length c3)] (y3.1 : List Int)⟩] [(true, MP.val [(.slice A3 y3.1.length c3)] (y3.1 : List Int)), (true, MP.val [(.slice A5 y5.1.length c5)] (y5.1 : List Int)), (false, MP.val [(.slice A aFrames.length c)] (aFrames : List Frame))] w) ?_ ?_
        · refine reg ?_
          refine pRun_ok (tb := tab) (n := 96) tabOk 3 _ _ hf rfl rfl fun a hf => ?_
          refine (Bool.eq_false_or_eq_true (decide (y9.1 < 0))).elim (fun hc5 => ?_) (fun hc5 => ?_)
          · rw [if_pos hc5] at hGc8
            have hf := hf.lit 51 rfl hc5
            refine pRun_ok (tb := tab) (n := 96) tabOk 10 _ _ hf rfl rfl fun a hf => ?_
            obtain rfl := Option.some.inj hGc8
            have hf := hf.prune [0, 4, 5, 7, 61] rfl
            have H := H.let [] [] [false, false, true, true] [0, 1, 4]
            exact wl_end ⟨hf, H⟩
          · rw [if_neg (nt hc5)] at hGc8
            have hf := hf.lit 51 rfl hc5
            refine pRun_ok (tb := tab) (n := 96) tabOk 2 _ _ hf rfl rfl fun a hf => ?_
            obtain ⟨y10, hy10, hGc8⟩ := bind_some hGc8
            refine wlg hf rfl rfl rfl (op_call hf TF.cl43 rfl (by decide) (laws_eqIntS_ok (S := fun _ => True) (mk_list (rep_true (α := List Int) (H.get 1 rfl))) (mk_list (rep_true (α := List Int) (H.get 0 rfl))) hy10) fun v14 w a hp17 hf => ?_)
            obtain ⟨hb9, hp17⟩ := hp17
            obtain rfl := VR_bool hp17
            have H := H.keep hb9
            refine pRun_ok (tb := tab) (n := 96) tabOk 3 _ _ hf rfl rfl fun a hf => ?_
            refine (Bool.eq_false_or_eq_true (!y10)).elim (fun hc6 => ?_) (fun hc6 => ?_)
            · rw [if_pos hc6] at hGc8
              have hf := hf.lit 57 rfl hc6
              refine pRun_ok (tb := tab) (n := 96) tabOk 4 _ _ hf rfl rfl fun a hf => ?_
              obtain rfl := Option.some.inj hGc8
              have hf := hf.prune [0, 4, 5, 7, 61] rfl
              have H := H.let [] [] [false, false, true, true] [0, 1, 4]
              exact wl_end ⟨hf, H⟩
            · rw [if_neg (nt hc6)] at hGc8
              have hf := hf.lit 57 rfl hc6
              refine pRun_ok (tb := tab) (n := 96) tabOk 4 _ _ hf rfl rfl fun a hf => ?_
              obtain rfl := Option.some.inj hGc8
              have hf := hf.prune [0, 4, 5, 7, 61] rfl
              have H := H.let [] [] [false, false, true, true] [0, 1, 4]
              exact wl_end ⟨hf, H⟩
        rintro a w ⟨hf, H⟩
        refine then_n ?_
        refine (Bool.eq_false_or_eq_true (c8)).elim (fun hc7 => ?_) (fun hc7 => ?_)
        · rw [if_pos hc7] at hF
          refine cd_t hf rfl hc7 ?_
          refine sq ?_
          refine reg ?_
          refine pRun_ok (tb := tab) (n := 96) tabOk 1 _ _ hf rfl rfl fun a hf => ?_
          refine wl_end ?_
          refine then_n ?_
          refine wp_ret (then_r (?_))
          obtain rfl := Option.some.inj hF
          refine ret_1 (fn := Try.f17) (r := .tmp 2) hf rfl (rv_tmp hf rfl) ?_
          exact ⟨_, rfl, H.bel, mk_bool⟩
        · rw [if_neg (nt hc7)] at hF
          refine cd_f hf rfl hc7 ?_
          refine wp_skip ?_
          refine then_n ?_
          refine sq ?_
          refine reg ?_
          refine pRun_ok (tb := tab) (n := 96) tabOk 1 _ _ hf rfl rfl fun a hf => ?_
          refine wl_end ?_
          refine then_n ?_
          refine sq ?_
          refine reg ?_
          refine pRun_ok (tb := tab) (n := 96) tabOk 2 _ _ hf rfl rfl fun a hf => ?_
          obtain ⟨y11, hy11, hF⟩ := bind_some hF
          refine wl0 rfl (op_call hf TF.cl44 rfl (by decide) (laws_markIntS_ok (S := fun _ => True) (F := F7) (cs := [(.slice A5 y5.1.length c5)]) (H.ownAt 0 rfl) H.diNd.1 mk_int hy11) fun v15 w a hp18 hf => ?_)
          obtain ⟨hch2, hv2, F12, ho2, hbk2⟩ := hp18
          obtain rfl := VR_int hv2
          have H := H.wrote rfl hch2 ho2 hbk2
          have H := H.arg (p := MP.val [(.slice A aFrames.length c)] aFrames) hl
          have H := H.lend 0 rfl
          have H := H.lend 1 rfl
          refine pRun_ok (tb := tab) (n := 96) tabOk 1 _ _ hf rfl rfl fun a hf => ?_
          refine wl_end ?_
          refine then_n ?_
          refine sq ?_
          refine reg ?_
          refine pRun_ok (tb := tab) (n := 96) tabOk 1 _ _ hf rfl rfl fun a hf => ?_
          refine wl_end ?_
          refine then_n ?_
          refine sq ?_
          refine reg ?_
          refine pRun_ok (tb := tab) (n := 96) tabOk 2 _ _ hf rfl rfl fun a hf => ?_
          obtain ⟨y12, hy12, hF⟩ := bind_some hF
          refine wl0 rfl (op_call hf TF.cl45 rfl (by decide) (laws_heldIntS_ok (S := fun _ => True) (mk_list (rep_true (α := List Int) (H.get 1 rfl))) mk_int hy12) fun v16 w a hp19 hf => ?_)
          obtain ⟨hb10, hp19⟩ := hp19
          obtain rfl := VR_int hp19
          have H := H.keep hb10
          refine pRun_ok (tb := tab) (n := 96) tabOk 1 _ _ hf rfl rfl fun a hf => ?_
          refine wl_end ?_
          refine then_n ?_
          refine sq ?_
          refine sq ?_
          refine reg ?_
          refine pRun_ok (tb := tab) (n := 96) tabOk 2 _ _ hf rfl rfl fun a hf => ?_
          refine wl_end ?_
          refine then_n ?_
          refine (Bool.eq_false_or_eq_true (decide (y12 < 0))).elim (fun hc8 => ?_) (fun hc8 => ?_)
          · rw [if_pos hc8] at hF
            refine cd_t hf rfl hc8 ?_
            refine sq ?_
            refine reg ?_
            refine pRun_ok (tb := tab) (n := 96) tabOk 1 _ _ hf rfl rfl fun a hf => ?_
            have hf := hf.prune [2] rfl
            refine wl_end ?_
            refine then_n ?_
            refine wp_ret (then_r (?_))
            obtain rfl := Option.some.inj hF
            refine ret_1 (fn := Try.f17) (r := .tmp 2) hf rfl (rv_tmp hf rfl) ?_
            exact ⟨_, rfl, H.bel, mk_bool⟩
          · rw [if_neg (nt hc8)] at hF
            refine cd_f hf rfl hc8 ?_
            refine wp_skip ?_
            refine then_n ?_
            refine sq ?_
            refine sq ?_
            refine reg ?_
            refine pRun_ok (tb := tab) (n := 96) tabOk 3 _ _ hf rfl rfl fun a hf => ?_
            refine wl_end ?_
            refine then_n ?_
            refine (Bool.eq_false_or_eq_true (y12 != y11.1)).elim (fun hc9 => ?_) (fun hc9 => ?_)
            · rw [if_pos hc9] at hF
              refine cd_t hf rfl hc9 ?_
              refine sq ?_
              refine reg ?_
              refine pRun_ok (tb := tab) (n := 96) tabOk 1 _ _ hf rfl rfl fun a hf => ?_
              have hf := hf.prune [2] rfl
              refine wl_end ?_
              refine then_n ?_
              refine wp_ret (then_r (?_))
              obtain rfl := Option.some.inj hF
              refine ret_1 (fn := Try.f17) (r := .tmp 2) hf rfl (rv_tmp hf rfl) ?_
              exact ⟨_, rfl, H.bel, mk_bool⟩
            · rw [if_neg (nt hc9)] at hF
              refine cd_f hf rfl hc9 ?_
              refine wp_skip ?_
              refine then_n ?_
              refine sq ?_
              refine reg ?_
              refine pRun_ok (tb := tab) (n := 96) tabOk 1 _ _ hf rfl rfl fun a hf => ?_
              obtain ⟨y13, hy13, hF⟩ := bind_some hF
              refine wl0 rfl (op_call hf TF.cl72 rfl (by decide) (laws_toFrameS_ok (S := fun _ => True) (mk_list (rep_true (α := List Frame) (H.get 2 rfl))) hy13) fun v17 w a hp20 hf => ?_)
              obtain ⟨hb11, F13, hp21, hN6⟩ := hp20
              obtain ⟨A7, c9, rfl, hl7⟩ := VO_list hp21
              have H := H.addOwn hb11 (X := [(⟨F13, MP.own F13 [(.slice A7 y13.length c9)] (y13 : List Frame)⟩ : DI)]) (by simpa using hN6.1) (ps1 hl7 ps0) (by simpa using hN6.2)
              have H := H.lend 0 rfl
              obtain ⟨y14, hy14, hF⟩ := bind_some hF
              refine wl0 rfl (op_call hf TF.cl73 rfl (by decide) (impl_CounterGaps_ok (S := fun _ => True) (mk_list (rep_true (α := List Frame) (H.get 0 rfl))) hy14) fun v18 w a hp22 hf => ?_)
              obtain ⟨hb12, F15, v19, v20, rfl, hp23, hp24, hN7⟩ := hp22
              obtain ⟨A8, c10, rfl, hl8⟩ := VO_list hp23
              obtain rfl := VR_bool hp24
              have H := H.addOwn hb12 (X := [(⟨F15, MP.own F15 [(.slice A8 y14.1.length c10)] (y14.1 : List Int)⟩ : DI)]) (by simpa using hN7.1) (ps1 hl8 ps0) (by simpa using hN7.2)
              have H := H.lend 0 rfl
              refine pRun_ok (tb := tab) (n := 96) tabOk 5 _ _ hf rfl rfl fun a hf => ?_
              have hf := hf.prune [4, 5, 7, 10, 12, 13] rfl
              refine wl_end ?_
              refine then_n ?_
              refine sq ?_
              refine sq ?_
              obtain ⟨c11, hGc11, hF⟩ := bind_some hF
              refine mid (fun a w => Fr a 96 [(7, (.slice A5 y5.1.length c5)), (10, (.int .i64 y11.1)), (87, (.bool c11))] ∧ Mem ⟨w0, []⟩ S [] [] [⟨F12, MP.own F12 [(.slice A5 y5.1.length c5)] (y11.2 : List Int)⟩] [(true, MP.val [(.slice A5 y5.1.length c5)] (y11.2 : List Int))] w) ?_ ?_
              · refine reg ?_
                refine pRun_ok (tb := tab) (n := 96) tabOk 2 _ _ hf rfl rfl fun a hf => ?_
                obtain ⟨y15, hy15, hGc11⟩ := bind_some hGc11
                refine wl0 rfl (op_call hf TF.cl43 rfl (by decide) (laws_eqIntS_ok (S := fun _ => True) (mk_list (rep_true (α := List Int) (H.get 0 rfl))) (mk_list (rep_true (α := List Int) (H.get 2 rfl))) hy15) fun v21 w a hp25 hf => ?_)
                obtain ⟨hb13, hp25⟩ := hp25
                obtain rfl := VR_bool hp25
                have H := H.keep hb13
                refine pRun_ok (tb := tab) (n := 96) tabOk 2 _ _ hf rfl rfl fun a hf => ?_
                refine (Bool.eq_false_or_eq_true (!y15)).elim (fun hc10 => ?_) (fun hc10 => ?_)
                · rw [if_pos hc10] at hGc11
                  have hf := hf.lit 83 rfl hc10
                  refine pRun_ok (tb := tab) (n := 96) tabOk 4 _ _ hf rfl rfl fun a hf => ?_
                  obtain rfl := Option.some.inj hGc11
                  have hf := hf.prune [7, 10, 87] rfl
                  have H := H.let [] [] [false, false, true, false] [3]
                  exact wl_end ⟨hf, H⟩
                · rw [if_neg (nt hc10)] at hGc11
                  have hf := hf.lit 83 rfl hc10
                  refine pRun_ok (tb := tab) (n := 96) tabOk 4 _ _ hf rfl rfl fun a hf => ?_
                  obtain rfl := Option.some.inj hGc11
                  have hf := hf.prune [7, 10, 87] rfl
                  have H := H.let [] [] [false, false, true, false] [3]
                  exact wl_end ⟨hf, H⟩
              rintro a w ⟨hf, H⟩
              refine then_n ?_
              refine (Bool.eq_false_or_eq_true (c11)).elim (fun hc11 => ?_) (fun hc11 => ?_)
              · rw [if_pos hc11] at hF
                refine cd_t hf rfl hc11 ?_
                refine sq ?_
                refine reg ?_
                refine pRun_ok (tb := tab) (n := 96) tabOk 1 _ _ hf rfl rfl fun a hf => ?_
                refine wl_end ?_
                refine then_n ?_
                refine wp_ret (then_r (?_))
                obtain rfl := Option.some.inj hF
                refine ret_1 (fn := Try.f17) (r := .tmp 2) hf rfl (rv_tmp hf rfl) ?_
                exact ⟨_, rfl, H.bel, mk_bool⟩
              · rw [if_neg (nt hc11)] at hF
                refine cd_f hf rfl hc11 ?_
                refine wp_skip ?_
                refine then_n ?_
                refine sq ?_
                refine reg ?_
                refine pRun_ok (tb := tab) (n := 96) tabOk 1 _ _ hf rfl rfl fun a hf => ?_
                refine wl_end ?_
                refine then_n ?_
                refine sq ?_
                refine reg ?_
                refine pRun_ok (tb := tab) (n := 96) tabOk 2 _ _ hf rfl rfl fun a hf => ?_
                obtain ⟨y16, hy16, hF⟩ := bind_some hF
                refine wl0 rfl (op_call hf TF.cl45 rfl (by decide) (laws_heldIntS_ok (S := fun _ => True) (mk_list (rep_true (α := List Int) (H.get 0 rfl))) mk_int hy16) fun v22 w a hp26 hf => ?_)
                obtain ⟨hb14, hp26⟩ := hp26
                obtain rfl := VR_int hp26
                have H := H.keep hb14
                refine pRun_ok (tb := tab) (n := 96) tabOk 1 _ _ hf rfl rfl fun a hf => ?_
                refine wl_end ?_
                refine then_n ?_
                refine sq ?_
                refine sq ?_
                refine reg ?_
                refine pRun_ok (tb := tab) (n := 96) tabOk 2 _ _ hf rfl rfl fun a hf => ?_
                refine wl_end ?_
                refine then_n ?_
                refine (Bool.eq_false_or_eq_true (decide (y16 < 0))).elim (fun hc12 => ?_) (fun hc12 => ?_)
                · rw [if_pos hc12] at hF
                  refine cd_t hf rfl hc12 ?_
                  refine sq ?_
                  refine reg ?_
                  refine pRun_ok (tb := tab) (n := 96) tabOk 1 _ _ hf rfl rfl fun a hf => ?_
                  refine wl_end ?_
                  refine then_n ?_
                  refine wp_ret (then_r (?_))
                  obtain rfl := Option.some.inj hF
                  refine ret_1 (fn := Try.f17) (r := .tmp 2) hf rfl (rv_tmp hf rfl) ?_
                  exact ⟨_, rfl, H.bel, mk_bool⟩
                · rw [if_neg (nt hc12)] at hF
                  refine cd_f hf rfl hc12 ?_
                  refine wp_skip ?_
                  refine then_n ?_
                  refine sq ?_
                  refine sq ?_
                  refine reg ?_
                  refine pRun_ok (tb := tab) (n := 96) tabOk 3 _ _ hf rfl rfl fun a hf => ?_
                  refine wl_end ?_
                  refine then_n ?_
                  refine (Bool.eq_false_or_eq_true (y16 != y11.1)).elim (fun hc13 => ?_) (fun hc13 => ?_)
                  · rw [if_pos hc13] at hF
                    refine cd_t hf rfl hc13 ?_
                    refine sq ?_
                    refine reg ?_
                    refine pRun_ok (tb := tab) (n := 96) tabOk 1 _ _ hf rfl rfl fun a hf => ?_
                    refine wl_end ?_
                    refine then_n ?_
                    refine wp_ret (then_r (?_))
                    obtain rfl := Option.some.inj hF
                    refine ret_1 (fn := Try.f17) (r := .tmp 2) hf rfl (rv_tmp hf rfl) ?_
                    exact ⟨_, rfl, H.bel, mk_bool⟩
                  · rw [if_neg (nt hc13)] at hF
                    refine cd_f hf rfl hc13 ?_
                    refine wp_skip ?_
                    refine then_n ?_
                    refine sq ?_
                    refine reg ?_
                    refine pRun_ok (tb := tab) (n := 96) tabOk 1 _ _ hf rfl rfl fun a hf => ?_
                    refine wl_end ?_
                    refine then_n ?_
                    refine wp_ret (?_)
                    obtain rfl := Option.some.inj hF
                    refine ret_1 (fn := Try.f17) (r := .tmp 2) hf rfl (rv_tmp hf rfl) ?_
                    exact ⟨_, rfl, H.bel, mk_bool⟩
end AT
