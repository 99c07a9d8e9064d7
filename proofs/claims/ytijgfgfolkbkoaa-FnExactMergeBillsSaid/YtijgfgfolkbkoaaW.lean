/- The Go functions do what is told of them, by program (gen.py). -/
import Derived.Test.YtijgfgfolkbkoaaT
set_option linter.unusedVariables false
set_option linter.unusedSimpArgs false
set_option maxRecDepth 100000
namespace AT
open Go Go.RowKit Go.Proofs

/- loop.example/g00897/laws.szItemS -/
set_option maxHeartbeats 1000000 in
theorem laws_szItemS_ok {fu : Nat} {w0 : World} {S : Nat → Prop} {v0_ : Value} {v1_ : Value} {a' : List Item} {left : Int} {r : Int} (h0 : VR w0 S v0_ a') (h1 : VR w0 S v1_ left) (hF : laws_szItemS fu a' left = some r) :
    Calls Try.prog 46 [v0_, v1_].toArray w0 fun e w' => ∃ v, e = .returned v ∧ (Below w0.heap.size w0 w' ∧ VR w' (St ⟨w0, []⟩ S [] [] [] true) v r) := by
  obtain ⟨A, c, rfl, hl⟩ := VR_list h0
  obtain rfl := VR_int h1
  have H := Mem.start ⟨w0, []⟩ S
  have H := H.pushArg (MP.val [(.slice A a'.length c)] a') hl
  refine enter Try.func46 rfl rfl (nle rfl) rfl fun a hf => ?_
  rw [laws_szItemS] at hF
  refine sq ?_
  refine reg ?_
  refine pRun_ok (tb := tab) (n := 12) tabOk 1 _ _ hf rfl rfl fun a hf => ?_
  refine wl_end ?_
  refine then_n ?_
  refine sq ?_
  refine reg ?_
  refine pRun_ok (tb := tab) (n := 12) tabOk 5 _ _ hf rfl rfl fun a hf => ?_
  refine wl_end ?_
  refine then_n ?_
  refine sq ?_
  refine sq ?_
  refine reg ?_
  refine pRun_ok (tb := tab) (n := 12) tabOk 2 _ _ hf rfl rfl fun a hf => ?_
  refine wl_end ?_
  refine then_n ?_
  refine (Bool.eq_false_or_eq_true (decide ((w64 (left - (a'.length : Int))) < 0))).elim (fun hc => ?_) (fun hc => ?_)
  · rw [if_pos hc] at hF
    refine cd_t hf rfl hc ?_
    refine sq ?_
    refine reg ?_
    refine pRun_ok (tb := tab) (n := 12) tabOk 1 _ _ hf rfl rfl fun a hf => ?_
    refine wl_end ?_
    refine then_n ?_
    refine wp_ret (then_r (?_))
    obtain rfl := Option.some.inj hF
    refine ret_1 (fn := Try.f46) (r := .tmp 4) hf rfl (rv_tmp hf rfl) ?_
    exact ⟨_, rfl, H.bel, mk_int⟩
  · rw [if_neg (nt hc)] at hF
    refine cd_f hf rfl hc ?_
    refine wp_skip ?_
    refine then_n ?_
    refine sq ?_
    refine reg ?_
    refine pRun_ok (tb := tab) (n := 12) tabOk 2 _ _ hf rfl rfl fun a hf => ?_
    refine wl_end ?_
    refine then_n ?_
    refine wp_ret (?_)
    obtain rfl := Option.some.inj hF
    refine ret_1 (fn := Try.f46) (r := .tmp 4) hf rfl (rv_tmp hf rfl) ?_
    exact ⟨_, rfl, H.bel, mk_int⟩

/- loop.example/g00897/laws.toItem -/
set_option maxHeartbeats 1000000 in
theorem laws_toItem_ok {fu : Nat} {w0 : World} {S : Nat → Prop} {v0_ : Value} {a' : Item} {r : Item} (h0 : VR w0 S v0_ a') (hF : laws_toItem fu a' = some r) :
    Calls Try.prog 113 [v0_].toArray w0 fun e w' => ∃ v, e = .returned v ∧ (Below w0.heap.size w0 w' ∧ VR w' (St ⟨w0, []⟩ S [] [] [] true) v r) := by
  obtain rfl := Item_open h0
  have H := Mem.start ⟨w0, []⟩ S
  refine enter Try.func113 rfl rfl (nle rfl) rfl fun a hf => ?_
  rw [laws_toItem] at hF
  refine sq ?_
  refine reg ?_
  refine wl0 rfl (op_box hf H rfl rfl (by decide) fun b' a w hf H => ?_)
  refine wl0 rfl (op_alloc hf H TF.zv119 rfl (by decide) fun b2 a w hf H => ?_)
  refine wl_end ?_
  refine then_n ?_
  refine sq ?_
  refine reg ?_
  refine wl0 rfl (op_alloc hf H TF.zv119 rfl (by decide) fun b3 a w hf H => ?_)
  refine wl_end ?_
  refine then_n ?_
  refine sq ?_
  refine reg ?_
  refine pRun_ok (tb := tab) (n := 14) tabOk 1 _ _ hf rfl rfl fun a hf => ?_
  refine wl0 rfl (op_q hf (rq_loadB hf H TF.ls3 2 rfl rfl rfl) rfl (by decide) fun a hf => ?_)
  refine pRun_ok (tb := tab) (n := 14) tabOk 1 _ _ hf rfl rfl fun a hf => ?_
  refine wl0 rfl (op_storeB hf H 0 TF.sz3 rfl rfl rfl rfl rfl rfl (nle rfl) fun w H => ?_)
  refine wl_end ?_
  refine then_n ?_
  refine sq ?_
  refine reg ?_
  refine pRun_ok (tb := tab) (n := 14) tabOk 1 _ _ hf rfl rfl fun a hf => ?_
  refine wl0 rfl (op_q hf (rq_loadB hf H TF.ls3 2 rfl rfl rfl) rfl (by decide) fun a hf => ?_)
  refine pRun_ok (tb := tab) (n := 14) tabOk 1 _ _ hf rfl rfl fun a hf => ?_
  refine wl0 rfl (op_storeB hf H 0 TF.sz3 rfl rfl rfl rfl rfl rfl (nle rfl) fun w H => ?_)
  refine wl_end ?_
  refine then_n ?_
  refine sq ?_
  refine reg ?_
  refine pRun_ok (tb := tab) (n := 14) tabOk 1 _ _ hf rfl rfl fun a hf => ?_
  refine wl0 rfl (op_q hf (rq_loadB hf H TF.ls3 2 rfl rfl rfl) rfl (by decide) fun a hf => ?_)
  refine pRun_ok (tb := tab) (n := 14) tabOk 1 _ _ hf rfl rfl fun a hf => ?_
  refine wl0 rfl (op_storeB hf H 0 TF.sz3 rfl rfl rfl rfl rfl rfl (nle rfl) fun w H => ?_)
  refine wl_end ?_
  refine then_n ?_
  refine sq ?_
  refine reg ?_
  refine wl0 rfl (op_q hf (rq_loadBN hf H TF.la119 0 rfl rfl rfl rfl) rfl (by decide) fun a hf => ?_)
  refine wl0 rfl (op_storeB hf H 1 TF.sz119 rfl rfl rfl rfl rfl rfl (nle rfl) fun w H => ?_)
  have hf := hf.prune [2] rfl
  refine wl_end ?_
  refine then_n ?_
  refine wp_ret (?_)
  obtain rfl := Option.some.inj hF
  refine ret_1 (fn := Try.f113) (r := .cell 2 119) hf rfl (rv_cellN hf H 1 TF.la119 rfl rfl rfl) ?_
  exact ⟨_, rfl, H.bel, Item_mkv⟩

/- loop.example/g00897/laws.toItemS -/
set_option maxHeartbeats 1000000 in
theorem laws_toItemS_ok {fu : Nat} {w0 : World} {S : Nat → Prop} {v0_ : Value} {a' : List Item} {r : List Item} (h0 : VR w0 S v0_ a') (hF : laws_toItemS fu a' = some r) :
    Calls Try.prog 48 [v0_].toArray w0 fun e w' => ∃ v, e = .returned v ∧ (Below w0.heap.size w0 w' ∧ ∃ F0, VO w' F0 v r ∧ New w0 w' F0) := by
  obtain ⟨A, c, rfl, hl⟩ := VR_list h0
  have H := Mem.start ⟨w0, []⟩ S
  have H := H.pushArg (MP.val [(.slice A a'.length c)] a') hl
  refine enter Try.func48 rfl rfl (nle rfl) rfl fun a hf => ?_
  rw [laws_toItemS] at hF
  refine sq ?_
  refine reg ?_
  refine pRun_ok (tb := tab) (n := 23) tabOk 1 _ _ hf rfl rfl fun a hf => ?_
  refine wl_end ?_
  refine then_n ?_
  refine sq ?_
  refine reg ?_
  refine pRun_ok (tb := tab) (n := 23) tabOk 2 _ _ hf rfl rfl fun a hf => ?_
  obtain ⟨l, hl, hF⟩ := bind_some hF
  refine wl0 rfl (op_make (z0 := (({ Kind := 0, Node := 0, Count := 0 } : Item) : Item)) hf H Try.underlying53 TF.ai119 rfl (by decide) rfl rfl (Item_mk (x := ({ Kind := 0, Node := 0, Count := 0 } : Item))) hl (by decide) fun A2 c2 a w hf H => ?_)
  refine pRun_ok (tb := tab) (n := 23) tabOk 1 _ _ hf rfl rfl fun a hf => ?_
  refine wl_end ?_
  refine then_n ?_
  refine sq ?_
  refine sq ?_
  refine reg ?_
  refine pRun_ok (tb := tab) (n := 23) tabOk 1 _ _ hf rfl rfl fun a hf => ?_
  refine wl_end ?_
  refine then_n ?_
  obtain ⟨out2, hB1, hF⟩ := bind_some hF
  have hf := hf.prune [0, 3, 4] rfl
  have H := H.let [] [true] [] [0]
  have hI : (fun (s : List Item × Int) (a : Act) (w : World) => match s with | (out', i) => ∃ (A3 : Option Addr) (c3 : Nat), Fr a 23 [(0, (.slice A a'.length c)), (3, (.slice A3 out'.length c3)), (4, (.int .i64 i))] ∧ Mem ⟨w0, []⟩ S [] [⟨.sh true, 119, A3, c3, (out' : List Item)⟩] [] [(false, MP.val [(.slice A a'.length c)] (a' : List Item))] w) (l, 0) a w := ⟨A2, c2, hf, H⟩
  refine mid (fun a w => ∃ s : List Item × Int, out2 = s ∧ (fun (s : List Item × Int) (a : Act) (w : World) => match s with | (out', i) => ∃ (A3 : Option Addr) (c3 : Nat), Fr a 23 [(0, (.slice A a'.length c)), (3, (.slice A3 out'.length c3)), (4, (.int .i64 i))] ∧ Mem ⟨w0, []⟩ S [] [⟨.sh true, 119, A3, c3, (out' : List Item)⟩] [] [(false, MP.val [(.slice A a'.length c)] (a' : List Item))] w) s a w) ?_ ?_
  · refine wp_block ?_
    refine loop_rule (fun k (s : List Item × Int) => laws_toItemS_L1 fu a' k s.1 s.2 = some out2) (fun (s : List Item × Int) (a : Act) (w : World) => match s with | (out', i) => ∃ (A3 : Option Addr) (c3 : Nat), Fr a 23 [(0, (.slice A a'.length c)), (3, (.slice A3 out'.length c3)), (4, (.int .i64 i))] ∧ Mem ⟨w0, []⟩ S [] [⟨.sh true, 119, A3, c3, (out' : List Item)⟩] [] [(false, MP.val [(.slice A a'.length c)] (a' : List Item))] w) (fun s h => by cases h) ?_ fu (l, 0) a w hB1 hI
    rintro fk ⟨out', i⟩ a w hR1 hI
    replace hR1 : laws_toItemS_L1 fu a' (fk + 1) out' i = some out2 := hR1
    rw [laws_toItemS_L1] at hR1
    obtain ⟨A3, c3, hf, H⟩ := hI
    refine sq ?_
    refine sq ?_
    refine reg ?_
    refine pRun_ok (tb := tab) (n := 23) tabOk 4 _ _ hf rfl rfl fun a hf => ?_
    refine wl_end ?_
    refine then_n ?_
    refine (Bool.eq_false_or_eq_true (decide (i < (a'.length : Int)))).elim (fun hc => ?_) (fun hc => ?_)
    · rw [if_pos hc] at hR1
      refine cd_t hf rfl hc ?_
      refine wp_skip ?_
      refine then_n ?_
      refine sq ?_
      refine wp_block ?_
      refine reg ?_
      refine pRun_ok (tb := tab) (n := 23) tabOk 4 _ _ hf rfl rfl fun a hf => ?_
      obtain ⟨e, he, hR1⟩ := bind_some hR1
      refine wl0 rfl (op_iaddr hf H Try.underlying50 TF.sz121 0 rfl rfl rfl he (by decide) fun p o cs a hf hr H => ?_)
      obtain rfl := Item_cells hr
      refine wl0 rfl (op_q hf (rq_loadIN hf H TF.la121 0 0 rfl rfl rfl rfl) rfl (by decide) fun a hf => ?_)
      obtain ⟨y, hy, hR1⟩ := bind_some hR1
      refine wl0 rfl (op_call hf TF.cl113 rfl (by decide) (laws_toItem_ok (S := fun _ => True) Item_mkv hy) fun v w a hp hf => ?_)
      obtain ⟨hb, hp⟩ := hp
      obtain rfl := Item_open hp
      have H := H.keep hb
      obtain ⟨e2, he2, hR1⟩ := bind_some hR1
      refine wl0 rfl (op_iaddrR hf H Try.underlying53 TF.sz119 0 rfl rfl rfl he2 (by decide) fun p2 o2 cs2 a hf hA hr2 hk => ?_)
      obtain rfl := Item_cells hr2
      refine wl0 rfl (op_storeR (e' := y) hf H TF.sz119 0 rfl rfl rfl rfl rfl (nle rfl) rfl hA he2 (st_full (Item_mk (x := y))) fun w H => ?_)
      replace hf : Fr a 23 [(0, (.slice A a'.length c)), (3, (.slice A3 out'.length c3)), (4, (.int .i64 i)), (8, (.int .i64 i)), (9, (.slice A a'.length c)), (10, (.int .i64 (a'.length : Int))), (11, (.bool (decide (i < (a'.length : Int))))), (14, (.slice A3 out'.length c3)), (15, (.int .i64 i)), (16, (.slice A a'.length c)), (17, (.int .i64 i)), (18, (.pointer (some ⟨p, o + 0, none⟩))), (19, (.agg #[(.int .i64 e.Kind), (.int .i64 e.Node), (.int .i64 e.Count)])), (20, (.agg #[(.int .i64 y.Kind), (.int .i64 y.Node), (.int .i64 y.Count)])), (21, (.pointer (some ⟨p2, o2 + 0, none⟩)))] := hf.prune [0, 3, 4, 8, 9, 10, 11, 14, 15, 16, 17, 18, 19, 20, 21] rfl
      replace hf : Fr a 23 [(0, (.slice A a'.length c)), (3, (.slice A3 (out'.set (i).toNat y).length c3)), (4, (.int .i64 i)), (8, (.int .i64 i)), (9, (.slice A a'.length c)), (10, (.int .i64 (a'.length : Int))), (11, (.bool (decide (i < (a'.length : Int))))), (14, (.slice A3 (out'.set (i).toNat y).length c3)), (15, (.int .i64 i)), (16, (.slice A a'.length c)), (17, (.int .i64 i)), (18, (.pointer (some ⟨p, o + 0, none⟩))), (19, (.agg #[(.int .i64 e.Kind), (.int .i64 e.Node), (.int .i64 e.Count)])), (20, (.agg #[(.int .i64 y.Kind), (.int .i64 y.Node), (.int .i64 y.Count)])), (21, (.pointer (some ⟨p2, o2 + 0, none⟩)))] := by simpa only [List.length_set, Nat.add_zero] using hf
      refine wl_end ?_
      refine blk_n ?_
      refine then_n ?_
      refine reg ?_
      refine pRun_ok (tb := tab) (n := 23) tabOk 3 _ _ hf rfl rfl fun a hf => ?_
      have hf := hf.prune [0, 3, 4] rfl
      refine wl_end ?_
      have hf := hf.prune [0, 3, 4] rfl
      have H := H.let [] [true] [] [1]
      exact then_n ⟨(out'.set (i).toNat y, w64 (i + 1)), hR1, A3, c3, hf, H⟩
    · rw [if_neg (nt hc)] at hR1
      refine cd_f hf rfl hc ?_
      refine wp_exit (then_x (then_x (blk_e (?_))))
      have hf := hf.prune [0, 3, 4] rfl
      have H := H.let [] [true] [] [0]
      exact ⟨(out', i), (Option.some.inj hR1).symm, A3, c3, hf, H⟩
  rintro a w ⟨⟨out3, i2⟩, rfl, A4, c4, hf, H⟩
  dsimp only at hF
  refine then_n ?_
  refine sq ?_
  refine reg ?_
  refine pRun_ok (tb := tab) (n := 23) tabOk 2 _ _ hf rfl rfl fun a hf => ?_
  refine wl_end ?_
  refine then_n ?_
  refine wp_ret (?_)
  have H := H.rowOwn 0 rfl rfl
  obtain ⟨F, H⟩ := H.freezeOwn 0 rfl
  have H := H.lend 0 rfl
  obtain rfl := Option.some.inj hF
  refine ret_1 (fn := Try.f48) (r := .tmp 2) hf rfl (rv_tmp hf rfl) ?_
  have hN := H.ends (X := [(⟨F, MP.own F [(.slice A4 out3.length c4)] (out3 : List Item)⟩ : DI)])
  simp only [List.flatMap_cons, List.flatMap_nil, List.append_nil, List.append_assoc] at hN
  exact ⟨_, rfl, H.bel, F, (mko_list (H.ownAt 0 rfl)), hN⟩

/- loop.example/g00897/spec.l1In -/
set_option maxHeartbeats 1000000 in
theorem spec_l1In_ok {fu : Nat} {w0 : World} {S : Nat → Prop} {v0_ : Value} {v1_ : Value} {v2_ : Value} {x1 : Int} {a' : Int} {b' : Int} {r : Bool} (h0 : VR w0 S v0_ x1) (h1 : VR w0 S v1_ a') (h2 : VR w0 S v2_ b') (hF : spec_l1In fu x1 a' b' = some r) :
    Calls Try.prog 97 [v0_, v1_, v2_].toArray w0 fun e w' => ∃ v, e = .returned v ∧ (Below w0.heap.size w0 w' ∧ VR w' (St ⟨w0, []⟩ S [] [] [] true) v r) := by
  obtain rfl := VR_int h0
  obtain rfl := VR_int h1
  obtain rfl := VR_int h2
  have H := Mem.start ⟨w0, []⟩ S
  refine enter Try.func97 rfl rfl (nle rfl) rfl fun a hf => ?_
  rw [spec_l1In] at hF
  refine sq ?_
  refine reg ?_
  refine pRun_ok (tb := tab) (n := 15) tabOk 1 _ _ hf rfl rfl fun a hf => ?_
  refine wl_end ?_
  refine then_n ?_
  refine sq ?_
  obtain ⟨c, hGc, hF⟩ := bind_some hF
  refine mid (fun a w => Fr a 15 [(6, (.bool c))] ∧ Mem ⟨w0, []⟩ S [] [] [] [] w) ?_ ?_
  · refine reg ?_
    refine pRun_ok (tb := tab) (n := 15) tabOk 4 _ _ hf rfl rfl fun a hf => ?_
    refine (Bool.eq_false_or_eq_true (decide (x1 ≥ a'))).elim (fun hc => ?_) (fun hc => ?_)
    · rw [if_pos hc] at hGc
      have hf := hf.lit 10 rfl hc
      refine pRun_ok (tb := tab) (n := 15) tabOk 5 _ _ hf rfl rfl fun a hf => ?_
      obtain rfl := Option.some.inj hGc
      have hf := hf.prune [6] rfl
      have H := H.let [] [] [] []
      exact wl_end ⟨hf, H⟩
    · rw [if_neg (nt hc)] at hGc
      have hf := hf.lit 10 rfl hc
      refine pRun_ok (tb := tab) (n := 15) tabOk 5 _ _ hf rfl rfl fun a hf => ?_
      obtain rfl := Option.some.inj hGc
      have hf := hf.prune [6] rfl
      have H := H.let [] [] [] []
      exact wl_end ⟨hf, H⟩
  rintro a w ⟨hf, H⟩
  refine then_n ?_
  refine wp_ret (?_)
  obtain rfl := Option.some.inj hF
  refine ret_1 (fn := Try.f97) (r := .tmp 6) hf rfl (rv_tmp hf rfl) ?_
  exact ⟨_, rfl, H.bel, mk_bool⟩

/- loop.example/g00897/spec.l19Before -/
set_option maxHeartbeats 1000000 in
theorem spec_l19Before_ok {fu : Nat} {w0 : World} {S : Nat → Prop} {v0_ : Value} {v1_ : Value} {a' : Item} {b' : Item} {r : Bool} (h0 : VR w0 S v0_ a') (h1 : VR w0 S v1_ b') (hF : spec_l19Before fu a' b' = some r) :
    Calls Try.prog 154 [v0_, v1_].toArray w0 fun e w' => ∃ v, e = .returned v ∧ (Below w0.heap.size w0 w' ∧ VR w' (St ⟨w0, []⟩ S [] [] [] true) v r) := by
  obtain rfl := Item_open h0
  obtain rfl := Item_open h1
  have H := Mem.start ⟨w0, []⟩ S
  refine enter Try.func154 rfl rfl (nle rfl) rfl fun a hf => ?_
  rw [spec_l19Before] at hF
  refine sq ?_
  refine reg ?_
  refine wl0 rfl (op_box hf H rfl rfl (by decide) fun b2 a w hf H => ?_)
  refine wl0 rfl (op_box hf H rfl rfl (by decide) fun b3 a w hf H => ?_)
  refine pRun_ok (tb := tab) (n := 24) tabOk 1 _ _ hf rfl rfl fun a hf => ?_
  refine wl_end ?_
  refine then_n ?_
  refine sq ?_
  obtain ⟨c, hGc, hF⟩ := bind_some hF
  refine mid (fun a w => Fr a 24 [(4, (.bool c))] ∧ Mem ⟨w0, []⟩ S [] [] [] [] w) ?_ ?_
  · refine reg ?_
    refine pRun_ok (tb := tab) (n := 24) tabOk 1 _ _ hf rfl rfl fun a hf => ?_
    refine wl0 rfl (op_q hf (rq_loadB hf H TF.ls3 1 rfl rfl rfl) rfl (by decide) fun a hf => ?_)
    refine pRun_ok (tb := tab) (n := 24) tabOk 1 _ _ hf rfl rfl fun a hf => ?_
    refine wl0 rfl (op_q hf (rq_loadB hf H TF.ls3 0 rfl rfl rfl) rfl (by decide) fun a hf => ?_)
    refine pRun_ok (tb := tab) (n := 24) tabOk 2 _ _ hf rfl rfl fun a hf => ?_
    refine (Bool.eq_false_or_eq_true (decide (a'.Kind < b'.Kind))).elim (fun hc => ?_) (fun hc => ?_)
    · rw [if_pos hc] at hGc
      have hf := hf.lit 10 rfl hc
      refine pRun_ok (tb := tab) (n := 24) tabOk 6 _ _ hf rfl rfl fun a hf => ?_
      refine wlsu hf rfl rfl rfl rfl (by decide) fun a hf => ?_
      refine wlsu hf rfl rfl rfl rfl (by decide) fun a hf => ?_
      refine wlsu hf rfl rfl rfl rfl (by decide) fun a hf => ?_
      refine wlsu hf rfl rfl rfl rfl (by decide) fun a hf => ?_
      refine wlsu hf rfl rfl rfl rfl (by decide) fun a hf => ?_
      refine pRun_ok (tb := tab) (n := 24) tabOk 3 _ _ hf rfl rfl fun a hf => ?_
      obtain rfl := Option.some.inj hGc
      have hf := hf.prune [4] rfl
      have H := H.let [false, false] [] [] []
      exact wl_end ⟨hf, H⟩
    · rw [if_neg (nt hc)] at hGc
      have hf := hf.lit 10 rfl hc
      refine pRun_ok (tb := tab) (n := 24) tabOk 1 _ _ hf rfl rfl fun a hf => ?_
      refine wlg hf rfl rfl rfl (op_q hf (rq_loadB hf H TF.ls3 1 rfl rfl rfl) rfl (by decide) fun a hf => ?_)
      refine pRun_ok (tb := tab) (n := 24) tabOk 1 _ _ hf rfl rfl fun a hf => ?_
      refine wlg hf rfl rfl rfl (op_q hf (rq_loadB hf H TF.ls3 0 rfl rfl rfl) rfl (by decide) fun a hf => ?_)
      refine pRun_ok (tb := tab) (n := 24) tabOk 2 _ _ hf rfl rfl fun a hf => ?_
      refine (Bool.eq_false_or_eq_true (a'.Kind == b'.Kind)).elim (fun hc2 => ?_) (fun hc2 => ?_)
      · rw [if_pos hc2] at hGc
        have hf := hf.lit 16 rfl hc2
        refine pRun_ok (tb := tab) (n := 24) tabOk 1 _ _ hf rfl rfl fun a hf => ?_
        refine wlg hf rfl rfl rfl (op_q hf (rq_loadB hf H TF.ls3 1 rfl rfl rfl) rfl (by decide) fun a hf => ?_)
        refine pRun_ok (tb := tab) (n := 24) tabOk 1 _ _ hf rfl rfl fun a hf => ?_
        refine wlg hf rfl rfl rfl (op_q hf (rq_loadB hf H TF.ls3 0 rfl rfl rfl) rfl (by decide) fun a hf => ?_)
        refine pRun_ok (tb := tab) (n := 24) tabOk 4 _ _ hf rfl rfl fun a hf => ?_
        obtain rfl := Option.some.inj hGc
        have hf := hf.prune [4] rfl
        have H := H.let [false, false] [] [] []
        exact wl_end ⟨hf, H⟩
      · rw [if_neg (nt hc2)] at hGc
        have hf := hf.lit 16 rfl hc2
        refine pRun_ok (tb := tab) (n := 24) tabOk 8 _ _ hf rfl rfl fun a hf => ?_
        obtain rfl := Option.some.inj hGc
        have hf := hf.prune [4] rfl
        have H := H.let [false, false] [] [] []
        exact wl_end ⟨hf, H⟩
  rintro a w ⟨hf, H⟩
  refine then_n ?_
  refine wp_ret (?_)
  obtain rfl := Option.some.inj hF
  refine ret_1 (fn := Try.f154) (r := .tmp 4) hf rfl (rv_tmp hf rfl) ?_
  exact ⟨_, rfl, H.bel, mk_bool⟩

/- loop.example/g00897/spec.l19Bill -/
set_option maxHeartbeats 1000000 in
theorem spec_l19Bill_ok {fu : Nat} {w0 : World} {S : Nat → Prop} {v0_ : Value} {bill : List Item} {r : Bool} (h0 : VR w0 S v0_ bill) (hF : spec_l19Bill fu bill = some r) :
    Calls Try.prog 112 [v0_].toArray w0 fun e w' => ∃ v, e = .returned v ∧ (Below w0.heap.size w0 w' ∧ VR w' (St ⟨w0, []⟩ S [] [] [] true) v r) := by
  obtain ⟨A, c, rfl, hl⟩ := VR_list h0
  have H := Mem.start ⟨w0, []⟩ S
  have H := H.pushArg (MP.val [(.slice A bill.length c)] bill) hl
  refine enter Try.func112 rfl rfl (nle rfl) rfl fun a hf => ?_
  rw [spec_l19Bill] at hF
  refine sq ?_
  refine reg ?_
  refine pRun_ok (tb := tab) (n := 48) tabOk 1 _ _ hf rfl rfl fun a hf => ?_
  refine wl_end ?_
  refine then_n ?_
  refine sq ?_
  refine sq ?_
  refine reg ?_
  refine pRun_ok (tb := tab) (n := 48) tabOk 1 _ _ hf rfl rfl fun a hf => ?_
  refine wl_end ?_
  refine then_n ?_
  obtain ⟨out', hB1, hF⟩ := bind_some hF
  have hf := hf.prune [0, 3] rfl
  have H := H.let [] [] [] [0]
  have hI : (fun (s : Int) (a : Act) (w : World) => match s with | i => Fr a 48 [(0, (.slice A bill.length c)), (3, (.int .i64 i))] ∧ Mem ⟨w0, []⟩ S [] [] [] [(false, MP.val [(.slice A bill.length c)] (bill : List Item))] w) 0 a w0 := ⟨hf, H⟩
  refine mid (fun a w => ∃ s : Int, out' = Out.next s ∧ (fun (s : Int) (a : Act) (w : World) => match s with | i => Fr a 48 [(0, (.slice A bill.length c)), (3, (.int .i64 i))] ∧ Mem ⟨w0, []⟩ S [] [] [] [(false, MP.val [(.slice A bill.length c)] (bill : List Item))] w) s a w) ?_ ?_
  · refine wp_block ?_
    refine loop_rule (fun k (s : Int) => spec_l19Bill_L1 fu bill k s = some out') (fun (s : Int) (a : Act) (w : World) => match s with | i => Fr a 48 [(0, (.slice A bill.length c)), (3, (.int .i64 i))] ∧ Mem ⟨w0, []⟩ S [] [] [] [(false, MP.val [(.slice A bill.length c)] (bill : List Item))] w) (fun s h => by cases h) ?_ fu 0 a w0 hB1 hI
    rintro fk i a w hR1 hI
    replace hR1 : spec_l19Bill_L1 fu bill (fk + 1) i = some out' := hR1
    rw [spec_l19Bill_L1] at hR1
    obtain ⟨hf, H⟩ := hI
    refine sq ?_
    refine sq ?_
    refine reg ?_
    refine pRun_ok (tb := tab) (n := 48) tabOk 4 _ _ hf rfl rfl fun a hf => ?_
    refine wl_end ?_
    refine then_n ?_
    refine (Bool.eq_false_or_eq_true (decide (i < (bill.length : Int)))).elim (fun hc => ?_) (fun hc => ?_)
    · rw [if_pos hc] at hR1
      refine cd_t hf rfl hc ?_
      refine wp_skip ?_
      refine then_n ?_
      refine sq ?_
      refine wp_block ?_
      refine sq ?_
      refine reg ?_
      refine pRun_ok (tb := tab) (n := 48) tabOk 2 _ _ hf rfl rfl fun a hf => ?_
      obtain ⟨e, he, hR1⟩ := bind_some hR1
      refine wl0 rfl (op_iaddr hf H Try.underlying53 TF.sz119 0 rfl rfl rfl he (by decide) fun p o cs a hf hr H => ?_)
      obtain rfl := Item_cells hr
      refine wl0 rfl (op_q hf (rq_loadIN hf H TF.la119 0 0 rfl rfl rfl rfl) rfl (by decide) fun a hf => ?_)
      refine wl0 rfl (op_alloc hf H TF.zv119 rfl (by decide) fun b' a w hf H => ?_)
      refine wl0 rfl (op_storeB hf H 0 TF.sz119 rfl rfl rfl rfl rfl rfl (nle rfl) fun w H => ?_)
      refine wl_end ?_
      refine then_n ?_
      refine sq ?_
      refine drawn [] (bs := [false, false, false, false, false, false, false, false, false, false, false, false, false, false, false, false, false, false, false, false, false, false, false, false, false, false, false, false, false, false]) (fuel := 30) (Checked.mixed Try.checked) rfl rfl fun w hb => ?_
      have H := H.keep hb
      refine tkP (i := 0) (bs' := [true, false, false, false, false, false, false, false, false, false, false, false, false, false, false, false, false, false, false, false, false, false, false, false, false, false, false, false, false, false]) rfl rfl rfl (by decide) hf (by kernel_rfl) (fun _ => trivial) (fun w => pOp_ok (tb := tab) tabOk hf rfl) rfl fun a hf => ?_
      refine str (fun w => Mem ⟨w0, []⟩ S [⟨b', 119, [(.int .i64 e.Kind), (.int .i64 e.Node), (.int .i64 e.Count)]⟩] [] [] [(false, MP.cells ⟨p, o, none⟩ [(.int .i64 e.Kind), (.int .i64 e.Node), (.int .i64 e.Count)]), (false, MP.val [(.slice A bill.length c)] (bill : List Item))] w) (fun w H => trivial) ?_
      have hS : Mem ⟨w0, []⟩ S [⟨b', 119, [(.int .i64 e.Kind), (.int .i64 e.Node), (.int .i64 e.Count)]⟩] [] [] [(false, MP.cells ⟨p, o, none⟩ [(.int .i64 e.Kind), (.int .i64 e.Node), (.int .i64 e.Count)]), (false, MP.val [(.slice A bill.length c)] (bill : List Item))] w := H.let [true] [] [] [0, 1]
      refine tkS (i := 1) (bs' := [true, true, false, false, false, false, false, false, false, false, false, false, false, false, false, false, false, false, false, false, false, false, false, false, false, false, false, false, false, false]) [] rfl rfl rfl (by decide) hf (by kernel_rfl) (by kernel_rfl) hS (fun w H => rq_loadB hf H TF.ls3 0 rfl rfl rfl) rfl fun a hf => ?_
      obtain ⟨y, hy, hR1⟩ := bind_some hR1
      refine on1 (i := 2) (bs' := [true, true, true, false, false, false, false, false, false, false, false, false, false, false, false, false, false, false, false, false, false, false, false, false, false, false, false, false, false, false]) (by kernel_rfl) rfl rfl rfl (op_call hf TF.cl97 rfl (by decide) (spec_l1In_ok (S := fun _ => True) mk_int mk_int mk_int hy) fun v w a hp hf => ?_)
      obtain ⟨hb, hp⟩ := hp
      obtain rfl := VR_bool hp
      have H := H.keep hb
      have hS : Mem ⟨w0, []⟩ S [⟨b', 119, [(.int .i64 e.Kind), (.int .i64 e.Node), (.int .i64 e.Count)]⟩] [] [] [(false, MP.cells ⟨p, o, none⟩ [(.int .i64 e.Kind), (.int .i64 e.Node), (.int .i64 e.Count)]), (false, MP.val [(.slice A bill.length c)] (bill : List Item))] w := H.let [true] [] [] [0, 1]
      refine ⟨fun _ => hS, ?_⟩
      refine tkP (i := 3) (bs' := [true, true, true, true, false, false, false, false, false, false, false, false, false, false, false, false, false, false, false, false, false, false, false, false, false, false, false, false, false, false]) rfl rfl rfl (by decide) hf (by kernel_rfl) (fun _ => hS) (fun w => pOp_ok (tb := tab) tabOk hf rfl) rfl fun a hf => ?_
      refine tkP (i := 4) (bs' := [true, true, true, true, true, false, false, false, false, false, false, false, false, false, false, false, false, false, false, false, false, false, false, false, false, false, false, false, false, false]) rfl rfl rfl (by decide) hf (by kernel_rfl) (fun _ => hS) (fun w => pOp_ok (tb := tab) tabOk hf rfl) rfl fun a hf => ?_
      refine (Bool.eq_false_or_eq_true (!y)).elim (fun hc2 => ?_) (fun hc2 => ?_)
      · rw [if_pos hc2] at hR1
        have hf := hf.lit 19 rfl hc2
        refine tkU (i := 5) (bs' := [true, true, true, true, true, true, false, false, false, false, false, false, false, false, false, false, false, false, false, false, false, false, false, false, false, false, false, false, false, false]) rfl rfl rfl rfl rfl rfl (by decide) hf (by kernel_rfl) (fun _ => hS) rfl fun a hf => ?_
        refine tkU (i := 6) (bs' := [true, true, true, true, true, true, true, false, false, false, false, false, false, false, false, false, false, false, false, false, false, false, false, false, false, false, false, false, false, false]) rfl rfl rfl rfl rfl rfl (by decide) hf (by kernel_rfl) (fun _ => hS) rfl fun a hf => ?_
        refine tkU (i := 7) (bs' := [true, true, true, true, true, true, true, true, false, false, false, false, false, false, false, false, false, false, false, false, false, false, false, false, false, false, false, false, false, false]) rfl rfl rfl rfl rfl rfl (by decide) hf (by kernel_rfl) (fun _ => hS) rfl fun a hf => ?_
        refine tkU (i := 8) (bs' := [true, true, true, true, true, true, true, true, true, false, false, false, false, false, false, false, false, false, false, false, false, false, false, false, false, false, false, false, false, false]) rfl rfl rfl rfl rfl rfl (by decide) hf (by kernel_rfl) (fun _ => hS) rfl fun a hf => ?_
        refine tkP (i := 9) (bs' := [true, true, true, true, true, true, true, true, true, true, false, false, false, false, false, false, false, false, false, false, false, false, false, false, false, false, false, false, false, false]) rfl rfl rfl (by decide) hf (by kernel_rfl) (fun _ => hS) (fun w => pOp_ok (tb := tab) tabOk hf rfl) rfl fun a hf => ?_
        refine tkP (i := 10) (bs' := [true, true, true, true, true, true, true, true, true, true, true, false, false, false, false, false, false, false, false, false, false, false, false, false, false, false, false, false, false, false]) rfl rfl rfl (by decide) hf (by kernel_rfl) (fun _ => hS) (fun w => pOp_ok (tb := tab) tabOk hf rfl) rfl fun a hf => ?_
        refine tkU (i := 11) (bs' := [true, true, true, true, true, true, true, true, true, true, true, true, false, false, false, false, false, false, false, false, false, false, false, false, false, false, false, false, false, false]) rfl rfl rfl rfl rfl rfl (by decide) hf (by kernel_rfl) (fun _ => hS) rfl fun a hf => ?_
        refine tkU (i := 12) (bs' := [true, true, true, true, true, true, true, true, true, true, true, true, true, false, false, false, false, false, false, false, false, false, false, false, false, false, false, false, false, false]) rfl rfl rfl rfl rfl rfl (by decide) hf (by kernel_rfl) (fun _ => hS) rfl fun a hf => ?_
        refine tkU (i := 13) (bs' := [true, true, true, true, true, true, true, true, true, true, true, true, true, true, false, false, false, false, false, false, false, false, false, false, false, false, false, false, false, false]) rfl rfl rfl rfl rfl rfl (by decide) hf (by kernel_rfl) (fun _ => hS) rfl fun a hf => ?_
        refine tkU (i := 14) (bs' := [true, true, true, true, true, true, true, true, true, true, true, true, true, true, true, false, false, false, false, false, false, false, false, false, false, false, false, false, false, false]) rfl rfl rfl rfl rfl rfl (by decide) hf (by kernel_rfl) (fun _ => hS) rfl fun a hf => ?_
        refine tkP (i := 15) (bs' := [true, true, true, true, true, true, true, true, true, true, true, true, true, true, true, true, false, false, false, false, false, false, false, false, false, false, false, false, false, false]) rfl rfl rfl (by decide) hf (by kernel_rfl) (fun _ => hS) (fun w => pOp_ok (tb := tab) tabOk hf rfl) rfl fun a hf => ?_
        refine tkP (i := 16) (bs' := [true, true, true, true, true, true, true, true, true, true, true, true, true, true, true, true, true, false, false, false, false, false, false, false, false, false, false, false, false, false]) rfl rfl rfl (by decide) hf (by kernel_rfl) (fun _ => hS) (fun w => pOp_ok (tb := tab) tabOk hf rfl) rfl fun a hf => ?_
        refine tkU (i := 17) (bs' := [true, true, true, true, true, true, true, true, true, true, true, true, true, true, true, true, true, true, false, false, false, false, false, false, false, false, false, false, false, false]) rfl rfl rfl rfl rfl rfl (by decide) hf (by kernel_rfl) (fun _ => hS) rfl fun a hf => ?_
        refine tkU (i := 18) (bs' := [true, true, true, true, true, true, true, true, true, true, true, true, true, true, true, true, true, true, true, false, false, false, false, false, false, false, false, false, false, false]) rfl rfl rfl rfl rfl rfl (by decide) hf (by kernel_rfl) (fun _ => hS) rfl fun a hf => ?_
        refine tkU (i := 19) (bs' := [true, true, true, true, true, true, true, true, true, true, true, true, true, true, true, true, true, true, true, true, false, false, false, false, false, false, false, false, false, false]) rfl rfl rfl rfl rfl rfl (by decide) hf (by kernel_rfl) (fun _ => hS) rfl fun a hf => ?_
        refine tkUU (i := 20) (bs' := [true, true, true, true, true, true, true, true, true, true, true, true, true, true, true, true, true, true, true, true, true, false, false, false, false, false, false, false, false, false]) rfl rfl rfl rfl rfl (by decide) hf (by kernel_rfl) (fun _ => hS) rfl fun a hf => ?_
        refine tkUU (i := 21) (bs' := [true, true, true, true, true, true, true, true, true, true, true, true, true, true, true, true, true, true, true, true, true, true, false, false, false, false, false, false, false, false]) rfl rfl rfl rfl rfl (by decide) hf (by kernel_rfl) (fun _ => hS) rfl fun a hf => ?_
        refine tkUU (i := 22) (bs' := [true, true, true, true, true, true, true, true, true, true, true, true, true, true, true, true, true, true, true, true, true, true, true, false, false, false, false, false, false, false]) rfl rfl rfl rfl rfl (by decide) hf (by kernel_rfl) (fun _ => hS) rfl fun a hf => ?_
        refine tkUU (i := 23) (bs' := [true, true, true, true, true, true, true, true, true, true, true, true, true, true, true, true, true, true, true, true, true, true, true, true, false, false, false, false, false, false]) rfl rfl rfl rfl rfl (by decide) hf (by kernel_rfl) (fun _ => hS) rfl fun a hf => ?_
        refine tkUU (i := 24) (bs' := [true, true, true, true, true, true, true, true, true, true, true, true, true, true, true, true, true, true, true, true, true, true, true, true, true, false, false, false, false, false]) rfl rfl rfl rfl rfl (by decide) hf (by kernel_rfl) (fun _ => hS) rfl fun a hf => ?_
        refine tkUU (i := 25) (bs' := [true, true, true, true, true, true, true, true, true, true, true, true, true, true, true, true, true, true, true, true, true, true, true, true, true, true, false, false, false, false]) rfl rfl rfl rfl rfl (by decide) hf (by kernel_rfl) (fun _ => hS) rfl fun a hf => ?_
        refine tkUU (i := 26) (bs' := [true, true, true, true, true, true, true, true, true, true, true, true, true, true, true, true, true, true, true, true, true, true, true, true, true, true, true, false, false, false]) rfl rfl rfl rfl rfl (by decide) hf (by kernel_rfl) (fun _ => hS) rfl fun a hf => ?_
        refine tkUU (i := 27) (bs' := [true, true, true, true, true, true, true, true, true, true, true, true, true, true, true, true, true, true, true, true, true, true, true, true, true, true, true, true, false, false]) rfl rfl rfl rfl rfl (by decide) hf (by kernel_rfl) (fun _ => hS) rfl fun a hf => ?_
        refine tkU (i := 28) (bs' := [true, true, true, true, true, true, true, true, true, true, true, true, true, true, true, true, true, true, true, true, true, true, true, true, true, true, true, true, true, false]) rfl rfl rfl rfl rfl rfl (by decide) hf (by kernel_rfl) (fun _ => hS) rfl fun a hf => ?_
        refine tkP (i := 29) (bs' := [true, true, true, true, true, true, true, true, true, true, true, true, true, true, true, true, true, true, true, true, true, true, true, true, true, true, true, true, true, true]) rfl rfl rfl (by decide) hf (by kernel_rfl) (fun _ => hS) (fun w => pOp_ok (tb := tab) tabOk hf rfl) rfl fun a hf => ?_
        refine dn (by kernel_rfl) ?_
        have hf := hf.prune [0, 3, 44] rfl
        refine then_n ?_
        refine cd_t hf rfl rfl ?_
        refine sq ?_
        refine reg ?_
        refine pRun_ok (tb := tab) (n := 48) tabOk 1 _ _ hf rfl rfl fun a hf => ?_
        refine wl_end ?_
        refine then_n ?_
        refine wp_ret (blk_r (then_r (then_r (blk_r (then_r (then_r (?_)))))))
        obtain rfl := Option.some.inj hR1
        replace hF := on_ret hF
        obtain rfl := Option.some.inj hF
        refine ret_1 (fn := Try.f112) (r := .tmp 2) hf rfl (rv_tmp hf rfl) ?_
        exact ⟨_, rfl, H.bel, mk_bool⟩
      · rw [if_neg (nt hc2)] at hR1
        have hf := hf.lit 19 rfl hc2
        refine tkPg (i := 5) (bs' := [true, true, true, true, true, true, false, false, false, false, false, false, false, false, false, false, false, false, false, false, false, false, false, false, false, false, false, false, false, false]) rfl rfl rfl rfl rfl (by decide) hf (by kernel_rfl) (fun _ => hS) (fun w => pOp_ok (tb := tab) tabOk hf rfl) rfl fun a hf => ?_
        refine tkSg (i := 6) (bs' := [true, true, true, true, true, true, true, false, false, false, false, false, false, false, false, false, false, false, false, false, false, false, false, false, false, false, false, false, false, false]) [] rfl rfl rfl rfl rfl (by decide) hf (by kernel_rfl) (by kernel_rfl) hS (fun w H => rq_loadB hf H TF.ls3 0 rfl rfl rfl) rfl fun a hf => ?_
        obtain ⟨y2, hy2, hR1⟩ := bind_some hR1
        refine on1g (i := 7) (bs' := [true, true, true, true, true, true, true, true, false, false, false, false, false, false, false, false, false, false, false, false, false, false, false, false, false, false, false, false, false, false]) (by kernel_rfl) rfl rfl rfl rfl hf rfl (op_call hf TF.cl97 rfl (by decide) (spec_l1In_ok (S := fun _ => True) mk_int mk_int mk_int hy2) fun v2 w a hp2 hf => ?_)
        obtain ⟨hb2, hp2⟩ := hp2
        obtain rfl := VR_bool hp2
        have H := H.keep hb2
        have hS : Mem ⟨w0, []⟩ S [⟨b', 119, [(.int .i64 e.Kind), (.int .i64 e.Node), (.int .i64 e.Count)]⟩] [] [] [(false, MP.cells ⟨p, o, none⟩ [(.int .i64 e.Kind), (.int .i64 e.Node), (.int .i64 e.Count)]), (false, MP.val [(.slice A bill.length c)] (bill : List Item))] w := H.let [true] [] [] [0, 1]
        refine ⟨fun _ => hS, ?_⟩
        refine tkPg (i := 8) (bs' := [true, true, true, true, true, true, true, true, true, false, false, false, false, false, false, false, false, false, false, false, false, false, false, false, false, false, false, false, false, false]) rfl rfl rfl rfl rfl (by decide) hf (by kernel_rfl) (fun _ => hS) (fun w => pOp_ok (tb := tab) tabOk hf rfl) rfl fun a hf => ?_
        refine tkP (i := 9) (bs' := [true, true, true, true, true, true, true, true, true, true, false, false, false, false, false, false, false, false, false, false, false, false, false, false, false, false, false, false, false, false]) rfl rfl rfl (by decide) hf (by kernel_rfl) (fun _ => hS) (fun w => pOp_ok (tb := tab) tabOk hf rfl) rfl fun a hf => ?_
        refine tkP (i := 10) (bs' := [true, true, true, true, true, true, true, true, true, true, true, false, false, false, false, false, false, false, false, false, false, false, false, false, false, false, false, false, false, false]) rfl rfl rfl (by decide) hf (by kernel_rfl) (fun _ => hS) (fun w => pOp_ok (tb := tab) tabOk hf rfl) rfl fun a hf => ?_
        refine (Bool.eq_false_or_eq_true (!y2)).elim (fun hc3 => ?_) (fun hc3 => ?_)
        · rw [if_pos hc3] at hR1
          have hf := hf.lit 25 rfl hc3
          refine tkU (i := 11) (bs' := [true, true, true, true, true, true, true, true, true, true, true, true, false, false, false, false, false, false, false, false, false, false, false, false, false, false, false, false, false, false]) rfl rfl rfl rfl rfl rfl (by decide) hf (by kernel_rfl) (fun _ => hS) rfl fun a hf => ?_
          refine tkU (i := 12) (bs' := [true, true, true, true, true, true, true, true, true, true, true, true, true, false, false, false, false, false, false, false, false, false, false, false, false, false, false, false, false, false]) rfl rfl rfl rfl rfl rfl (by decide) hf (by kernel_rfl) (fun _ => hS) rfl fun a hf => ?_
          refine tkU (i := 13) (bs' := [true, true, true, true, true, true, true, true, true, true, true, true, true, true, false, false, false, false, false, false, false, false, false, false, false, false, false, false, false, false]) rfl rfl rfl rfl rfl rfl (by decide) hf (by kernel_rfl) (fun _ => hS) rfl fun a hf => ?_
          refine tkU (i := 14) (bs' := [true, true, true, true, true, true, true, true, true, true, true, true, true, true, true, false, false, false, false, false, false, false, false, false, false, false, false, false, false, false]) rfl rfl rfl rfl rfl rfl (by decide) hf (by kernel_rfl) (fun _ => hS) rfl fun a hf => ?_
          refine tkP (i := 15) (bs' := [true, true, true, true, true, true, true, true, true, true, true, true, true, true, true, true, false, false, false, false, false, false, false, false, false, false, false, false, false, false]) rfl rfl rfl (by decide) hf (by kernel_rfl) (fun _ => hS) (fun w => pOp_ok (tb := tab) tabOk hf rfl) rfl fun a hf => ?_
          refine tkP (i := 16) (bs' := [true, true, true, true, true, true, true, true, true, true, true, true, true, true, true, true, true, false, false, false, false, false, false, false, false, false, false, false, false, false]) rfl rfl rfl (by decide) hf (by kernel_rfl) (fun _ => hS) (fun w => pOp_ok (tb := tab) tabOk hf rfl) rfl fun a hf => ?_
          refine tkU (i := 17) (bs' := [true, true, true, true, true, true, true, true, true, true, true, true, true, true, true, true, true, true, false, false, false, false, false, false, false, false, false, false, false, false]) rfl rfl rfl rfl rfl rfl (by decide) hf (by kernel_rfl) (fun _ => hS) rfl fun a hf => ?_
          refine tkU (i := 18) (bs' := [true, true, true, true, true, true, true, true, true, true, true, true, true, true, true, true, true, true, true, false, false, false, false, false, false, false, false, false, false, false]) rfl rfl rfl rfl rfl rfl (by decide) hf (by kernel_rfl) (fun _ => hS) rfl fun a hf => ?_
          refine tkU (i := 19) (bs' := [true, true, true, true, true, true, true, true, true, true, true, true, true, true, true, true, true, true, true, true, false, false, false, false, false, false, false, false, false, false]) rfl rfl rfl rfl rfl rfl (by decide) hf (by kernel_rfl) (fun _ => hS) rfl fun a hf => ?_
          refine tkUU (i := 20) (bs' := [true, true, true, true, true, true, true, true, true, true, true, true, true, true, true, true, true, true, true, true, true, false, false, false, false, false, false, false, false, false]) rfl rfl rfl rfl rfl (by decide) hf (by kernel_rfl) (fun _ => hS) rfl fun a hf => ?_
          refine tkUU (i := 21) (bs' := [true, true, true, true, true, true, true, true, true, true, true, true, true, true, true, true, true, true, true, true, true, true, false, false, false, false, false, false, false, false]) rfl rfl rfl rfl rfl (by decide) hf (by kernel_rfl) (fun _ => hS) rfl fun a hf => ?_
          refine tkUU (i := 22) (bs' := [true, true, true, true, true, true, true, true, true, true, true, true, true, true, true, true, true, true, true, true, true, true, true, false, false, false, false, false, false, false]) rfl rfl rfl rfl rfl (by decide) hf (by kernel_rfl) (fun _ => hS) rfl fun a hf => ?_
          refine tkUU (i := 23) (bs' := [true, true, true, true, true, true, true, true, true, true, true, true, true, true, true, true, true, true, true, true, true, true, true, true, false, false, false, false, false, false]) rfl rfl rfl rfl rfl (by decide) hf (by kernel_rfl) (fun _ => hS) rfl fun a hf => ?_
          refine tkUU (i := 24) (bs' := [true, true, true, true, true, true, true, true, true, true, true, true, true, true, true, true, true, true, true, true, true, true, true, true, true, false, false, false, false, false]) rfl rfl rfl rfl rfl (by decide) hf (by kernel_rfl) (fun _ => hS) rfl fun a hf => ?_
          refine tkUU (i := 25) (bs' := [true, true, true, true, true, true, true, true, true, true, true, true, true, true, true, true, true, true, true, true, true, true, true, true, true, true, false, false, false, false]) rfl rfl rfl rfl rfl (by decide) hf (by kernel_rfl) (fun _ => hS) rfl fun a hf => ?_
          refine tkUU (i := 26) (bs' := [true, true, true, true, true, true, true, true, true, true, true, true, true, true, true, true, true, true, true, true, true, true, true, true, true, true, true, false, false, false]) rfl rfl rfl rfl rfl (by decide) hf (by kernel_rfl) (fun _ => hS) rfl fun a hf => ?_
          refine tkUU (i := 27) (bs' := [true, true, true, true, true, true, true, true, true, true, true, true, true, true, true, true, true, true, true, true, true, true, true, true, true, true, true, true, false, false]) rfl rfl rfl rfl rfl (by decide) hf (by kernel_rfl) (fun _ => hS) rfl fun a hf => ?_
          refine tkU (i := 28) (bs' := [true, true, true, true, true, true, true, true, true, true, true, true, true, true, true, true, true, true, true, true, true, true, true, true, true, true, true, true, true, false]) rfl rfl rfl rfl rfl rfl (by decide) hf (by kernel_rfl) (fun _ => hS) rfl fun a hf => ?_
          refine tkP (i := 29) (bs' := [true, true, true, true, true, true, true, true, true, true, true, true, true, true, true, true, true, true, true, true, true, true, true, true, true, true, true, true, true, true]) rfl rfl rfl (by decide) hf (by kernel_rfl) (fun _ => hS) (fun w => pOp_ok (tb := tab) tabOk hf rfl) rfl fun a hf => ?_
          refine dn (by kernel_rfl) ?_
          have hf := hf.prune [0, 3, 20, 21, 22, 23, 44] rfl
          refine then_n ?_
          refine cd_t hf rfl rfl ?_
          refine sq ?_
          refine reg ?_
          refine pRun_ok (tb := tab) (n := 48) tabOk 1 _ _ hf rfl rfl fun a hf => ?_
          refine wl_end ?_
          refine then_n ?_
          refine wp_ret (blk_r (then_r (then_r (blk_r (then_r (then_r (?_)))))))
          obtain rfl := Option.some.inj hR1
          replace hF := on_ret hF
          obtain rfl := Option.some.inj hF
          refine ret_1 (fn := Try.f112) (r := .tmp 2) hf rfl (rv_tmp hf rfl) ?_
          exact ⟨_, rfl, H.bel, mk_bool⟩
        · rw [if_neg (nt hc3)] at hR1
          have hf := hf.lit 25 rfl hc3
          refine tkPg (i := 11) (bs' := [true, true, true, true, true, true, true, true, true, true, true, true, false, false, false, false, false, false, false, false, false, false, false, false, false, false, false, false, false, false]) rfl rfl rfl rfl rfl (by decide) hf (by kernel_rfl) (fun _ => hS) (fun w => pOp_ok (tb := tab) tabOk hf rfl) rfl fun a hf => ?_
          refine tkSg (i := 12) (bs' := [true, true, true, true, true, true, true, true, true, true, true, true, true, false, false, false, false, false, false, false, false, false, false, false, false, false, false, false, false, false]) [] rfl rfl rfl rfl rfl (by decide) hf (by kernel_rfl) (by kernel_rfl) hS (fun w H => rq_loadB hf H TF.ls3 0 rfl rfl rfl) rfl fun a hf => ?_
          obtain ⟨y3, hy3, hR1⟩ := bind_some hR1
          refine on1g (i := 13) (bs' := [true, true, true, true, true, true, true, true, true, true, true, true, true, true, false, false, false, false, false, false, false, false, false, false, false, false, false, false, false, false]) (by kernel_rfl) rfl rfl rfl rfl hf rfl (op_call hf TF.cl97 rfl (by decide) (spec_l1In_ok (S := fun _ => True) mk_int mk_int mk_int hy3) fun v3 w a hp3 hf => ?_)
          obtain ⟨hb3, hp3⟩ := hp3
          obtain rfl := VR_bool hp3
          have H := H.keep hb3
          have hS : Mem ⟨w0, []⟩ S [⟨b', 119, [(.int .i64 e.Kind), (.int .i64 e.Node), (.int .i64 e.Count)]⟩] [] [] [(false, MP.cells ⟨p, o, none⟩ [(.int .i64 e.Kind), (.int .i64 e.Node), (.int .i64 e.Count)]), (false, MP.val [(.slice A bill.length c)] (bill : List Item))] w := H.let [true] [] [] [0, 1]
          refine ⟨fun _ => hS, ?_⟩
          refine tkPg (i := 14) (bs' := [true, true, true, true, true, true, true, true, true, true, true, true, true, true, true, false, false, false, false, false, false, false, false, false, false, false, false, false, false, false]) rfl rfl rfl rfl rfl (by decide) hf (by kernel_rfl) (fun _ => hS) (fun w => pOp_ok (tb := tab) tabOk hf rfl) rfl fun a hf => ?_
          refine tkP (i := 15) (bs' := [true, true, true, true, true, true, true, true, true, true, true, true, true, true, true, true, false, false, false, false, false, false, false, false, false, false, false, false, false, false]) rfl rfl rfl (by decide) hf (by kernel_rfl) (fun _ => hS) (fun w => pOp_ok (tb := tab) tabOk hf rfl) rfl fun a hf => ?_
          refine tkP (i := 16) (bs' := [true, true, true, true, true, true, true, true, true, true, true, true, true, true, true, true, true, false, false, false, false, false, false, false, false, false, false, false, false, false]) rfl rfl rfl (by decide) hf (by kernel_rfl) (fun _ => hS) (fun w => pOp_ok (tb := tab) tabOk hf rfl) rfl fun a hf => ?_
          refine (Bool.eq_false_or_eq_true (!y3)).elim (fun hc4 => ?_) (fun hc4 => ?_)
          · rw [if_pos hc4] at hR1
            have hf := hf.lit 31 rfl hc4
            refine tkU (i := 17) (bs' := [true, true, true, true, true, true, true, true, true, true, true, true, true, true, true, true, true, true, false, false, false, false, false, false, false, false, false, false, false, false]) rfl rfl rfl rfl rfl rfl (by decide) hf (by kernel_rfl) (fun _ => hS) rfl fun a hf => ?_
            refine tkU (i := 18) (bs' := [true, true, true, true, true, true, true, true, true, true, true, true, true, true, true, true, true, true, true, false, false, false, false, false, false, false, false, false, false, false]) rfl rfl rfl rfl rfl rfl (by decide) hf (by kernel_rfl) (fun _ => hS) rfl fun a hf => ?_
            refine tkU (i := 19) (bs' := [true, true, true, true, true, true, true, true, true, true, true, true, true, true, true, true, true, true, true, true, false, false, false, false, false, false, false, false, false, false]) rfl rfl rfl rfl rfl rfl (by decide) hf (by kernel_rfl) (fun _ => hS) rfl fun a hf => ?_
            refine tkUU (i := 20) (bs' := [true, true, true, true, true, true, true, true, true, true, true, true, true, true, true, true, true, true, true, true, true, false, false, false, false, false, false, false, false, false]) rfl rfl rfl rfl rfl (by decide) hf (by kernel_rfl) (fun _ => hS) rfl fun a hf => ?_
            refine tkUU (i := 21) (bs' := [true, true, true, true, true, true, true, true, true, true, true, true, true, true, true, true, true, true, true, true, true, true, false, false, false, false, false, false, false, false]) rfl rfl rfl rfl rfl (by decide) hf (by kernel_rfl) (fun _ => hS) rfl fun a hf => ?_
            refine tkUU (i := 22) (bs' := [true, true, true, true, true, true, true, true, true, true, true, true, true, true, true, true, true, true, true, true, true, true, true, false, false, false, false, false, false, false]) rfl rfl rfl rfl rfl (by decide) hf (by kernel_rfl) (fun _ => hS) rfl fun a hf => ?_
            refine tkUU (i := 23) (bs' := [true, true, true, true, true, true, true, true, true, true, true, true, true, true, true, true, true, true, true, true, true, true, true, true, false, false, false, false, false, false]) rfl rfl rfl rfl rfl (by decide) hf (by kernel_rfl) (fun _ => hS) rfl fun a hf => ?_
            refine tkUU (i := 24) (bs' := [true, true, true, true, true, true, true, true, true, true, true, true, true, true, true, true, true, true, true, true, true, true, true, true, true, false, false, false, false, false]) rfl rfl rfl rfl rfl (by decide) hf (by kernel_rfl) (fun _ => hS) rfl fun a hf => ?_
            refine tkUU (i := 25) (bs' := [true, true, true, true, true, true, true, true, true, true, true, true, true, true, true, true, true, true, true, true, true, true, true, true, true, true, false, false, false, false]) rfl rfl rfl rfl rfl (by decide) hf (by kernel_rfl) (fun _ => hS) rfl fun a hf => ?_
            refine tkUU (i := 26) (bs' := [true, true, true, true, true, true, true, true, true, true, true, true, true, true, true, true, true, true, true, true, true, true, true, true, true, true, true, false, false, false]) rfl rfl rfl rfl rfl (by decide) hf (by kernel_rfl) (fun _ => hS) rfl fun a hf => ?_
            refine tkUU (i := 27) (bs' := [true, true, true, true, true, true, true, true, true, true, true, true, true, true, true, true, true, true, true, true, true, true, true, true, true, true, true, true, false, false]) rfl rfl rfl rfl rfl (by decide) hf (by kernel_rfl) (fun _ => hS) rfl fun a hf => ?_
            refine tkU (i := 28) (bs' := [true, true, true, true, true, true, true, true, true, true, true, true, true, true, true, true, true, true, true, true, true, true, true, true, true, true, true, true, true, false]) rfl rfl rfl rfl rfl rfl (by decide) hf (by kernel_rfl) (fun _ => hS) rfl fun a hf => ?_
            refine tkP (i := 29) (bs' := [true, true, true, true, true, true, true, true, true, true, true, true, true, true, true, true, true, true, true, true, true, true, true, true, true, true, true, true, true, true]) rfl rfl rfl (by decide) hf (by kernel_rfl) (fun _ => hS) (fun w => pOp_ok (tb := tab) tabOk hf rfl) rfl fun a hf => ?_
            refine dn (by kernel_rfl) ?_
            have hf := hf.prune [0, 3, 20, 21, 22, 23, 26, 27, 28, 29, 44] rfl
            refine then_n ?_
            refine cd_t hf rfl rfl ?_
            refine sq ?_
            refine reg ?_
            refine pRun_ok (tb := tab) (n := 48) tabOk 1 _ _ hf rfl rfl fun a hf => ?_
            refine wl_end ?_
            refine then_n ?_
            refine wp_ret (blk_r (then_r (then_r (blk_r (then_r (then_r (?_)))))))
            obtain rfl := Option.some.inj hR1
            replace hF := on_ret hF
            obtain rfl := Option.some.inj hF
            refine ret_1 (fn := Try.f112) (r := .tmp 2) hf rfl (rv_tmp hf rfl) ?_
            exact ⟨_, rfl, H.bel, mk_bool⟩
          · rw [if_neg (nt hc4)] at hR1
            have hf := hf.lit 31 rfl hc4
            refine tkPg (i := 17) (bs' := [true, true, true, true, true, true, true, true, true, true, true, true, true, true, true, true, true, true, false, false, false, false, false, false, false, false, false, false, false, false]) rfl rfl rfl rfl rfl (by decide) hf (by kernel_rfl) (fun _ => hS) (fun w => pOp_ok (tb := tab) tabOk hf rfl) rfl fun a hf => ?_
            refine tkPg (i := 18) (bs' := [true, true, true, true, true, true, true, true, true, true, true, true, true, true, true, true, true, true, true, false, false, false, false, false, false, false, false, false, false, false]) rfl rfl rfl rfl rfl (by decide) hf (by kernel_rfl) (fun _ => hS) (fun w => pOp_ok (tb := tab) tabOk hf rfl) rfl fun a hf => ?_
            refine tkPg (i := 19) (bs' := [true, true, true, true, true, true, true, true, true, true, true, true, true, true, true, true, true, true, true, true, false, false, false, false, false, false, false, false, false, false]) rfl rfl rfl rfl rfl (by decide) hf (by kernel_rfl) (fun _ => hS) (fun w => pOp_ok (tb := tab) tabOk hf rfl) rfl fun a hf => ?_
            refine (Bool.eq_false_or_eq_true (decide (i > 0))).elim (fun hc5 => ?_) (fun hc5 => ?_)
            · rw [if_pos hc5] at hR1
              have hf := hf.lit 34 rfl hc5
              refine tkPg (i := 20) (bs' := [true, true, true, true, true, true, true, true, true, true, true, true, true, true, true, true, true, true, true, true, true, false, false, false, false, false, false, false, false, false]) rfl rfl rfl rfl rfl (by decide) hf (by kernel_rfl) (fun _ => hS) (fun w => pOp_ok (tb := tab) tabOk hf rfl) rfl fun a hf => ?_
              refine tkPg (i := 21) (bs' := [true, true, true, true, true, true, true, true, true, true, true, true, true, true, true, true, true, true, true, true, true, true, false, false, false, false, false, false, false, false]) rfl rfl rfl rfl rfl (by decide) hf (by kernel_rfl) (fun _ => hS) (fun w => pOp_ok (tb := tab) tabOk hf rfl) rfl fun a hf => ?_
              refine tkPg (i := 22) (bs' := [true, true, true, true, true, true, true, true, true, true, true, true, true, true, true, true, true, true, true, true, true, true, true, false, false, false, false, false, false, false]) rfl rfl rfl rfl rfl (by decide) hf (by kernel_rfl) (fun _ => hS) (fun w => pOp_ok (tb := tab) tabOk hf rfl) rfl fun a hf => ?_
              obtain ⟨e2, he2, hR1⟩ := bind_some hR1
              obtain ⟨p2, o2, cs2, hx, hr2, H⟩ := pre_iaddr H Try.underlying53 TF.sz119 1 rfl he2
              refine tkPg (i := 23) (bs' := [true, true, true, true, true, true, true, true, true, true, true, true, true, true, true, true, true, true, true, true, true, true, true, true, false, false, false, false, false, false]) rfl rfl rfl rfl rfl (by decide) hf (by kernel_rfl) (fun _ => hS) (fun w => rq_iaddrE hf rfl rfl rfl hx w) rfl fun a hf => ?_
              obtain rfl := Item_cells hr2
              refine str (fun w => Mem ⟨w0, []⟩ S [⟨b', 119, [(.int .i64 e.Kind), (.int .i64 e.Node), (.int .i64 e.Count)]⟩] [] [] [(false, MP.cells ⟨p2, o2, none⟩ [(.int .i64 e2.Kind), (.int .i64 e2.Node), (.int .i64 e2.Count)]), (false, MP.cells ⟨p, o, none⟩ [(.int .i64 e.Kind), (.int .i64 e.Node), (.int .i64 e.Count)]), (false, MP.val [(.slice A bill.length c)] (bill : List Item))] w) (fun w H => H.let [true] [] [] [1, 2]) ?_
              have hS : Mem ⟨w0, []⟩ S [⟨b', 119, [(.int .i64 e.Kind), (.int .i64 e.Node), (.int .i64 e.Count)]⟩] [] [] [(false, MP.cells ⟨p2, o2, none⟩ [(.int .i64 e2.Kind), (.int .i64 e2.Node), (.int .i64 e2.Count)]), (false, MP.cells ⟨p, o, none⟩ [(.int .i64 e.Kind), (.int .i64 e.Node), (.int .i64 e.Count)]), (false, MP.val [(.slice A bill.length c)] (bill : List Item))] w := H.let [true] [] [] [0, 1, 2]
              refine tkSg (i := 24) (bs' := [true, true, true, true, true, true, true, true, true, true, true, true, true, true, true, true, true, true, true, true, true, true, true, true, true, false, false, false, false, false]) [] rfl rfl rfl rfl rfl (by decide) hf (by kernel_rfl) (by kernel_rfl) hS (fun w H => rq_loadIN hf H TF.la119 0 0 rfl rfl rfl rfl) rfl fun a hf => ?_
              refine tkSg (i := 25) (bs' := [true, true, true, true, true, true, true, true, true, true, true, true, true, true, true, true, true, true, true, true, true, true, true, true, true, true, false, false, false, false]) [] rfl rfl rfl rfl rfl (by decide) hf (by kernel_rfl) (by kernel_rfl) hS (fun w H => rq_loadBN hf H TF.la119 0 rfl rfl rfl rfl) rfl fun a hf => ?_
              obtain ⟨y4, hy4, hR1⟩ := bind_some hR1
              refine on1g (i := 26) (bs' := [true, true, true, true, true, true, true, true, true, true, true, true, true, true, true, true, true, true, true, true, true, true, true, true, true, true, true, false, false, false]) (by kernel_rfl) rfl rfl rfl rfl hf rfl (op_call hf TF.cl154 rfl (by decide) (spec_l19Before_ok (S := fun _ => True) Item_mkv Item_mkv hy4) fun v4 w a hp4 hf => ?_)
              obtain ⟨hb4, hp4⟩ := hp4
              obtain rfl := VR_bool hp4
              have H := H.keep hb4
              have hS : Mem ⟨w0, []⟩ S [⟨b', 119, [(.int .i64 e.Kind), (.int .i64 e.Node), (.int .i64 e.Count)]⟩] [] [] [(false, MP.cells ⟨p2, o2, none⟩ [(.int .i64 e2.Kind), (.int .i64 e2.Node), (.int .i64 e2.Count)]), (false, MP.cells ⟨p, o, none⟩ [(.int .i64 e.Kind), (.int .i64 e.Node), (.int .i64 e.Count)]), (false, MP.val [(.slice A bill.length c)] (bill : List Item))] w := H.let [true] [] [] [0, 1, 2]
              refine ⟨fun _ => hS, ?_⟩
              refine tkPg (i := 27) (bs' := [true, true, true, true, true, true, true, true, true, true, true, true, true, true, true, true, true, true, true, true, true, true, true, true, true, true, true, true, false, false]) rfl rfl rfl rfl rfl (by decide) hf (by kernel_rfl) (fun _ => hS) (fun w => pOp_ok (tb := tab) tabOk hf rfl) rfl fun a hf => ?_
              refine tkPg (i := 28) (bs' := [true, true, true, true, true, true, true, true, true, true, true, true, true, true, true, true, true, true, true, true, true, true, true, true, true, true, true, true, true, false]) rfl rfl rfl rfl rfl (by decide) hf (by kernel_rfl) (fun _ => hS) (fun w => pOp_ok (tb := tab) tabOk hf rfl) rfl fun a hf => ?_
              refine tkP (i := 29) (bs' := [true, true, true, true, true, true, true, true, true, true, true, true, true, true, true, true, true, true, true, true, true, true, true, true, true, true, true, true, true, true]) rfl rfl rfl (by decide) hf (by kernel_rfl) (fun _ => hS) (fun w => pOp_ok (tb := tab) tabOk hf rfl) rfl fun a hf => ?_
              refine dn (by kernel_rfl) ?_
              have hf := hf.prune [0, 3, 20, 21, 22, 23, 26, 27, 28, 29, 32, 33, 34, 35, 36, 37, 38, 39, 40, 41, 42, 43, 44] rfl
              refine then_n ?_
              refine (Bool.eq_false_or_eq_true (!y4)).elim (fun hc6 => ?_) (fun hc6 => ?_)
              · rw [if_pos hc6] at hR1
                refine cd_t hf rfl hc6 ?_
                refine sq ?_
                refine reg ?_
                refine pRun_ok (tb := tab) (n := 48) tabOk 1 _ _ hf rfl rfl fun a hf => ?_
                have hf := hf.prune [2] rfl
                refine wl_end ?_
                refine then_n ?_
                refine wp_ret (blk_r (then_r (then_r (blk_r (then_r (then_r (?_)))))))
                obtain rfl := Option.some.inj hR1
                replace hF := on_ret hF
                obtain rfl := Option.some.inj hF
                refine ret_1 (fn := Try.f112) (r := .tmp 2) hf rfl (rv_tmp hf rfl) ?_
                exact ⟨_, rfl, H.bel, mk_bool⟩
              · rw [if_neg (nt hc6)] at hR1
                refine cd_f hf rfl hc6 ?_
                refine wp_skip ?_
                refine blk_n ?_
                refine then_n ?_
                refine reg ?_
                refine pRun_ok (tb := tab) (n := 48) tabOk 3 _ _ hf rfl rfl fun a hf => ?_
                refine wl_end ?_
                have hf := hf.prune [0, 3] rfl
                have H := H.let [false] [] [] [2]
                exact then_n ⟨w64 (i + 1), hR1, hf, H⟩
            · rw [if_neg (nt hc5)] at hR1
              have hf := hf.lit 34 rfl hc5
              refine tkU (i := 20) (bs' := [true, true, true, true, true, true, true, true, true, true, true, true, true, true, true, true, true, true, true, true, true, false, false, false, false, false, false, false, false, false]) rfl rfl rfl rfl rfl rfl (by decide) hf (by kernel_rfl) (fun _ => hS) rfl fun a hf => ?_
              refine tkU (i := 21) (bs' := [true, true, true, true, true, true, true, true, true, true, true, true, true, true, true, true, true, true, true, true, true, true, false, false, false, false, false, false, false, false]) rfl rfl rfl rfl rfl rfl (by decide) hf (by kernel_rfl) (fun _ => hS) rfl fun a hf => ?_
              refine tkU (i := 22) (bs' := [true, true, true, true, true, true, true, true, true, true, true, true, true, true, true, true, true, true, true, true, true, true, true, false, false, false, false, false, false, false]) rfl rfl rfl rfl rfl rfl (by decide) hf (by kernel_rfl) (fun _ => hS) rfl fun a hf => ?_
              refine tkU (i := 23) (bs' := [true, true, true, true, true, true, true, true, true, true, true, true, true, true, true, true, true, true, true, true, true, true, true, true, false, false, false, false, false, false]) rfl rfl rfl rfl rfl rfl (by decide) hf (by kernel_rfl) (fun _ => hS) rfl fun a hf => ?_
              refine tkU (i := 24) (bs' := [true, true, true, true, true, true, true, true, true, true, true, true, true, true, true, true, true, true, true, true, true, true, true, true, true, false, false, false, false, false]) rfl rfl rfl rfl rfl rfl (by decide) hf (by kernel_rfl) (fun _ => hS) rfl fun a hf => ?_
              refine tkU (i := 25) (bs' := [true, true, true, true, true, true, true, true, true, true, true, true, true, true, true, true, true, true, true, true, true, true, true, true, true, true, false, false, false, false]) rfl rfl rfl rfl rfl rfl (by decide) hf (by kernel_rfl) (fun _ => hS) rfl fun a hf => ?_
              refine tkU (i := 26) (bs' := [true, true, true, true, true, true, true, true, true, true, true, true, true, true, true, true, true, true, true, true, true, true, true, true, true, true, true, false, false, false]) rfl rfl rfl rfl rfl rfl (by decide) hf (by kernel_rfl) (fun _ => hS) rfl fun a hf => ?_
              refine tkU (i := 27) (bs' := [true, true, true, true, true, true, true, true, true, true, true, true, true, true, true, true, true, true, true, true, true, true, true, true, true, true, true, true, false, false]) rfl rfl rfl rfl rfl rfl (by decide) hf (by kernel_rfl) (fun _ => hS) rfl fun a hf => ?_
              refine tkPg (i := 28) (bs' := [true, true, true, true, true, true, true, true, true, true, true, true, true, true, true, true, true, true, true, true, true, true, true, true, true, true, true, true, true, false]) rfl rfl rfl rfl rfl (by decide) hf (by kernel_rfl) (fun _ => hS) (fun w => pOp_ok (tb := tab) tabOk hf rfl) rfl fun a hf => ?_
              refine tkP (i := 29) (bs' := [true, true, true, true, true, true, true, true, true, true, true, true, true, true, true, true, true, true, true, true, true, true, true, true, true, true, true, true, true, true]) rfl rfl rfl (by decide) hf (by kernel_rfl) (fun _ => hS) (fun w => pOp_ok (tb := tab) tabOk hf rfl) rfl fun a hf => ?_
              refine dn (by kernel_rfl) ?_
              have hf := hf.prune [0, 3, 20, 21, 22, 23, 26, 27, 28, 29, 32, 33, 34, 43, 44] rfl
              refine then_n ?_
              refine cd_f hf rfl rfl ?_
              refine wp_skip ?_
              refine blk_n ?_
              refine then_n ?_
              refine reg ?_
              refine pRun_ok (tb := tab) (n := 48) tabOk 3 _ _ hf rfl rfl fun a hf => ?_
              refine wl_end ?_
              have hf := hf.prune [0, 3] rfl
              have H := H.let [false] [] [] [1]
              exact then_n ⟨w64 (i + 1), hR1, hf, H⟩
    · rw [if_neg (nt hc)] at hR1
      refine cd_f hf rfl hc ?_
      refine wp_exit (then_x (then_x (blk_e (?_))))
      have hf := hf.prune [0, 3] rfl
      have H := H.let [] [] [] [0]
      exact ⟨i, (Option.some.inj hR1).symm, hf, H⟩
  rintro a w ⟨i2, rfl, hf, H⟩
  replace hF := on_next hF
  refine then_n ?_
  refine sq ?_
  refine reg ?_
  refine pRun_ok (tb := tab) (n := 48) tabOk 4 _ _ hf rfl rfl fun a hf => ?_
  refine wl_end ?_
  refine then_n ?_
  refine wp_ret (?_)
  obtain rfl := Option.some.inj hF
  refine ret_1 (fn := Try.f112) (r := .tmp 2) hf rfl (rv_tmp hf rfl) ?_
  exact ⟨_, rfl, H.bel, mk_bool⟩

/- loop.example/g00897/spec.l19Add -/
set_option maxHeartbeats 1000000 in
theorem spec_l19Add_ok {fu : Nat} {w0 : World} {S : Nat → Prop} {v0_ : Value} {v1_ : Value} {bill : List Item} {x1 : Item} {r : List Item} (h0 : VR w0 S v0_ bill) (h1 : VR w0 S v1_ x1) (hF : spec_l19Add fu bill x1 = some r) :
    Calls Try.prog 125 [v0_, v1_].toArray w0 fun e w' => ∃ v, e = .returned v ∧ (Below w0.heap.size w0 w' ∧ VR w' (St ⟨w0, []⟩ S [] [] [] false) v r) := by
  obtain ⟨A, c, rfl, hl⟩ := VR_list h0
  obtain rfl := Item_open h1
  have H := Mem.start ⟨w0, []⟩ S
  have H := H.pushArg (MP.val [(.slice A bill.length c)] bill) hl
  refine enter Try.func125 rfl rfl (nle rfl) rfl fun a hf => ?_
  rw [spec_l19Add] at hF
  refine sq ?_
  refine reg ?_
  refine wl0 rfl (op_box hf H rfl rfl (by decide) fun b' a w hf H => ?_)
  refine pRun_ok (tb := tab) (n := 62) tabOk 1 _ _ hf rfl rfl fun a hf => ?_
  refine wl_end ?_
  refine then_n ?_
  refine sq ?_
  refine sq ?_
  refine reg ?_
  refine pRun_ok (tb := tab) (n := 62) tabOk 1 _ _ hf rfl rfl fun a hf => ?_
  refine wl0 rfl (op_q hf (rq_loadB hf H TF.ls3 0 rfl rfl rfl) rfl (by decide) fun a hf => ?_)
  refine pRun_ok (tb := tab) (n := 62) tabOk 1 _ _ hf rfl rfl fun a hf => ?_
  refine wl_end ?_
  refine then_n ?_
  refine (Bool.eq_false_or_eq_true (x1.Count == 0)).elim (fun hc => ?_) (fun hc => ?_)
  · rw [if_pos hc] at hF
    refine cd_t hf rfl hc ?_
    refine sq ?_
    refine reg ?_
    refine pRun_ok (tb := tab) (n := 62) tabOk 2 _ _ hf rfl rfl fun a hf => ?_
    refine wl_end ?_
    refine then_n ?_
    refine wp_ret (then_r (?_))
    obtain rfl := Option.some.inj hF
    refine ret_1 (fn := Try.f125) (r := .tmp 4) hf rfl (rv_tmp hf rfl) ?_
    exact ⟨_, rfl, H.bel, (mk_list (rep_end (α := List Item) (H.get 0 rfl)))⟩
  · rw [if_neg (nt hc)] at hF
    refine cd_f hf rfl hc ?_
    refine wp_skip ?_
    refine then_n ?_
    refine sq ?_
    refine reg ?_
    refine pRun_ok (tb := tab) (n := 62) tabOk 1 _ _ hf rfl rfl fun a hf => ?_
    refine wl_end ?_
    refine then_n ?_
    refine sq ?_
    obtain ⟨out', hB1, hF⟩ := bind_some hF
    have hf := hf.prune [0, 3, 5] rfl
    have H := H.let [true] [] [] [0]
    have hI : (fun (s : Int) (a : Act) (w : World) => match s with | i => Fr a 62 [(0, (.slice A bill.length c)), (3, (.pointer (some ⟨b', 0, none⟩))), (5, (.int .i64 i))] ∧ Mem ⟨w0, []⟩ S [⟨b', 119, [(.int .i64 x1.Kind), (.int .i64 x1.Node), (.int .i64 x1.Count)]⟩] [] [] [(false, MP.val [(.slice A bill.length c)] (bill : List Item))] w) 0 a w := ⟨hf, H⟩
    refine mid (fun a w => ∃ s : Int, out' = s ∧ (fun (s : Int) (a : Act) (w : World) => match s with | i => Fr a 62 [(0, (.slice A bill.length c)), (3, (.pointer (some ⟨b', 0, none⟩))), (5, (.int .i64 i))] ∧ Mem ⟨w0, []⟩ S [⟨b', 119, [(.int .i64 x1.Kind), (.int .i64 x1.Node), (.int .i64 x1.Count)]⟩] [] [] [(false, MP.val [(.slice A bill.length c)] (bill : List Item))] w) s a w) ?_ ?_
    · refine wp_block ?_
      refine loop_rule (fun k (s : Int) => spec_l19Add_L1 fu bill x1 k s = some out') (fun (s : Int) (a : Act) (w : World) => match s with | i => Fr a 62 [(0, (.slice A bill.length c)), (3, (.pointer (some ⟨b', 0, none⟩))), (5, (.int .i64 i))] ∧ Mem ⟨w0, []⟩ S [⟨b', 119, [(.int .i64 x1.Kind), (.int .i64 x1.Node), (.int .i64 x1.Count)]⟩] [] [] [(false, MP.val [(.slice A bill.length c)] (bill : List Item))] w) (fun s h => by cases h) ?_ fu 0 a w hB1 hI
      rintro fk i a w hR1 hI
      replace hR1 : spec_l19Add_L1 fu bill x1 (fk + 1) i = some out' := hR1
      rw [spec_l19Add_L1] at hR1
      obtain ⟨hf, H⟩ := hI
      refine sq ?_
      refine sq ?_
      refine drawn [] (bs := [false, false, false, false, false, false, false, false, false, false, false, false]) (fuel := 12) (Checked.mixed Try.checked) rfl rfl fun w hb => ?_
      have H := H.keep hb
      refine tkP (i := 0) (bs' := [true, false, false, false, false, false, false, false, false, false, false, false]) rfl rfl rfl (by decide) hf (by kernel_rfl) (fun _ => trivial) (fun w => pOp_ok (tb := tab) tabOk hf rfl) rfl fun a hf => ?_
      refine tkP (i := 1) (bs' := [true, true, false, false, false, false, false, false, false, false, false, false]) rfl rfl rfl (by decide) hf (by kernel_rfl) (fun _ => trivial) (fun w => pOp_ok (tb := tab) tabOk hf rfl) rfl fun a hf => ?_
      refine tkP (i := 2) (bs' := [true, true, true, false, false, false, false, false, false, false, false, false]) rfl rfl rfl (by decide) hf (by kernel_rfl) (fun _ => trivial) (fun w => pOp_ok (tb := tab) tabOk hf rfl) rfl fun a hf => ?_
      refine tkP (i := 3) (bs' := [true, true, true, true, false, false, false, false, false, false, false, false]) rfl rfl rfl (by decide) hf (by kernel_rfl) (fun _ => trivial) (fun w => pOp_ok (tb := tab) tabOk hf rfl) rfl fun a hf => ?_
      refine tkP (i := 4) (bs' := [true, true, true, true, true, false, false, false, false, false, false, false]) rfl rfl rfl (by decide) hf (by kernel_rfl) (fun _ => trivial) (fun w => pOp_ok (tb := tab) tabOk hf rfl) rfl fun a hf => ?_
      refine (Bool.eq_false_or_eq_true (decide (i < (bill.length : Int)))).elim (fun hc2 => ?_) (fun hc2 => ?_)
      · rw [if_pos hc2] at hR1
        have hf := hf.lit 15 rfl hc2
        refine tkPg (i := 5) (bs' := [true, true, true, true, true, true, false, false, false, false, false, false]) rfl rfl rfl rfl rfl (by decide) hf (by kernel_rfl) (fun _ => trivial) (fun w => pOp_ok (tb := tab) tabOk hf rfl) rfl fun a hf => ?_
        refine tkPg (i := 6) (bs' := [true, true, true, true, true, true, true, false, false, false, false, false]) rfl rfl rfl rfl rfl (by decide) hf (by kernel_rfl) (fun _ => trivial) (fun w => pOp_ok (tb := tab) tabOk hf rfl) rfl fun a hf => ?_
        obtain ⟨e, he, hR1⟩ := bind_some hR1
        obtain ⟨p, o, cs, hx, hr, H⟩ := pre_iaddr H Try.underlying53 TF.sz119 0 rfl he
        refine tkPg (i := 7) (bs' := [true, true, true, true, true, true, true, true, false, false, false, false]) rfl rfl rfl rfl rfl (by decide) hf (by kernel_rfl) (fun _ => trivial) (fun w => rq_iaddrE hf rfl rfl rfl hx w) rfl fun a hf => ?_
        obtain rfl := Item_cells hr
        refine str (fun w => Mem ⟨w0, []⟩ S [⟨b', 119, [(.int .i64 x1.Kind), (.int .i64 x1.Node), (.int .i64 x1.Count)]⟩] [] [] [(false, MP.cells ⟨p, o, none⟩ [(.int .i64 e.Kind), (.int .i64 e.Node), (.int .i64 e.Count)]), (false, MP.val [(.slice A bill.length c)] (bill : List Item))] w) (fun w H => trivial) ?_
        have hS : Mem ⟨w0, []⟩ S [⟨b', 119, [(.int .i64 x1.Kind), (.int .i64 x1.Node), (.int .i64 x1.Count)]⟩] [] [] [(false, MP.cells ⟨p, o, none⟩ [(.int .i64 e.Kind), (.int .i64 e.Node), (.int .i64 e.Count)]), (false, MP.val [(.slice A bill.length c)] (bill : List Item))] w := H.let [true] [] [] [0, 1]
        refine tkSg (i := 8) (bs' := [true, true, true, true, true, true, true, true, true, false, false, false]) [] rfl rfl rfl rfl rfl (by decide) hf (by kernel_rfl) (by kernel_rfl) hS (fun w H => rq_loadIN hf H TF.la119 0 0 rfl rfl rfl rfl) rfl fun a hf => ?_
        refine tkSg (i := 9) (bs' := [true, true, true, true, true, true, true, true, true, true, false, false]) [] rfl rfl rfl rfl rfl (by decide) hf (by kernel_rfl) (by kernel_rfl) hS (fun w H => rq_loadBN hf H TF.la119 0 rfl rfl rfl rfl) rfl fun a hf => ?_
        obtain ⟨y, hy, hR1⟩ := bind_some hR1
        refine on1g (i := 10) (bs' := [true, true, true, true, true, true, true, true, true, true, true, false]) (by kernel_rfl) rfl rfl rfl rfl hf rfl (op_call hf TF.cl154 rfl (by decide) (spec_l19Before_ok (S := fun _ => True) Item_mkv Item_mkv hy) fun v w a hp hf => ?_)
        obtain ⟨hb, hp⟩ := hp
        obtain rfl := VR_bool hp
        have H := H.keep hb
        have hS : Mem ⟨w0, []⟩ S [⟨b', 119, [(.int .i64 x1.Kind), (.int .i64 x1.Node), (.int .i64 x1.Count)]⟩] [] [] [(false, MP.cells ⟨p, o, none⟩ [(.int .i64 e.Kind), (.int .i64 e.Node), (.int .i64 e.Count)]), (false, MP.val [(.slice A bill.length c)] (bill : List Item))] w := H.let [true] [] [] [0, 1]
        refine ⟨fun _ => hS, ?_⟩
        refine tkP (i := 11) (bs' := [true, true, true, true, true, true, true, true, true, true, true, true]) rfl rfl rfl (by decide) hf (by kernel_rfl) (fun _ => hS) (fun w => pOp_ok (tb := tab) tabOk hf rfl) rfl fun a hf => ?_
        refine dn (by kernel_rfl) ?_
        refine then_n ?_
        refine (Bool.eq_false_or_eq_true (y)).elim (fun hc3 => ?_) (fun hc3 => ?_)
        · rw [if_pos hc3] at hR1
          refine cd_t hf rfl hc3 ?_
          refine wp_skip ?_
          refine then_n ?_
          refine wp_block ?_
          refine reg ?_
          refine pRun_ok (tb := tab) (n := 62) tabOk 3 _ _ hf rfl rfl fun a hf => ?_
          refine wl_end ?_
          refine blk_n ?_
          have hf := hf.prune [0, 3, 5] rfl
          have H := H.let [true] [] [] [1]
          exact then_n ⟨w64 (i + 1), hR1, hf, H⟩
        · rw [if_neg (nt hc3)] at hR1
          refine cd_f hf rfl hc3 ?_
          refine wp_exit (then_x (then_x (blk_e (?_))))
          have hf := hf.prune [0, 3, 5] rfl
          have H := H.let [true] [] [] [1]
          exact ⟨i, (Option.some.inj hR1).symm, hf, H⟩
      · rw [if_neg (nt hc2)] at hR1
        have hf := hf.lit 15 rfl hc2
        refine tkU (i := 5) (bs' := [true, true, true, true, true, true, false, false, false, false, false, false]) rfl rfl rfl rfl rfl rfl (by decide) hf (by kernel_rfl) (fun _ => trivial) rfl fun a hf => ?_
        refine tkU (i := 6) (bs' := [true, true, true, true, true, true, true, false, false, false, false, false]) rfl rfl rfl rfl rfl rfl (by decide) hf (by kernel_rfl) (fun _ => trivial) rfl fun a hf => ?_
        refine tkU (i := 7) (bs' := [true, true, true, true, true, true, true, true, false, false, false, false]) rfl rfl rfl rfl rfl rfl (by decide) hf (by kernel_rfl) (fun _ => trivial) rfl fun a hf => ?_
        refine tkU (i := 8) (bs' := [true, true, true, true, true, true, true, true, true, false, false, false]) rfl rfl rfl rfl rfl rfl (by decide) hf (by kernel_rfl) (fun _ => trivial) rfl fun a hf => ?_
        refine tkU (i := 9) (bs' := [true, true, true, true, true, true, true, true, true, true, false, false]) rfl rfl rfl rfl rfl rfl (by decide) hf (by kernel_rfl) (fun _ => trivial) rfl fun a hf => ?_
        refine tkU (i := 10) (bs' := [true, true, true, true, true, true, true, true, true, true, true, false]) rfl rfl rfl rfl rfl rfl (by decide) hf (by kernel_rfl) (fun _ => trivial) rfl fun a hf => ?_
        refine tkP (i := 11) (bs' := [true, true, true, true, true, true, true, true, true, true, true, true]) rfl rfl rfl (by decide) hf (by kernel_rfl) (fun _ => trivial) (fun w => pOp_ok (tb := tab) tabOk hf rfl) rfl fun a hf => ?_
        refine dn (by kernel_rfl) ?_
        refine then_n ?_
        refine cd_f hf rfl rfl ?_
        refine wp_exit (then_x (then_x (blk_e (?_))))
        have hf := hf.prune [0, 3, 5] rfl
        have H := H.let [true] [] [] [0]
        exact ⟨i, (Option.some.inj hR1).symm, hf, H⟩
    rintro a w ⟨out', rfl, hf, H⟩
    refine then_n ?_
    refine sq ?_
    refine reg ?_
    refine wl0 rfl (op_bslice hf H (.sh true) rfl 119 ([] : List Item) [] rfl (fun w => by kernel_rfl) rfl (by decide) rfl trivial el0 (by decide) fun A2 a w hf H => ?_)
    refine pRun_ok (tb := tab) (n := 62) tabOk 2 _ _ hf rfl rfl fun a hf => ?_
    obtain ⟨l, hl, hF⟩ := bind_some hF
    refine wl0 rfl (op_sliceI hf H Try.underlying53 TF.sz119 0 rfl rfl rfl rfl hl (by decide) fun A3 c2 a hf H => ?_)
    obtain ⟨l2, hl2, hF⟩ := bind_some hF
    have H := H.rowWeak 0 rfl
    refine wl0 rfl (op_appI hf H Try.underlying53 TF.ai119 rfl (by decide) 0 0 rfl rfl rfl rfl (.inl rfl) hl2 (by decide) fun A4 c3 a w hf H => ?_)
    have H := H.rowOwn 0 rfl rfl
    have H := H.rowSh 0 rfl
    refine pRun_ok (tb := tab) (n := 62) tabOk 1 _ _ hf rfl rfl fun a hf => ?_
    refine wl_end ?_
    refine then_n ?_
    refine sq ?_
    refine sq ?_
    refine drawn [] (bs := [false, false, false, false, false, false, false, false, false, false, false, false, false]) (fuel := 13) (Checked.mixed Try.checked) rfl rfl fun w hb => ?_
    have H := H.keep hb
    refine tkP (i := 0) (bs' := [true, false, false, false, false, false, false, false, false, false, false, false, false]) rfl rfl rfl (by decide) hf (by kernel_rfl) (fun _ => trivial) (fun w => pOp_ok (tb := tab) tabOk hf rfl) rfl fun a hf => ?_
    refine tkP (i := 1) (bs' := [true, true, false, false, false, false, false, false, false, false, false, false, false]) rfl rfl rfl (by decide) hf (by kernel_rfl) (fun _ => trivial) (fun w => pOp_ok (tb := tab) tabOk hf rfl) rfl fun a hf => ?_
    refine tkP (i := 2) (bs' := [true, true, true, false, false, false, false, false, false, false, false, false, false]) rfl rfl rfl (by decide) hf (by kernel_rfl) (fun _ => trivial) (fun w => pOp_ok (tb := tab) tabOk hf rfl) rfl fun a hf => ?_
    refine tkP (i := 3) (bs' := [true, true, true, true, false, false, false, false, false, false, false, false, false]) rfl rfl rfl (by decide) hf (by kernel_rfl) (fun _ => trivial) (fun w => pOp_ok (tb := tab) tabOk hf rfl) rfl fun a hf => ?_
    refine tkP (i := 4) (bs' := [true, true, true, true, true, false, false, false, false, false, false, false, false]) rfl rfl rfl (by decide) hf (by kernel_rfl) (fun _ => trivial) (fun w => pOp_ok (tb := tab) tabOk hf rfl) rfl fun a hf => ?_
    refine (Bool.eq_false_or_eq_true (decide (out' < (bill.length : Int)))).elim (fun hc4 => ?_) (fun hc4 => ?_)
    · rw [if_pos hc4] at hF
      have hf := hf.lit 34 rfl hc4
      refine str (fun w => Mem ⟨w0, []⟩ S [⟨b', 119, [(.int .i64 x1.Kind), (.int .i64 x1.Node), (.int .i64 x1.Count)]⟩] [⟨.sh true, 119, A4, c3, (l2 : List Item)⟩] [] [(false, MP.val [(.slice A3 l.length c2)] (l : List Item)), (false, MP.val [(.slice A bill.length c)] (bill : List Item))] w) (fun w H => trivial) ?_
      have hS : Mem ⟨w0, []⟩ S [⟨b', 119, [(.int .i64 x1.Kind), (.int .i64 x1.Node), (.int .i64 x1.Count)]⟩] [⟨.sh true, 119, A4, c3, (l2 : List Item)⟩] [] [(false, MP.val [(.slice A3 l.length c2)] (l : List Item)), (false, MP.val [(.slice A bill.length c)] (bill : List Item))] w := H.let [true] [true] [] [0, 1]
      refine tkSg (i := 5) (bs' := [true, true, true, true, true, true, false, false, false, false, false, false, false]) [] rfl rfl rfl rfl rfl (by decide) hf (by kernel_rfl) (by kernel_rfl) hS (fun w H => rq_loadBN hf H TF.la119 0 rfl rfl rfl rfl) rfl fun a hf => ?_
      refine tkPg (i := 6) (bs' := [true, true, true, true, true, true, true, false, false, false, false, false, false]) rfl rfl rfl rfl rfl (by decide) hf (by kernel_rfl) (fun _ => hS) (fun w => pOp_ok (tb := tab) tabOk hf rfl) rfl fun a hf => ?_
      refine tkPg (i := 7) (bs' := [true, true, true, true, true, true, true, true, false, false, false, false, false]) rfl rfl rfl rfl rfl (by decide) hf (by kernel_rfl) (fun _ => hS) (fun w => pOp_ok (tb := tab) tabOk hf rfl) rfl fun a hf => ?_
      obtain ⟨e2, he2, hF⟩ := bind_some hF
      obtain ⟨p2, o2, cs2, hx2, hr2, H⟩ := pre_iaddr H Try.underlying53 TF.sz119 1 rfl he2
      refine tkPg (i := 8) (bs' := [true, true, true, true, true, true, true, true, true, false, false, false, false]) rfl rfl rfl rfl rfl (by decide) hf (by kernel_rfl) (fun _ => hS) (fun w => rq_iaddrE hf rfl rfl rfl hx2 w) rfl fun a hf => ?_
      obtain rfl := Item_cells hr2
      refine str (fun w => Mem ⟨w0, []⟩ S [⟨b', 119, [(.int .i64 x1.Kind), (.int .i64 x1.Node), (.int .i64 x1.Count)]⟩] [⟨.sh true, 119, A4, c3, (l2 : List Item)⟩] [] [(false, MP.cells ⟨p2, o2, none⟩ [(.int .i64 e2.Kind), (.int .i64 e2.Node), (.int .i64 e2.Count)]), (false, MP.val [(.slice A3 l.length c2)] (l : List Item)), (false, MP.val [(.slice A bill.length c)] (bill : List Item))] w) (fun w H => H.let [true] [true] [] [1, 2]) ?_
      have hS : Mem ⟨w0, []⟩ S [⟨b', 119, [(.int .i64 x1.Kind), (.int .i64 x1.Node), (.int .i64 x1.Count)]⟩] [⟨.sh true, 119, A4, c3, (l2 : List Item)⟩] [] [(false, MP.cells ⟨p2, o2, none⟩ [(.int .i64 e2.Kind), (.int .i64 e2.Node), (.int .i64 e2.Count)]), (false, MP.val [(.slice A3 l.length c2)] (l : List Item)), (false, MP.val [(.slice A bill.length c)] (bill : List Item))] w := H.let [true] [true] [] [0, 1, 2]
      refine tkSg (i := 9) (bs' := [true, true, true, true, true, true, true, true, true, true, false, false, false]) [] rfl rfl rfl rfl rfl (by decide) hf (by kernel_rfl) (by kernel_rfl) hS (fun w H => rq_loadIN hf H TF.la119 0 0 rfl rfl rfl rfl) rfl fun a hf => ?_
      obtain ⟨y2, hy2, hF⟩ := bind_some hF
      refine on1g (i := 10) (bs' := [true, true, true, true, true, true, true, true, true, true, true, false, false]) (by kernel_rfl) rfl rfl rfl rfl hf rfl (op_call hf TF.cl154 rfl (by decide) (spec_l19Before_ok (S := fun _ => True) Item_mkv Item_mkv hy2) fun v2 w a hp2 hf => ?_)
      obtain ⟨hb2, hp2⟩ := hp2
      obtain rfl := VR_bool hp2
      have H := H.keep hb2
      have hS : Mem ⟨w0, []⟩ S [⟨b', 119, [(.int .i64 x1.Kind), (.int .i64 x1.Node), (.int .i64 x1.Count)]⟩] [⟨.sh true, 119, A4, c3, (l2 : List Item)⟩] [] [(false, MP.cells ⟨p2, o2, none⟩ [(.int .i64 e2.Kind), (.int .i64 e2.Node), (.int .i64 e2.Count)]), (false, MP.val [(.slice A3 l.length c2)] (l : List Item)), (false, MP.val [(.slice A bill.length c)] (bill : List Item))] w := H.let [true] [true] [] [0, 1, 2]
      refine ⟨fun _ => hS, ?_⟩
      refine tkPg (i := 11) (bs' := [true, true, true, true, true, true, true, true, true, true, true, true, false]) rfl rfl rfl rfl rfl (by decide) hf (by kernel_rfl) (fun _ => hS) (fun w => pOp_ok (tb := tab) tabOk hf rfl) rfl fun a hf => ?_
      refine tkP (i := 12) (bs' := [true, true, true, true, true, true, true, true, true, true, true, true, true]) rfl rfl rfl (by decide) hf (by kernel_rfl) (fun _ => hS) (fun w => pOp_ok (tb := tab) tabOk hf rfl) rfl fun a hf => ?_
      refine dn (by kernel_rfl) ?_
      have hf := hf.prune [0, 3, 5, 6, 42] rfl
      refine then_n ?_
      refine (Bool.eq_false_or_eq_true (!y2)).elim (fun hc5 => ?_) (fun hc5 => ?_)
      · rw [if_pos hc5] at hF
        refine cd_t hf rfl hc5 ?_
        refine sq ?_
        refine drawn [9] (bs := [false, false, false, false, false, false, false, false, false, false]) (fuel := 10) (Checked.mixed Try.checked) rfl rfl fun w hb => ?_
        have H := H.keep hb
        refine tkP (i := 0) (bs' := [true, false, false, false, false, false, false, false, false, false]) rfl rfl rfl (by decide) hf (by kernel_rfl) (fun _ => trivial) (fun w => pOp_ok (tb := tab) tabOk hf rfl) rfl fun a hf => ?_
        refine str (fun w => Mem ⟨w0, []⟩ S [⟨b', 119, [(.int .i64 x1.Kind), (.int .i64 x1.Node), (.int .i64 x1.Count)]⟩] [⟨.sh true, 119, A4, c3, (l2 : List Item)⟩] [] [(false, MP.cells ⟨p2, o2, none⟩ [(.int .i64 e2.Kind), (.int .i64 e2.Node), (.int .i64 e2.Count)]), (false, MP.val [(.slice A3 l.length c2)] (l : List Item)), (false, MP.val [(.slice A bill.length c)] (bill : List Item))] w) (fun w H => trivial) ?_
        have hS : Mem ⟨w0, []⟩ S [⟨b', 119, [(.int .i64 x1.Kind), (.int .i64 x1.Node), (.int .i64 x1.Count)]⟩] [⟨.sh true, 119, A4, c3, (l2 : List Item)⟩] [] [(false, MP.cells ⟨p2, o2, none⟩ [(.int .i64 e2.Kind), (.int .i64 e2.Node), (.int .i64 e2.Count)]), (false, MP.val [(.slice A3 l.length c2)] (l : List Item)), (false, MP.val [(.slice A bill.length c)] (bill : List Item))] w := H.let [true] [true] [] [0, 1, 2]
        refine tkS (i := 1) (bs' := [true, true, false, false, false, false, false, false, false, false]) [1, 7, 8, 9] rfl rfl rfl (by decide) hf (by kernel_rfl) (by kernel_rfl) hS (fun w H => rq_loadB hf H TF.ls3 0 rfl rfl rfl) rfl fun a hf => ?_
        refine tkP (i := 2) (bs' := [true, true, true, false, false, false, false, false, false, false]) rfl rfl rfl (by decide) hf (by kernel_rfl) (fun _ => hS) (fun w => pOp_ok (tb := tab) tabOk hf rfl) rfl fun a hf => ?_
        refine tkP (i := 3) (bs' := [true, true, true, true, false, false, false, false, false, false]) rfl rfl rfl (by decide) hf (by kernel_rfl) (fun _ => hS) (fun w => pOp_ok (tb := tab) tabOk hf rfl) rfl fun a hf => ?_
        obtain ⟨e3, he3, hF⟩ := bind_some hF
        obtain ⟨p3, o3, cs3, hx3, hr3, H⟩ := pre_iaddr H Try.underlying53 TF.sz119 2 rfl he3
        refine tkP (i := 4) (bs' := [true, true, true, true, true, false, false, false, false, false]) rfl rfl rfl (by decide) hf (by kernel_rfl) (fun _ => hS) (fun w => rq_iaddrE hf rfl rfl rfl hx3 w) rfl fun a hf => ?_
        obtain rfl := Item_cells hr3
        refine tkP (i := 5) (bs' := [true, true, true, true, true, true, false, false, false, false]) rfl rfl rfl (by decide) hf (by kernel_rfl) (fun _ => hS) (fun w => pOp_ok (tb := tab) tabOk hf rfl) rfl fun a hf => ?_
        refine str (fun w => Mem ⟨w0, []⟩ S [⟨b', 119, [(.int .i64 x1.Kind), (.int .i64 x1.Node), (.int .i64 x1.Count)]⟩] [⟨.sh true, 119, A4, c3, (l2 : List Item)⟩] [] [(false, MP.cells ⟨p3, o3, none⟩ [(.int .i64 e3.Kind), (.int .i64 e3.Node), (.int .i64 e3.Count)]), (false, MP.cells ⟨p2, o2, none⟩ [(.int .i64 e2.Kind), (.int .i64 e2.Node), (.int .i64 e2.Count)]), (false, MP.val [(.slice A3 l.length c2)] (l : List Item)), (false, MP.val [(.slice A bill.length c)] (bill : List Item))] w) (fun w H => H.let [true] [true] [] [1, 2, 3]) ?_
        have hS : Mem ⟨w0, []⟩ S [⟨b', 119, [(.int .i64 x1.Kind), (.int .i64 x1.Node), (.int .i64 x1.Count)]⟩] [⟨.sh true, 119, A4, c3, (l2 : List Item)⟩] [] [(false, MP.cells ⟨p3, o3, none⟩ [(.int .i64 e3.Kind), (.int .i64 e3.Node), (.int .i64 e3.Count)]), (false, MP.cells ⟨p2, o2, none⟩ [(.int .i64 e2.Kind), (.int .i64 e2.Node), (.int .i64 e2.Count)]), (false, MP.val [(.slice A3 l.length c2)] (l : List Item)), (false, MP.val [(.slice A bill.length c)] (bill : List Item))] w := H.let [true] [true] [] [0, 1, 2, 3]
        refine tkS (i := 6) (bs' := [true, true, true, true, true, true, true, false, false, false]) [6, 7, 8, 9] rfl rfl rfl (by decide) hf (by kernel_rfl) (by kernel_rfl) hS (fun w H => rq_loadI hf H TF.ls3 0 2 rfl rfl rfl) rfl fun a hf => ?_
        refine tkP (i := 7) (bs' := [true, true, true, true, true, true, true, true, false, false]) rfl rfl rfl (by decide) hf (by kernel_rfl) (fun _ => hS) (fun w => pOp_ok (tb := tab) tabOk hf rfl) rfl fun a hf => ?_
        refine tkP (i := 8) (bs' := [true, true, true, true, true, true, true, true, true, false]) rfl rfl rfl (by decide) hf (by kernel_rfl) (fun _ => hS) (fun w => pOp_ok (tb := tab) tabOk hf rfl) rfl fun a hf => ?_
        refine on1 (i := 9) (bs' := [true, true, true, true, true, true, true, true, true, true]) (by kernel_rfl) rfl rfl rfl (op_storeB hf H 0 TF.sz3 rfl rfl rfl rfl rfl rfl (nle rfl) fun w H => ?_)
        refine ⟨fun h => absurd h (by decide), ?_⟩
        refine dn (by kernel_rfl) ?_
        refine then_n ?_
        refine reg ?_
        refine pRun_ok (tb := tab) (n := 62) tabOk 3 _ _ hf rfl rfl fun a hf => ?_
        refine wl_end ?_
        refine then_n ?_
        refine sq ?_
        refine drawn [] (bs := [false, false, false, false, false, false, false, false, false]) (fuel := 9) (Checked.mixed Try.checked) rfl rfl fun w hb => ?_
        have H := H.keep hb
        refine tkP (i := 0) (bs' := [true, false, false, false, false, false, false, false, false]) rfl rfl rfl (by decide) hf (by kernel_rfl) (fun _ => trivial) (fun w => pOp_ok (tb := tab) tabOk hf rfl) rfl fun a hf => ?_
        refine str (fun w => Mem ⟨w0, []⟩ S [⟨b', 119, [(.int .i64 x1.Kind), (.int .i64 x1.Node), (.int .i64 (w64 (x1.Count + e3.Count)))]⟩] [] [] [(false, MP.cells ⟨p3, o3, none⟩ [(.int .i64 e3.Kind), (.int .i64 e3.Node), (.int .i64 e3.Count)]), (false, MP.cells ⟨p2, o2, none⟩ [(.int .i64 e2.Kind), (.int .i64 e2.Node), (.int .i64 e2.Count)]), (false, MP.val [(.slice A3 l.length c2)] (l : List Item)), (false, MP.val [(.slice A bill.length c)] (bill : List Item))] w) (fun w H => trivial) ?_
        have hS : Mem ⟨w0, []⟩ S [⟨b', 119, [(.int .i64 x1.Kind), (.int .i64 x1.Node), (.int .i64 (w64 (x1.Count + e3.Count)))]⟩] [] [] [(false, MP.cells ⟨p3, o3, none⟩ [(.int .i64 e3.Kind), (.int .i64 e3.Node), (.int .i64 e3.Count)]), (false, MP.cells ⟨p2, o2, none⟩ [(.int .i64 e2.Kind), (.int .i64 e2.Node), (.int .i64 e2.Count)]), (false, MP.val [(.slice A3 l.length c2)] (l : List Item)), (false, MP.val [(.slice A bill.length c)] (bill : List Item))] w := H.let [true] [false] [] [0, 1, 2, 3]
        refine tkS (i := 1) (bs' := [true, true, false, false, false, false, false, false, false]) [] rfl rfl rfl (by decide) hf (by kernel_rfl) (by kernel_rfl) hS (fun w H => rq_loadBN hf H TF.la119 0 rfl rfl rfl rfl) rfl fun a hf => ?_
        refine tkP (i := 4) (bs' := [true, true, false, false, true, false, false, false, false]) rfl rfl rfl (by decide) hf (by kernel_rfl) (fun _ => hS) (fun w => pOp_ok (tb := tab) tabOk hf rfl) rfl fun a hf => ?_
        refine tkP (i := 5) (bs' := [true, true, false, false, true, true, false, false, false]) rfl rfl rfl (by decide) hf (by kernel_rfl) (fun _ => hS) (fun w => pOp_ok (tb := tab) tabOk hf rfl) rfl fun a hf => ?_
        obtain ⟨l3, hl3, hF⟩ := bind_some hF
        obtain ⟨A5, c4, hx4, H⟩ := pre_slice H Try.underlying53 TF.sz119 3 (lov := some (.int .i64 (w64 (out' + 1)))) (hiv := none) (.inr rfl) (.inl ⟨rfl, rfl⟩) rfl hl3
        refine tkP (i := 6) (bs' := [true, true, false, false, true, true, true, false, false]) rfl rfl rfl (by decide) hf (by kernel_rfl) (fun _ => hS) (fun w => rq_sliceE hf rfl rfl rfl hx4 w) rfl fun a hf => ?_
        refine on1 (i := 2) (bs' := [true, true, true, false, true, true, true, false, false]) (by kernel_rfl) rfl rfl rfl (op_bslice hf H (.sh true) rfl 119 ([({ Kind := x1.Kind, Node := x1.Node, Count := w64 (x1.Count + e3.Count) } : Item)] : List Item) [(.int .i64 x1.Kind), (.int .i64 x1.Node), (.int .i64 (w64 (x1.Count + e3.Count)))] rfl (fun w => by kernel_rfl) rfl (by decide) rfl trivial (el1 (y := ({ Kind := x1.Kind, Node := x1.Node, Count := w64 (x1.Count + e3.Count) } : Item)) (Item_mk (x := ({ Kind := x1.Kind, Node := x1.Node, Count := w64 (x1.Count + e3.Count) } : Item)))) (by decide) fun A6 a w hf H => ?_)
        have hS : Mem ⟨w0, []⟩ S [⟨b', 119, [(.int .i64 x1.Kind), (.int .i64 x1.Node), (.int .i64 (w64 (x1.Count + e3.Count)))]⟩] [] [] [(false, MP.cells ⟨p3, o3, none⟩ [(.int .i64 e3.Kind), (.int .i64 e3.Node), (.int .i64 e3.Count)]), (false, MP.cells ⟨p2, o2, none⟩ [(.int .i64 e2.Kind), (.int .i64 e2.Node), (.int .i64 e2.Count)]), (false, MP.val [(.slice A3 l.length c2)] (l : List Item)), (false, MP.val [(.slice A bill.length c)] (bill : List Item))] w := H.let [true] [false, false] [] [1, 2, 3, 4]
        refine ⟨fun _ => hS, ?_⟩
        obtain ⟨l4, hl4, hF⟩ := bind_some hF
        refine on1 (i := 3) (bs' := [true, true, true, true, true, true, true, false, false]) (by kernel_rfl) rfl rfl rfl (op_appR hf H Try.underlying53 TF.ai119 rfl (by decide) 1 0 rfl rfl rfl rfl (.inr rfl) hl4 (by decide) fun A7 c5 a w hf H => ?_)
        have hS : Mem ⟨w0, []⟩ S [⟨b', 119, [(.int .i64 x1.Kind), (.int .i64 x1.Node), (.int .i64 (w64 (x1.Count + e3.Count)))]⟩] [] [] [(false, MP.cells ⟨p3, o3, none⟩ [(.int .i64 e3.Kind), (.int .i64 e3.Node), (.int .i64 e3.Count)]), (false, MP.cells ⟨p2, o2, none⟩ [(.int .i64 e2.Kind), (.int .i64 e2.Node), (.int .i64 e2.Count)]), (false, MP.val [(.slice A3 l.length c2)] (l : List Item)), (false, MP.val [(.slice A bill.length c)] (bill : List Item))] w := H.let [true] [false, false] [] [1, 2, 3, 4]
        refine ⟨fun _ => hS, ?_⟩
        obtain ⟨l5, hl5, hF⟩ := bind_some hF
        have H := H.rowWeak 1 rfl
        refine on1 (i := 7) (bs' := [true, true, true, true, true, true, true, true, false]) (by kernel_rfl) rfl rfl rfl (op_appI hf H Try.underlying53 TF.ai119 rfl (by decide) 1 0 rfl rfl rfl rfl (.inl rfl) hl5 (by decide) fun A8 c6 a w hf H => ?_)
        have H := H.rowOwn 1 rfl rfl
        have H := H.rowSh 1 rfl
        have hS : Mem ⟨w0, []⟩ S [⟨b', 119, [(.int .i64 x1.Kind), (.int .i64 x1.Node), (.int .i64 (w64 (x1.Count + e3.Count)))]⟩] [] [] [(false, MP.cells ⟨p3, o3, none⟩ [(.int .i64 e3.Kind), (.int .i64 e3.Node), (.int .i64 e3.Count)]), (false, MP.cells ⟨p2, o2, none⟩ [(.int .i64 e2.Kind), (.int .i64 e2.Node), (.int .i64 e2.Count)]), (false, MP.val [(.slice A3 l.length c2)] (l : List Item)), (false, MP.val [(.slice A bill.length c)] (bill : List Item))] w := H.let [true] [false, false] [] [1, 2, 3, 4]
        refine ⟨fun _ => hS, ?_⟩
        refine tkP (i := 8) (bs' := [true, true, true, true, true, true, true, true, true]) rfl rfl rfl (by decide) hf (by kernel_rfl) (fun _ => hS) (fun w => pOp_ok (tb := tab) tabOk hf rfl) rfl fun a hf => ?_
        refine dn (by kernel_rfl) ?_
        have hf := hf.prune [4] rfl
        refine then_n ?_
        refine wp_ret (?_)
        have H := H.freeze 1 rfl
        obtain rfl := Option.some.inj hF
        refine ret_1 (fn := Try.f125) (r := .tmp 4) hf rfl (rv_tmp hf rfl) ?_
        exact ⟨_, rfl, H.bel, (mk_list (rep_endw (α := List Item) (H.get 0 rfl)))⟩
      · rw [if_neg (nt hc5)] at hF
        refine cd_f hf rfl hc5 ?_
        refine wp_skip ?_
        refine then_n ?_
        refine sq ?_
        refine drawn [] (bs := [false, false, false, false, false, false, false, false, false]) (fuel := 9) (Checked.mixed Try.checked) rfl rfl fun w hb => ?_
        have H := H.keep hb
        refine tkP (i := 0) (bs' := [true, false, false, false, false, false, false, false, false]) rfl rfl rfl (by decide) hf (by kernel_rfl) (fun _ => trivial) (fun w => pOp_ok (tb := tab) tabOk hf rfl) rfl fun a hf => ?_
        refine str (fun w => Mem ⟨w0, []⟩ S [⟨b', 119, [(.int .i64 x1.Kind), (.int .i64 x1.Node), (.int .i64 x1.Count)]⟩] [] [] [(false, MP.cells ⟨p2, o2, none⟩ [(.int .i64 e2.Kind), (.int .i64 e2.Node), (.int .i64 e2.Count)]), (false, MP.val [(.slice A3 l.length c2)] (l : List Item)), (false, MP.val [(.slice A bill.length c)] (bill : List Item))] w) (fun w H => trivial) ?_
        have hS : Mem ⟨w0, []⟩ S [⟨b', 119, [(.int .i64 x1.Kind), (.int .i64 x1.Node), (.int .i64 x1.Count)]⟩] [] [] [(false, MP.cells ⟨p2, o2, none⟩ [(.int .i64 e2.Kind), (.int .i64 e2.Node), (.int .i64 e2.Count)]), (false, MP.val [(.slice A3 l.length c2)] (l : List Item)), (false, MP.val [(.slice A bill.length c)] (bill : List Item))] w := H.let [true] [false] [] [0, 1, 2]
        refine tkS (i := 1) (bs' := [true, true, false, false, false, false, false, false, false]) [] rfl rfl rfl (by decide) hf (by kernel_rfl) (by kernel_rfl) hS (fun w H => rq_loadBN hf H TF.la119 0 rfl rfl rfl rfl) rfl fun a hf => ?_
        refine tkP (i := 4) (bs' := [true, true, false, false, true, false, false, false, false]) rfl rfl rfl (by decide) hf (by kernel_rfl) (fun _ => hS) (fun w => pOp_ok (tb := tab) tabOk hf rfl) rfl fun a hf => ?_
        refine tkP (i := 5) (bs' := [true, true, false, false, true, true, false, false, false]) rfl rfl rfl (by decide) hf (by kernel_rfl) (fun _ => hS) (fun w => pOp_ok (tb := tab) tabOk hf rfl) rfl fun a hf => ?_
        obtain ⟨l6, hl6, hF⟩ := bind_some hF
        obtain ⟨A9, c7, hx5, H⟩ := pre_slice H Try.underlying53 TF.sz119 2 (lov := some (.int .i64 out')) (hiv := none) (.inr rfl) (.inl ⟨rfl, rfl⟩) rfl hl6
        refine tkP (i := 6) (bs' := [true, true, false, false, true, true, true, false, false]) rfl rfl rfl (by decide) hf (by kernel_rfl) (fun _ => hS) (fun w => rq_sliceE hf rfl rfl rfl hx5 w) rfl fun a hf => ?_
        refine on1 (i := 2) (bs' := [true, true, true, false, true, true, true, false, false]) (by kernel_rfl) rfl rfl rfl (op_bslice hf H (.sh true) rfl 119 ([x1] : List Item) [(.int .i64 x1.Kind), (.int .i64 x1.Node), (.int .i64 x1.Count)] rfl (fun w => by kernel_rfl) rfl (by decide) rfl trivial (el1 (y := x1) (Item_mk (x := x1))) (by decide) fun A10 a w hf H => ?_)
        have hS : Mem ⟨w0, []⟩ S [⟨b', 119, [(.int .i64 x1.Kind), (.int .i64 x1.Node), (.int .i64 x1.Count)]⟩] [] [] [(false, MP.cells ⟨p2, o2, none⟩ [(.int .i64 e2.Kind), (.int .i64 e2.Node), (.int .i64 e2.Count)]), (false, MP.val [(.slice A3 l.length c2)] (l : List Item)), (false, MP.val [(.slice A bill.length c)] (bill : List Item))] w := H.let [true] [false, false] [] [1, 2, 3]
        refine ⟨fun _ => hS, ?_⟩
        obtain ⟨l7, hl7, hF⟩ := bind_some hF
        refine on1 (i := 3) (bs' := [true, true, true, true, true, true, true, false, false]) (by kernel_rfl) rfl rfl rfl (op_appR hf H Try.underlying53 TF.ai119 rfl (by decide) 1 0 rfl rfl rfl rfl (.inr rfl) hl7 (by decide) fun A11 c8 a w hf H => ?_)
        have hS : Mem ⟨w0, []⟩ S [⟨b', 119, [(.int .i64 x1.Kind), (.int .i64 x1.Node), (.int .i64 x1.Count)]⟩] [] [] [(false, MP.cells ⟨p2, o2, none⟩ [(.int .i64 e2.Kind), (.int .i64 e2.Node), (.int .i64 e2.Count)]), (false, MP.val [(.slice A3 l.length c2)] (l : List Item)), (false, MP.val [(.slice A bill.length c)] (bill : List Item))] w := H.let [true] [false, false] [] [1, 2, 3]
        refine ⟨fun _ => hS, ?_⟩
        obtain ⟨l8, hl8, hF⟩ := bind_some hF
        have H := H.rowWeak 1 rfl
        refine on1 (i := 7) (bs' := [true, true, true, true, true, true, true, true, false]) (by kernel_rfl) rfl rfl rfl (op_appI hf H Try.underlying53 TF.ai119 rfl (by decide) 1 0 rfl rfl rfl rfl (.inl rfl) hl8 (by decide) fun A12 c9 a w hf H => ?_)
        have H := H.rowOwn 1 rfl rfl
        have H := H.rowSh 1 rfl
        have hS : Mem ⟨w0, []⟩ S [⟨b', 119, [(.int .i64 x1.Kind), (.int .i64 x1.Node), (.int .i64 x1.Count)]⟩] [] [] [(false, MP.cells ⟨p2, o2, none⟩ [(.int .i64 e2.Kind), (.int .i64 e2.Node), (.int .i64 e2.Count)]), (false, MP.val [(.slice A3 l.length c2)] (l : List Item)), (false, MP.val [(.slice A bill.length c)] (bill : List Item))] w := H.let [true] [false, false] [] [1, 2, 3]
        refine ⟨fun _ => hS, ?_⟩
        refine tkP (i := 8) (bs' := [true, true, true, true, true, true, true, true, true]) rfl rfl rfl (by decide) hf (by kernel_rfl) (fun _ => hS) (fun w => pOp_ok (tb := tab) tabOk hf rfl) rfl fun a hf => ?_
        refine dn (by kernel_rfl) ?_
        have hf := hf.prune [4] rfl
        refine then_n ?_
        refine wp_ret (?_)
        have H := H.freeze 1 rfl
        obtain rfl := Option.some.inj hF
        refine ret_1 (fn := Try.f125) (r := .tmp 4) hf rfl (rv_tmp hf rfl) ?_
        exact ⟨_, rfl, H.bel, (mk_list (rep_endw (α := List Item) (H.get 0 rfl)))⟩
    · rw [if_neg (nt hc4)] at hF
      have hf := hf.lit 34 rfl hc4
      refine tkU (i := 5) (bs' := [true, true, true, true, true, true, false, false, false, false, false, false, false]) rfl rfl rfl rfl rfl rfl (by decide) hf (by kernel_rfl) (fun _ => trivial) rfl fun a hf => ?_
      refine tkU (i := 6) (bs' := [true, true, true, true, true, true, true, false, false, false, false, false, false]) rfl rfl rfl rfl rfl rfl (by decide) hf (by kernel_rfl) (fun _ => trivial) rfl fun a hf => ?_
      refine tkU (i := 7) (bs' := [true, true, true, true, true, true, true, true, false, false, false, false, false]) rfl rfl rfl rfl rfl rfl (by decide) hf (by kernel_rfl) (fun _ => trivial) rfl fun a hf => ?_
      refine tkU (i := 8) (bs' := [true, true, true, true, true, true, true, true, true, false, false, false, false]) rfl rfl rfl rfl rfl rfl (by decide) hf (by kernel_rfl) (fun _ => trivial) rfl fun a hf => ?_
      refine tkU (i := 9) (bs' := [true, true, true, true, true, true, true, true, true, true, false, false, false]) rfl rfl rfl rfl rfl rfl (by decide) hf (by kernel_rfl) (fun _ => trivial) rfl fun a hf => ?_
      refine tkU (i := 10) (bs' := [true, true, true, true, true, true, true, true, true, true, true, false, false]) rfl rfl rfl rfl rfl rfl (by decide) hf (by kernel_rfl) (fun _ => trivial) rfl fun a hf => ?_
      refine tkU (i := 11) (bs' := [true, true, true, true, true, true, true, true, true, true, true, true, false]) rfl rfl rfl rfl rfl rfl (by decide) hf (by kernel_rfl) (fun _ => trivial) rfl fun a hf => ?_
      refine tkP (i := 12) (bs' := [true, true, true, true, true, true, true, true, true, true, true, true, true]) rfl rfl rfl (by decide) hf (by kernel_rfl) (fun _ => trivial) (fun w => pOp_ok (tb := tab) tabOk hf rfl) rfl fun a hf => ?_
      refine dn (by kernel_rfl) ?_
      have hf := hf.prune [0, 3, 5, 6, 42] rfl
      refine then_n ?_
      refine cd_f hf rfl rfl ?_
      refine wp_skip ?_
      refine then_n ?_
      refine sq ?_
      refine drawn [] (bs := [false, false, false, false, false, false, false, false, false]) (fuel := 9) (Checked.mixed Try.checked) rfl rfl fun w hb => ?_
      have H := H.keep hb
      refine tkP (i := 0) (bs' := [true, false, false, false, false, false, false, false, false]) rfl rfl rfl (by decide) hf (by kernel_rfl) (fun _ => trivial) (fun w => pOp_ok (tb := tab) tabOk hf rfl) rfl fun a hf => ?_
      refine str (fun w => Mem ⟨w0, []⟩ S [⟨b', 119, [(.int .i64 x1.Kind), (.int .i64 x1.Node), (.int .i64 x1.Count)]⟩] [] [] [(false, MP.val [(.slice A3 l.length c2)] (l : List Item)), (false, MP.val [(.slice A bill.length c)] (bill : List Item))] w) (fun w H => trivial) ?_
      have hS : Mem ⟨w0, []⟩ S [⟨b', 119, [(.int .i64 x1.Kind), (.int .i64 x1.Node), (.int .i64 x1.Count)]⟩] [] [] [(false, MP.val [(.slice A3 l.length c2)] (l : List Item)), (false, MP.val [(.slice A bill.length c)] (bill : List Item))] w := H.let [true] [false] [] [0, 1]
      refine tkS (i := 1) (bs' := [true, true, false, false, false, false, false, false, false]) [] rfl rfl rfl (by decide) hf (by kernel_rfl) (by kernel_rfl) hS (fun w H => rq_loadBN hf H TF.la119 0 rfl rfl rfl rfl) rfl fun a hf => ?_
      refine tkP (i := 4) (bs' := [true, true, false, false, true, false, false, false, false]) rfl rfl rfl (by decide) hf (by kernel_rfl) (fun _ => hS) (fun w => pOp_ok (tb := tab) tabOk hf rfl) rfl fun a hf => ?_
      refine tkP (i := 5) (bs' := [true, true, false, false, true, true, false, false, false]) rfl rfl rfl (by decide) hf (by kernel_rfl) (fun _ => hS) (fun w => pOp_ok (tb := tab) tabOk hf rfl) rfl fun a hf => ?_
      obtain ⟨l9, hl9, hF⟩ := bind_some hF
      obtain ⟨A13, c10, hx6, H⟩ := pre_slice H Try.underlying53 TF.sz119 1 (lov := some (.int .i64 out')) (hiv := none) (.inr rfl) (.inl ⟨rfl, rfl⟩) rfl hl9
      refine tkP (i := 6) (bs' := [true, true, false, false, true, true, true, false, false]) rfl rfl rfl (by decide) hf (by kernel_rfl) (fun _ => hS) (fun w => rq_sliceE hf rfl rfl rfl hx6 w) rfl fun a hf => ?_
      refine on1 (i := 2) (bs' := [true, true, true, false, true, true, true, false, false]) (by kernel_rfl) rfl rfl rfl (op_bslice hf H (.sh true) rfl 119 ([x1] : List Item) [(.int .i64 x1.Kind), (.int .i64 x1.Node), (.int .i64 x1.Count)] rfl (fun w => by kernel_rfl) rfl (by decide) rfl trivial (el1 (y := x1) (Item_mk (x := x1))) (by decide) fun A14 a w hf H => ?_)
      have hS : Mem ⟨w0, []⟩ S [⟨b', 119, [(.int .i64 x1.Kind), (.int .i64 x1.Node), (.int .i64 x1.Count)]⟩] [] [] [(false, MP.val [(.slice A3 l.length c2)] (l : List Item)), (false, MP.val [(.slice A bill.length c)] (bill : List Item))] w := H.let [true] [false, false] [] [1, 2]
      refine ⟨fun _ => hS, ?_⟩
      obtain ⟨l10, hl10, hF⟩ := bind_some hF
      refine on1 (i := 3) (bs' := [true, true, true, true, true, true, true, false, false]) (by kernel_rfl) rfl rfl rfl (op_appR hf H Try.underlying53 TF.ai119 rfl (by decide) 1 0 rfl rfl rfl rfl (.inr rfl) hl10 (by decide) fun A15 c11 a w hf H => ?_)
      have hS : Mem ⟨w0, []⟩ S [⟨b', 119, [(.int .i64 x1.Kind), (.int .i64 x1.Node), (.int .i64 x1.Count)]⟩] [] [] [(false, MP.val [(.slice A3 l.length c2)] (l : List Item)), (false, MP.val [(.slice A bill.length c)] (bill : List Item))] w := H.let [true] [false, false] [] [1, 2]
      refine ⟨fun _ => hS, ?_⟩
      obtain ⟨l11, hl11, hF⟩ := bind_some hF
      have H := H.rowWeak 1 rfl
      refine on1 (i := 7) (bs' := [true, true, true, true, true, true, true, true, false]) (by kernel_rfl) rfl rfl rfl (op_appI hf H Try.underlying53 TF.ai119 rfl (by decide) 1 0 rfl rfl rfl rfl (.inl rfl) hl11 (by decide) fun A16 c12 a w hf H => ?_)
      have H := H.rowOwn 1 rfl rfl
      have H := H.rowSh 1 rfl
      have hS : Mem ⟨w0, []⟩ S [⟨b', 119, [(.int .i64 x1.Kind), (.int .i64 x1.Node), (.int .i64 x1.Count)]⟩] [] [] [(false, MP.val [(.slice A3 l.length c2)] (l : List Item)), (false, MP.val [(.slice A bill.length c)] (bill : List Item))] w := H.let [true] [false, false] [] [1, 2]
      refine ⟨fun _ => hS, ?_⟩
      refine tkP (i := 8) (bs' := [true, true, true, true, true, true, true, true, true]) rfl rfl rfl (by decide) hf (by kernel_rfl) (fun _ => hS) (fun w => pOp_ok (tb := tab) tabOk hf rfl) rfl fun a hf => ?_
      refine dn (by kernel_rfl) ?_
      have hf := hf.prune [4] rfl
      refine then_n ?_
      refine wp_ret (?_)
      have H := H.freeze 1 rfl
      obtain rfl := Option.some.inj hF
      refine ret_1 (fn := Try.f125) (r := .tmp 4) hf rfl (rv_tmp hf rfl) ?_
      exact ⟨_, rfl, H.bel, (mk_list (rep_endw (α := List Item) (H.get 0 rfl)))⟩

/- loop.example/g00897/spec.MergeBills -/
set_option maxHeartbeats 1000000 in
theorem spec_MergeBills_ok {fu : Nat} {w0 : World} {S : Nat → Prop} {v0_ : Value} {v1_ : Value} {a' : List Item} {b' : List Item} {r : List Item × Bool} (h0 : VR w0 S v0_ a') (h1 : VR w0 S v1_ b') (hF : spec_MergeBills fu a' b' = some r) :
    Calls Try.prog 63 [v0_, v1_].toArray w0 fun e w' => ∃ v, e = .returned v ∧ (Below w0.heap.size w0 w' ∧ ∃ u0 u1, v = .tuple #[u0, u1] ∧ VR w' (St ⟨w0, []⟩ S [] [] [] true) u0 r.1 ∧ VR w' (St ⟨w0, []⟩ S [] [] [] true) u1 r.2) := by
  obtain ⟨A, c, rfl, hl⟩ := VR_list h0
  obtain ⟨A2, c2, rfl, hl2⟩ := VR_list h1
  have H := Mem.start ⟨w0, []⟩ S
  have H := H.pushArg (MP.val [(.slice A a'.length c)] a') hl
  have H := H.pushArg (MP.val [(.slice A2 b'.length c2)] b') hl2
  refine enter Try.func63 rfl rfl (nle rfl) rfl fun a hf => ?_
  rw [spec_MergeBills] at hF
  refine sq ?_
  refine reg ?_
  refine pRun_ok (tb := tab) (n := 37) tabOk 2 _ _ hf rfl rfl fun a hf => ?_
  refine wl_end ?_
  refine then_n ?_
  refine sq ?_
  refine sq ?_
  obtain ⟨c3, hGc3, hF⟩ := bind_some hF
  refine mid (fun a w => Fr a 37 [(0, (.slice A a'.length c)), (1, (.slice A2 b'.length c2)), (15, (.bool c3))] ∧ Mem ⟨w0, []⟩ S [] [] [] [(false, MP.val [(.slice A2 b'.length c2)] (b' : List Item)), (false, MP.val [(.slice A a'.length c)] (a' : List Item))] w) ?_ ?_
  · refine reg ?_
    refine pRun_ok (tb := tab) (n := 37) tabOk 1 _ _ hf rfl rfl fun a hf => ?_
    obtain ⟨y, hy, hGc3⟩ := bind_some hGc3
    refine wl0 rfl (op_call hf TF.cl112 rfl (by decide) (spec_l19Bill_ok (S := fun _ => True) (mk_list (rep_true (α := List Item) (H.get 1 rfl))) hy) fun v w a hp hf => ?_)
    obtain ⟨hb, hp⟩ := hp
    obtain rfl := VR_bool hp
    have H := H.keep hb
    refine pRun_ok (tb := tab) (n := 37) tabOk 2 _ _ hf rfl rfl fun a hf => ?_
    refine (Bool.eq_false_or_eq_true (!y)).elim (fun hc => ?_) (fun hc => ?_)
    · rw [if_pos hc] at hGc3
      have hf := hf.lit 11 rfl hc
      refine pRun_ok (tb := tab) (n := 37) tabOk 4 _ _ hf rfl rfl fun a hf => ?_
      obtain rfl := Option.some.inj hGc3
      have hf := hf.prune [0, 1, 15] rfl
      have H := H.let [] [] [] [0, 1]
      exact wl_end ⟨hf, H⟩
    · rw [if_neg (nt hc)] at hGc3
      have hf := hf.lit 11 rfl hc
      refine pRun_ok (tb := tab) (n := 37) tabOk 1 _ _ hf rfl rfl fun a hf => ?_
      obtain ⟨y2, hy2, hGc3⟩ := bind_some hGc3
      refine wlg hf rfl rfl rfl (op_call hf TF.cl112 rfl (by decide) (spec_l19Bill_ok (S := fun _ => True) (mk_list (rep_true (α := List Item) (H.get 0 rfl))) hy2) fun v2 w a hp2 hf => ?_)
      obtain ⟨hb2, hp2⟩ := hp2
      obtain rfl := VR_bool hp2
      have H := H.keep hb2
      refine pRun_ok (tb := tab) (n := 37) tabOk 2 _ _ hf rfl rfl fun a hf => ?_
      obtain rfl := Option.some.inj hGc3
      have hf := hf.prune [0, 1, 15] rfl
      have H := H.let [] [] [] [0, 1]
      exact wl_end ⟨hf, H⟩
  rintro a w ⟨hf, H⟩
  refine then_n ?_
  refine (Bool.eq_false_or_eq_true (c3)).elim (fun hc2 => ?_) (fun hc2 => ?_)
  · rw [if_pos hc2] at hF
    refine cd_t hf rfl hc2 ?_
    refine sq ?_
    refine reg ?_
    refine wl0 rfl (op_bslice hf H (.sh true) rfl 119 ([] : List Item) [] rfl (fun w => by kernel_rfl) rfl (by decide) rfl trivial el0 (by decide) fun A3 a w hf H => ?_)
    refine pRun_ok (tb := tab) (n := 37) tabOk 2 _ _ hf rfl rfl fun a hf => ?_
    refine wl_end ?_
    refine then_n ?_
    refine wp_ret (then_r (?_))
    have H := H.freeze 0 rfl
    obtain rfl := Option.some.inj hF
    refine ret_2 (fn := Try.f63) (r := .tmp 4) (s := .tmp 5) hf rfl (rv_tmp hf rfl) (rv_tmp hf rfl) ?_
    exact ⟨_, rfl, H.bel, _, _, rfl, (mk_list (rep_end (α := List Item) (H.get 0 rfl))), mk_bool⟩
  · rw [if_neg (nt hc2)] at hF
    refine cd_f hf rfl hc2 ?_
    refine wp_skip ?_
    refine then_n ?_
    refine sq ?_
    refine reg ?_
    refine wl0 rfl (op_bslice hf H (.sh true) rfl 119 ([] : List Item) [] rfl (fun w => by kernel_rfl) rfl (by decide) rfl trivial el0 (by decide) fun A4 a w hf H => ?_)
    refine pRun_ok (tb := tab) (n := 37) tabOk 1 _ _ hf rfl rfl fun a hf => ?_
    obtain ⟨l, hl, hF⟩ := bind_some hF
    have H := H.rowWeak 0 rfl
    refine wl0 rfl (op_appI hf H Try.underlying53 TF.ai119 rfl (by decide) 0 1 rfl rfl rfl rfl (.inl rfl) hl (by decide) fun A5 c4 a w hf H => ?_)
    have H := H.rowOwn 0 rfl rfl
    have H := H.rowSh 0 rfl
    refine pRun_ok (tb := tab) (n := 37) tabOk 1 _ _ hf rfl rfl fun a hf => ?_
    refine wl_end ?_
    refine then_n ?_
    refine sq ?_
    refine sq ?_
    refine reg ?_
    refine pRun_ok (tb := tab) (n := 37) tabOk 1 _ _ hf rfl rfl fun a hf => ?_
    refine wl_end ?_
    refine then_n ?_
    have H := H.freeze 0 rfl
    obtain ⟨out2, hB1, hF⟩ := bind_some hF
    have hf := hf.prune [1, 6, 7] rfl
    have H := H.let [] [] [] [0, 1]
    have hI : (fun (s : List Item × Int) (a : Act) (w : World) => match s with | (out', i) => ∃ (A6 : Option Addr) (c5 : Nat), Fr a 37 [(1, (.slice A2 b'.length c2)), (6, (.slice A6 out'.length c5)), (7, (.int .i64 i))] ∧ Mem ⟨w0, []⟩ S [] [] [] [(true, MP.val [(.slice A6 out'.length c5)] (out' : List Item)), (false, MP.val [(.slice A2 b'.length c2)] (b' : List Item))] w) (l, 0) a w := ⟨A5, c4, hf, H⟩
    refine mid (fun a w => ∃ s : List Item × Int, out2 = s ∧ (fun (s : List Item × Int) (a : Act) (w : World) => match s with | (out', i) => ∃ (A6 : Option Addr) (c5 : Nat), Fr a 37 [(1, (.slice A2 b'.length c2)), (6, (.slice A6 out'.length c5)), (7, (.int .i64 i))] ∧ Mem ⟨w0, []⟩ S [] [] [] [(true, MP.val [(.slice A6 out'.length c5)] (out' : List Item)), (false, MP.val [(.slice A2 b'.length c2)] (b' : List Item))] w) s a w) ?_ ?_
    · refine wp_block ?_
      refine loop_rule (fun k (s : List Item × Int) => spec_MergeBills_L1 fu b' k s.1 s.2 = some out2) (fun (s : List Item × Int) (a : Act) (w : World) => match s with | (out', i) => ∃ (A6 : Option Addr) (c5 : Nat), Fr a 37 [(1, (.slice A2 b'.length c2)), (6, (.slice A6 out'.length c5)), (7, (.int .i64 i))] ∧ Mem ⟨w0, []⟩ S [] [] [] [(true, MP.val [(.slice A6 out'.length c5)] (out' : List Item)), (false, MP.val [(.slice A2 b'.length c2)] (b' : List Item))] w) (fun s h => by cases h) ?_ fu (l, 0) a w hB1 hI
      rintro fk ⟨out', i⟩ a w hR1 hI
      replace hR1 : spec_MergeBills_L1 fu b' (fk + 1) out' i = some out2 := hR1
      rw [spec_MergeBills_L1] at hR1
      obtain ⟨A6, c5, hf, H⟩ := hI
      refine sq ?_
      refine sq ?_
      refine reg ?_
      refine pRun_ok (tb := tab) (n := 37) tabOk 4 _ _ hf rfl rfl fun a hf => ?_
      refine wl_end ?_
      refine then_n ?_
      refine (Bool.eq_false_or_eq_true (decide (i < (b'.length : Int)))).elim (fun hc3 => ?_) (fun hc3 => ?_)
      · rw [if_pos hc3] at hR1
        refine cd_t hf rfl hc3 ?_
        refine wp_skip ?_
        refine then_n ?_
        refine sq ?_
        refine wp_block ?_
        refine reg ?_
        refine pRun_ok (tb := tab) (n := 37) tabOk 3 _ _ hf rfl rfl fun a hf => ?_
        obtain ⟨e, he, hR1⟩ := bind_some hR1
        refine wl0 rfl (op_iaddr hf H Try.underlying53 TF.sz119 1 rfl rfl rfl he (by decide) fun p o cs a hf hr H => ?_)
        obtain rfl := Item_cells hr
        refine wl0 rfl (op_q hf (rq_loadIN hf H TF.la119 0 0 rfl rfl rfl rfl) rfl (by decide) fun a hf => ?_)
        obtain ⟨y3, hy3, hR1⟩ := bind_some hR1
        refine wl0 rfl (op_call hf TF.cl125 rfl (by decide) (spec_l19Add_ok (mk_list (H.get 1 rfl)) Item_mkv hy3) fun v3 w a hp3 hf => ?_)
        obtain ⟨hb3, hp3⟩ := hp3
        obtain ⟨A7, c6, rfl, hl3⟩ := VR_list hp3
        replace hl3 := H.res (f := MP.val [(.slice A7 y3.length c6)] y3) hl3
        have H := H.keep hb3
        have H := H.push (true, MP.val [(.slice A7 y3.length c6)] y3) hl3
        refine pRun_ok (tb := tab) (n := 37) tabOk 1 _ _ hf rfl rfl fun a hf => ?_
        refine wl_end ?_
        refine blk_n ?_
        refine then_n ?_
        refine reg ?_
        refine pRun_ok (tb := tab) (n := 37) tabOk 3 _ _ hf rfl rfl fun a hf => ?_
        refine wl_end ?_
        have hf := hf.prune [1, 6, 7] rfl
        have H := H.let [] [] [] [0, 3]
        exact then_n ⟨(y3, w64 (i + 1)), hR1, A7, c6, hf, H⟩
      · rw [if_neg (nt hc3)] at hR1
        refine cd_f hf rfl hc3 ?_
        refine wp_exit (then_x (then_x (blk_e (?_))))
        have hf := hf.prune [1, 6, 7] rfl
        have H := H.let [] [] [] [0, 1]
        exact ⟨(out', i), (Option.some.inj hR1).symm, A6, c5, hf, H⟩
    rintro a w ⟨⟨out3, i2⟩, rfl, A8, c7, hf, H⟩
    dsimp only at hF
    refine then_n ?_
    refine sq ?_
    refine sq ?_
    refine reg ?_
    refine pRun_ok (tb := tab) (n := 37) tabOk 1 _ _ hf rfl rfl fun a hf => ?_
    obtain ⟨y4, hy4, hF⟩ := bind_some hF
    refine wl0 rfl (op_call hf TF.cl112 rfl (by decide) (spec_l19Bill_ok (S := fun _ => True) (mk_list (rep_true (α := List Item) (H.get 0 rfl))) hy4) fun v4 w a hp4 hf => ?_)
    obtain ⟨hb4, hp4⟩ := hp4
    obtain rfl := VR_bool hp4
    have H := H.keep hb4
    refine pRun_ok (tb := tab) (n := 37) tabOk 1 _ _ hf rfl rfl fun a hf => ?_
    refine wl_end ?_
    refine then_n ?_
    refine (Bool.eq_false_or_eq_true (!y4)).elim (fun hc4 => ?_) (fun hc4 => ?_)
    · rw [if_pos hc4] at hF
      refine cd_t hf rfl hc4 ?_
      refine sq ?_
      refine reg ?_
      refine wl0 rfl (op_bslice hf H (.sh true) rfl 119 ([] : List Item) [] rfl (fun w => by kernel_rfl) rfl (by decide) rfl trivial el0 (by decide) fun A9 a w hf H => ?_)
      refine pRun_ok (tb := tab) (n := 37) tabOk 2 _ _ hf rfl rfl fun a hf => ?_
      refine wl_end ?_
      refine then_n ?_
      refine wp_ret (then_r (?_))
      have H := H.freeze 0 rfl
      obtain rfl := Option.some.inj hF
      refine ret_2 (fn := Try.f63) (r := .tmp 4) (s := .tmp 5) hf rfl (rv_tmp hf rfl) (rv_tmp hf rfl) ?_
      exact ⟨_, rfl, H.bel, _, _, rfl, (mk_list (rep_end (α := List Item) (H.get 0 rfl))), mk_bool⟩
    · rw [if_neg (nt hc4)] at hF
      refine cd_f hf rfl hc4 ?_
      refine wp_skip ?_
      refine then_n ?_
      refine sq ?_
      refine reg ?_
      refine pRun_ok (tb := tab) (n := 37) tabOk 3 _ _ hf rfl rfl fun a hf => ?_
      refine wl_end ?_
      refine then_n ?_
      refine wp_ret (?_)
      obtain rfl := Option.some.inj hF
      refine ret_2 (fn := Try.f63) (r := .tmp 4) (s := .tmp 5) hf rfl (rv_tmp hf rfl) (rv_tmp hf rfl) ?_
      exact ⟨_, rfl, H.bel, _, _, rfl, (mk_list (rep_end (α := List Item) (H.get 0 rfl))), mk_bool⟩

/- loop.example/g00897/impl.within -/
set_option maxHeartbeats 1000000 in
theorem impl_within_ok {fu : Nat} {w0 : World} {S : Nat → Prop} {v0_ : Value} {v1_ : Value} {v2_ : Value} {n' : Int} {low : Int} {high : Int} {r : Bool} (h0 : VR w0 S v0_ n') (h1 : VR w0 S v1_ low) (h2 : VR w0 S v2_ high) (hF : impl_within fu n' low high = some r) :
    Calls Try.prog 98 [v0_, v1_, v2_].toArray w0 fun e w' => ∃ v, e = .returned v ∧ (Below w0.heap.size w0 w' ∧ VR w' (St ⟨w0, []⟩ S [] [] [] true) v r) := by
  obtain rfl := VR_int h0
  obtain rfl := VR_int h1
  obtain rfl := VR_int h2
  have H := Mem.start ⟨w0, []⟩ S
  refine enter Try.func98 rfl rfl (nle rfl) rfl fun a hf => ?_
  rw [impl_within] at hF
  refine sq ?_
  refine reg ?_
  refine pRun_ok (tb := tab) (n := 15) tabOk 1 _ _ hf rfl rfl fun a hf => ?_
  refine wl_end ?_
  refine then_n ?_
  refine sq ?_
  obtain ⟨c, hGc, hF⟩ := bind_some hF
  refine mid (fun a w => Fr a 15 [(6, (.bool c))] ∧ Mem ⟨w0, []⟩ S [] [] [] [] w) ?_ ?_
  · refine reg ?_
    refine pRun_ok (tb := tab) (n := 15) tabOk 4 _ _ hf rfl rfl fun a hf => ?_
    refine (Bool.eq_false_or_eq_true (decide (low ≤ n'))).elim (fun hc => ?_) (fun hc => ?_)
    · rw [if_pos hc] at hGc
      have hf := hf.lit 10 rfl hc
      refine pRun_ok (tb := tab) (n := 15) tabOk 5 _ _ hf rfl rfl fun a hf => ?_
      obtain rfl := Option.some.inj hGc
      have hf := hf.prune [6] rfl
      have H := H.let [] [] [] []
      exact wl_end ⟨hf, H⟩
    · rw [if_neg (nt hc)] at hGc
      have hf := hf.lit 10 rfl hc
      refine pRun_ok (tb := tab) (n := 15) tabOk 5 _ _ hf rfl rfl fun a hf => ?_
      obtain rfl := Option.some.inj hGc
      have hf := hf.prune [6] rfl
      have H := H.let [] [] [] []
      exact wl_end ⟨hf, H⟩
  rintro a w ⟨hf, H⟩
  refine then_n ?_
  refine wp_ret (?_)
  obtain rfl := Option.some.inj hF
  refine ret_1 (fn := Try.f98) (r := .tmp 6) hf rfl (rv_tmp hf rfl) ?_
  exact ⟨_, rfl, H.bel, mk_bool⟩

/- loop.example/g00897/impl.isBill -/
set_option maxHeartbeats 1000000 in
theorem impl_isBill_ok {fu : Nat} {w0 : World} {S : Nat → Prop} {v0_ : Value} {bill : List Item} {r : Bool} (h0 : VR w0 S v0_ bill) (hF : impl_isBill fu bill = some r) :
    Calls Try.prog 114 [v0_].toArray w0 fun e w' => ∃ v, e = .returned v ∧ (Below w0.heap.size w0 w' ∧ VR w' (St ⟨w0, []⟩ S [] [] [] true) v r) := by
  obtain ⟨A, c, rfl, hl⟩ := VR_list h0
  have H := Mem.start ⟨w0, []⟩ S
  have H := H.pushArg (MP.val [(.slice A bill.length c)] bill) hl
  refine enter Try.func114 rfl rfl (nle rfl) rfl fun a hf => ?_
  rw [impl_isBill] at hF
  refine sq ?_
  refine reg ?_
  refine pRun_ok (tb := tab) (n := 57) tabOk 1 _ _ hf rfl rfl fun a hf => ?_
  refine wl_end ?_
  refine then_n ?_
  refine sq ?_
  refine sq ?_
  refine reg ?_
  refine pRun_ok (tb := tab) (n := 57) tabOk 3 _ _ hf rfl rfl fun a hf => ?_
  refine wl_end ?_
  refine then_n ?_
  obtain ⟨out', hB1, hF⟩ := bind_some hF
  have hf := hf.prune [0, 5, 6, 7] rfl
  have H := H.let [] [] [] [0]
  have hI : (fun (s : Int) (a : Act) (w : World) => match s with | i => Fr a 57 [(0, (.slice A bill.length c)), (5, (.slice A bill.length c)), (6, (.int .i64 (bill.length : Int))), (7, (.int .i64 i))] ∧ Mem ⟨w0, []⟩ S [] [] [] [(false, MP.val [(.slice A bill.length c)] (bill : List Item))] w) 0 a w0 := ⟨hf, H⟩
  refine mid (fun a w => ∃ s : Int, out' = Out.next s ∧ (fun (s : Int) (a : Act) (w : World) => match s with | i => Fr a 57 [(0, (.slice A bill.length c)), (5, (.slice A bill.length c)), (6, (.int .i64 (bill.length : Int))), (7, (.int .i64 i))] ∧ Mem ⟨w0, []⟩ S [] [] [] [(false, MP.val [(.slice A bill.length c)] (bill : List Item))] w) s a w) ?_ ?_
  · refine wp_block ?_
    refine loop_rule (fun k (s : Int) => impl_isBill_L1 fu bill k s = some out') (fun (s : Int) (a : Act) (w : World) => match s with | i => Fr a 57 [(0, (.slice A bill.length c)), (5, (.slice A bill.length c)), (6, (.int .i64 (bill.length : Int))), (7, (.int .i64 i))] ∧ Mem ⟨w0, []⟩ S [] [] [] [(false, MP.val [(.slice A bill.length c)] (bill : List Item))] w) (fun s h => by cases h) ?_ fu 0 a w0 hB1 hI
    rintro fk i a w hR1 hI
    replace hR1 : impl_isBill_L1 fu bill (fk + 1) i = some out' := hR1
    rw [impl_isBill_L1] at hR1
    obtain ⟨hf, H⟩ := hI
    refine sq ?_
    refine reg ?_
    refine pRun_ok (tb := tab) (n := 57) tabOk 1 _ _ hf rfl rfl fun a hf => ?_
    refine wl_end ?_
    refine then_n ?_
    refine sq ?_
    refine (Bool.eq_false_or_eq_true (decide (i < (bill.length : Int)))).elim (fun hc => ?_) (fun hc => ?_)
    · rw [if_pos hc] at hR1
      refine cd_t hf rfl hc ?_
      refine wp_skip ?_
      refine then_n ?_
      refine sq ?_
      refine wp_block ?_
      refine sq ?_
      refine reg ?_
      refine pRun_ok (tb := tab) (n := 57) tabOk 1 _ _ hf rfl rfl fun a hf => ?_
      obtain ⟨e, he, hR1⟩ := bind_some hR1
      refine wl0 rfl (op_iaddr hf H Try.underlying53 TF.sz119 0 rfl rfl rfl he (by decide) fun p o cs a hf hr H => ?_)
      obtain rfl := Item_cells hr
      refine wl0 rfl (op_q hf (rq_loadIN hf H TF.la119 0 0 rfl rfl rfl rfl) rfl (by decide) fun a hf => ?_)
      refine wl0 rfl (op_alloc hf H TF.zv119 rfl (by decide) fun b' a w hf H => ?_)
      refine pRun_ok (tb := tab) (n := 57) tabOk 1 _ _ hf rfl rfl fun a hf => ?_
      refine wl0 rfl (op_storeB hf H 0 TF.sz119 rfl rfl rfl rfl rfl rfl (nle rfl) fun w H => ?_)
      refine wl_end ?_
      refine then_n ?_
      refine sq ?_
      refine sq ?_
      obtain ⟨c2, hGc2, hR1⟩ := bind_some hR1
      refine mid (fun a w => Fr a 57 [(0, (.slice A bill.length c)), (3, (.int .i64 i)), (4, (.pointer (some ⟨b', 0, none⟩))), (5, (.slice A bill.length c)), (6, (.int .i64 (bill.length : Int))), (7, (.int .i64 i)), (27, (.bool c2))] ∧ Mem ⟨w0, []⟩ S [⟨b', 119, [(.int .i64 e.Kind), (.int .i64 e.Node), (.int .i64 e.Count)]⟩] [] [] [(false, MP.val [(.slice A bill.length c)] (bill : List Item))] w) ?_ ?_
      · refine reg ?_
        refine pRun_ok (tb := tab) (n := 57) tabOk 1 _ _ hf rfl rfl fun a hf => ?_
        refine wl0 rfl (op_q hf (rq_loadB hf H TF.ls3 0 rfl rfl rfl) rfl (by decide) fun a hf => ?_)
        obtain ⟨y, hy, hGc2⟩ := bind_some hGc2
        refine wl0 rfl (op_call hf TF.cl98 rfl (by decide) (impl_within_ok (S := fun _ => True) mk_int mk_int mk_int hy) fun v w a hp hf => ?_)
        obtain ⟨hb, hp⟩ := hp
        obtain rfl := VR_bool hp
        have H := H.keep hb
        refine pRun_ok (tb := tab) (n := 57) tabOk 2 _ _ hf rfl rfl fun a hf => ?_
        refine (Bool.eq_false_or_eq_true (!y)).elim (fun hc2 => ?_) (fun hc2 => ?_)
        · rw [if_pos hc2] at hGc2
          have hf := hf.lit 16 rfl hc2
          refine pRun_ok (tb := tab) (n := 57) tabOk 11 _ _ hf rfl rfl fun a hf => ?_
          obtain rfl := Option.some.inj hGc2
          have hf := hf.prune [0, 3, 4, 5, 6, 7, 27] rfl
          have H := H.let [true] [] [] [1]
          exact wl_end ⟨hf, H⟩
        · rw [if_neg (nt hc2)] at hGc2
          have hf := hf.lit 16 rfl hc2
          refine pRun_ok (tb := tab) (n := 57) tabOk 1 _ _ hf rfl rfl fun a hf => ?_
          refine wlg hf rfl rfl rfl (op_q hf (rq_loadB hf H TF.ls3 0 rfl rfl rfl) rfl (by decide) fun a hf => ?_)
          obtain ⟨y2, hy2, hGc2⟩ := bind_some hGc2
          refine wlg hf rfl rfl rfl (op_call hf TF.cl98 rfl (by decide) (impl_within_ok (S := fun _ => True) mk_int mk_int mk_int hy2) fun v2 w a hp2 hf => ?_)
          obtain ⟨hb2, hp2⟩ := hp2
          obtain rfl := VR_bool hp2
          have H := H.keep hb2
          refine pRun_ok (tb := tab) (n := 57) tabOk 3 _ _ hf rfl rfl fun a hf => ?_
          refine (Bool.eq_false_or_eq_true (!y2)).elim (fun hc3 => ?_) (fun hc3 => ?_)
          · rw [if_pos hc3] at hGc2
            have hf := hf.lit 22 rfl hc3
            refine pRun_ok (tb := tab) (n := 57) tabOk 5 _ _ hf rfl rfl fun a hf => ?_
            obtain rfl := Option.some.inj hGc2
            have hf := hf.prune [0, 3, 4, 5, 6, 7, 27] rfl
            have H := H.let [true] [] [] [1]
            exact wl_end ⟨hf, H⟩
          · rw [if_neg (nt hc3)] at hGc2
            have hf := hf.lit 22 rfl hc3
            refine pRun_ok (tb := tab) (n := 57) tabOk 1 _ _ hf rfl rfl fun a hf => ?_
            refine wlg hf rfl rfl rfl (op_q hf (rq_loadB hf H TF.ls3 0 rfl rfl rfl) rfl (by decide) fun a hf => ?_)
            obtain ⟨y3, hy3, hGc2⟩ := bind_some hGc2
            refine wlg hf rfl rfl rfl (op_call hf TF.cl98 rfl (by decide) (impl_within_ok (S := fun _ => True) mk_int mk_int mk_int hy3) fun v3 w a hp3 hf => ?_)
            obtain ⟨hb3, hp3⟩ := hp3
            obtain rfl := VR_bool hp3
            have H := H.keep hb3
            refine pRun_ok (tb := tab) (n := 57) tabOk 2 _ _ hf rfl rfl fun a hf => ?_
            obtain rfl := Option.some.inj hGc2
            have hf := hf.prune [0, 3, 4, 5, 6, 7, 27] rfl
            have H := H.let [true] [] [] [1]
            exact wl_end ⟨hf, H⟩
      rintro a w ⟨hf, H⟩
      refine then_n ?_
      refine (Bool.eq_false_or_eq_true (c2)).elim (fun hc4 => ?_) (fun hc4 => ?_)
      · rw [if_pos hc4] at hR1
        refine cd_t hf rfl hc4 ?_
        refine sq ?_
        refine reg ?_
        refine pRun_ok (tb := tab) (n := 57) tabOk 1 _ _ hf rfl rfl fun a hf => ?_
        refine wl_end ?_
        refine then_n ?_
        refine wp_ret (then_r (blk_r (then_r (then_r (blk_r (then_r (then_r (?_))))))))
        obtain rfl := Option.some.inj hR1
        replace hF := on_ret hF
        obtain rfl := Option.some.inj hF
        refine ret_1 (fn := Try.f114) (r := .tmp 2) hf rfl (rv_tmp hf rfl) ?_
        exact ⟨_, rfl, H.bel, mk_bool⟩
      · rw [if_neg (nt hc4)] at hR1
        refine cd_f hf rfl hc4 ?_
        refine wp_skip ?_
        refine then_n ?_
        refine sq ?_
        refine drawn [] (bs := [false, false, false, false, false, false, false, false, false, false, false, false, false, false, false, false, false, false, false, false, false, false, false, false, false]) (fuel := 25) (Checked.mixed Try.checked) rfl rfl fun w hb => ?_
        have H := H.keep hb
        refine tkP (i := 0) (bs' := [true, false, false, false, false, false, false, false, false, false, false, false, false, false, false, false, false, false, false, false, false, false, false, false, false]) rfl rfl rfl (by decide) hf (by kernel_rfl) (fun _ => trivial) (fun w => pOp_ok (tb := tab) tabOk hf rfl) rfl fun a hf => ?_
        refine tkP (i := 1) (bs' := [true, true, false, false, false, false, false, false, false, false, false, false, false, false, false, false, false, false, false, false, false, false, false, false, false]) rfl rfl rfl (by decide) hf (by kernel_rfl) (fun _ => trivial) (fun w => pOp_ok (tb := tab) tabOk hf rfl) rfl fun a hf => ?_
        refine tkP (i := 2) (bs' := [true, true, true, false, false, false, false, false, false, false, false, false, false, false, false, false, false, false, false, false, false, false, false, false, false]) rfl rfl rfl (by decide) hf (by kernel_rfl) (fun _ => trivial) (fun w => pOp_ok (tb := tab) tabOk hf rfl) rfl fun a hf => ?_
        refine (Bool.eq_false_or_eq_true (decide (i > 0))).elim (fun hc5 => ?_) (fun hc5 => ?_)
        · rw [if_pos hc5] at hR1
          have hf := hf.lit 30 rfl hc5
          refine tkPg (i := 3) (bs' := [true, true, true, true, false, false, false, false, false, false, false, false, false, false, false, false, false, false, false, false, false, false, false, false, false]) rfl rfl rfl rfl rfl (by decide) hf (by kernel_rfl) (fun _ => trivial) (fun w => pOp_ok (tb := tab) tabOk hf rfl) rfl fun a hf => ?_
          refine tkPg (i := 4) (bs' := [true, true, true, true, true, false, false, false, false, false, false, false, false, false, false, false, false, false, false, false, false, false, false, false, false]) rfl rfl rfl rfl rfl (by decide) hf (by kernel_rfl) (fun _ => trivial) (fun w => pOp_ok (tb := tab) tabOk hf rfl) rfl fun a hf => ?_
          refine tkPg (i := 5) (bs' := [true, true, true, true, true, true, false, false, false, false, false, false, false, false, false, false, false, false, false, false, false, false, false, false, false]) rfl rfl rfl rfl rfl (by decide) hf (by kernel_rfl) (fun _ => trivial) (fun w => pOp_ok (tb := tab) tabOk hf rfl) rfl fun a hf => ?_
          obtain ⟨e2, he2, hR1⟩ := bind_some hR1
          obtain ⟨p2, o2, cs2, hx, hr2, H⟩ := pre_iaddr H Try.underlying53 TF.sz119 0 rfl he2
          refine tkPg (i := 6) (bs' := [true, true, true, true, true, true, true, false, false, false, false, false, false, false, false, false, false, false, false, false, false, false, false, false, false]) rfl rfl rfl rfl rfl (by decide) hf (by kernel_rfl) (fun _ => trivial) (fun w => rq_iaddrE hf rfl rfl rfl hx w) rfl fun a hf => ?_
          obtain rfl := Item_cells hr2
          refine tkPg (i := 7) (bs' := [true, true, true, true, true, true, true, true, false, false, false, false, false, false, false, false, false, false, false, false, false, false, false, false, false]) rfl rfl rfl rfl rfl (by decide) hf (by kernel_rfl) (fun _ => trivial) (fun w => pOp_ok (tb := tab) tabOk hf rfl) rfl fun a hf => ?_
          refine str (fun w => Mem ⟨w0, []⟩ S [⟨b', 119, [(.int .i64 e.Kind), (.int .i64 e.Node), (.int .i64 e.Count)]⟩] [] [] [(false, MP.cells ⟨p2, o2, none⟩ [(.int .i64 e2.Kind), (.int .i64 e2.Node), (.int .i64 e2.Count)]), (false, MP.val [(.slice A bill.length c)] (bill : List Item))] w) (fun w H => trivial) ?_
          have hS : Mem ⟨w0, []⟩ S [⟨b', 119, [(.int .i64 e.Kind), (.int .i64 e.Node), (.int .i64 e.Count)]⟩] [] [] [(false, MP.cells ⟨p2, o2, none⟩ [(.int .i64 e2.Kind), (.int .i64 e2.Node), (.int .i64 e2.Count)]), (false, MP.val [(.slice A bill.length c)] (bill : List Item))] w := H.let [true] [] [] [0, 1]
          refine tkSg (i := 8) (bs' := [true, true, true, true, true, true, true, true, true, false, false, false, false, false, false, false, false, false, false, false, false, false, false, false, false]) [] rfl rfl rfl rfl rfl (by decide) hf (by kernel_rfl) (by kernel_rfl) hS (fun w H => rq_loadI hf H TF.ls3 0 0 rfl rfl rfl) rfl fun a hf => ?_
          refine tkPg (i := 9) (bs' := [true, true, true, true, true, true, true, true, true, true, false, false, false, false, false, false, false, false, false, false, false, false, false, false, false]) rfl rfl rfl rfl rfl (by decide) hf (by kernel_rfl) (fun _ => hS) (fun w => pOp_ok (tb := tab) tabOk hf rfl) rfl fun a hf => ?_
          refine tkPg (i := 10) (bs' := [true, true, true, true, true, true, true, true, true, true, true, false, false, false, false, false, false, false, false, false, false, false, false, false, false]) rfl rfl rfl rfl rfl (by decide) hf (by kernel_rfl) (fun _ => hS) (fun w => pOp_ok (tb := tab) tabOk hf rfl) rfl fun a hf => ?_
          refine tkPg (i := 11) (bs' := [true, true, true, true, true, true, true, true, true, true, true, true, false, false, false, false, false, false, false, false, false, false, false, false, false]) rfl rfl rfl rfl rfl (by decide) hf (by kernel_rfl) (fun _ => hS) (fun w => pOp_ok (tb := tab) tabOk hf rfl) rfl fun a hf => ?_
          refine tkPg (i := 12) (bs' := [true, true, true, true, true, true, true, true, true, true, true, true, true, false, false, false, false, false, false, false, false, false, false, false, false]) rfl rfl rfl rfl rfl (by decide) hf (by kernel_rfl) (fun _ => hS) (fun w => pOp_ok (tb := tab) tabOk hf rfl) rfl fun a hf => ?_
          obtain ⟨e3, he3, hR1⟩ := bind_some hR1
          obtain ⟨p3, o3, cs3, hx2, hr3, H⟩ := pre_iaddr H Try.underlying53 TF.sz119 1 rfl he3
          refine tkPg (i := 13) (bs' := [true, true, true, true, true, true, true, true, true, true, true, true, true, true, false, false, false, false, false, false, false, false, false, false, false]) rfl rfl rfl rfl rfl (by decide) hf (by kernel_rfl) (fun _ => hS) (fun w => rq_iaddrE hf rfl rfl rfl hx2 w) rfl fun a hf => ?_
          obtain rfl := Item_cells hr3
          refine tkPg (i := 14) (bs' := [true, true, true, true, true, true, true, true, true, true, true, true, true, true, true, false, false, false, false, false, false, false, false, false, false]) rfl rfl rfl rfl rfl (by decide) hf (by kernel_rfl) (fun _ => hS) (fun w => pOp_ok (tb := tab) tabOk hf rfl) rfl fun a hf => ?_
          refine str (fun w => Mem ⟨w0, []⟩ S [⟨b', 119, [(.int .i64 e.Kind), (.int .i64 e.Node), (.int .i64 e.Count)]⟩] [] [] [(false, MP.cells ⟨p3, o3, none⟩ [(.int .i64 e3.Kind), (.int .i64 e3.Node), (.int .i64 e3.Count)]), (false, MP.cells ⟨p2, o2, none⟩ [(.int .i64 e2.Kind), (.int .i64 e2.Node), (.int .i64 e2.Count)]), (false, MP.val [(.slice A bill.length c)] (bill : List Item))] w) (fun w H => H.let [true] [] [] [1, 2]) ?_
          have hS : Mem ⟨w0, []⟩ S [⟨b', 119, [(.int .i64 e.Kind), (.int .i64 e.Node), (.int .i64 e.Count)]⟩] [] [] [(false, MP.cells ⟨p3, o3, none⟩ [(.int .i64 e3.Kind), (.int .i64 e3.Node), (.int .i64 e3.Count)]), (false, MP.cells ⟨p2, o2, none⟩ [(.int .i64 e2.Kind), (.int .i64 e2.Node), (.int .i64 e2.Count)]), (false, MP.val [(.slice A bill.length c)] (bill : List Item))] w := H.let [true] [] [] [0, 1, 2]
          refine tkSg (i := 15) (bs' := [true, true, true, true, true, true, true, true, true, true, true, true, true, true, true, true, false, false, false, false, false, false, false, false, false]) [] rfl rfl rfl rfl rfl (by decide) hf (by kernel_rfl) (by kernel_rfl) hS (fun w H => rq_loadI hf H TF.ls3 0 1 rfl rfl rfl) rfl fun a hf => ?_
          refine tkPg (i := 16) (bs' := [true, true, true, true, true, true, true, true, true, true, true, true, true, true, true, true, true, false, false, false, false, false, false, false, false]) rfl rfl rfl rfl rfl (by decide) hf (by kernel_rfl) (fun _ => hS) (fun w => pOp_ok (tb := tab) tabOk hf rfl) rfl fun a hf => ?_
          refine tkPg (i := 17) (bs' := [true, true, true, true, true, true, true, true, true, true, true, true, true, true, true, true, true, true, false, false, false, false, false, false, false]) rfl rfl rfl rfl rfl (by decide) hf (by kernel_rfl) (fun _ => hS) (fun w => pOp_ok (tb := tab) tabOk hf rfl) rfl fun a hf => ?_
          refine tkSg (i := 18) (bs' := [true, true, true, true, true, true, true, true, true, true, true, true, true, true, true, true, true, true, true, false, false, false, false, false, false]) [] rfl rfl rfl rfl rfl (by decide) hf (by kernel_rfl) (by kernel_rfl) hS (fun w H => rq_loadB hf H TF.ls3 0 rfl rfl rfl) rfl fun a hf => ?_
          refine tkPg (i := 19) (bs' := [true, true, true, true, true, true, true, true, true, true, true, true, true, true, true, true, true, true, true, true, false, false, false, false, false]) rfl rfl rfl rfl rfl (by decide) hf (by kernel_rfl) (fun _ => hS) (fun w => pOp_ok (tb := tab) tabOk hf rfl) rfl fun a hf => ?_
          refine tkPg (i := 20) (bs' := [true, true, true, true, true, true, true, true, true, true, true, true, true, true, true, true, true, true, true, true, true, false, false, false, false]) rfl rfl rfl rfl rfl (by decide) hf (by kernel_rfl) (fun _ => hS) (fun w => pOp_ok (tb := tab) tabOk hf rfl) rfl fun a hf => ?_
          refine tkSg (i := 21) (bs' := [true, true, true, true, true, true, true, true, true, true, true, true, true, true, true, true, true, true, true, true, true, true, false, false, false]) [] rfl rfl rfl rfl rfl (by decide) hf (by kernel_rfl) (by kernel_rfl) hS (fun w H => rq_loadB hf H TF.ls3 0 rfl rfl rfl) rfl fun a hf => ?_
          refine tkPg (i := 22) (bs' := [true, true, true, true, true, true, true, true, true, true, true, true, true, true, true, true, true, true, true, true, true, true, true, false, false]) rfl rfl rfl rfl rfl (by decide) hf (by kernel_rfl) (fun _ => hS) (fun w => pOp_ok (tb := tab) tabOk hf rfl) rfl fun a hf => ?_
          refine tkPg (i := 23) (bs' := [true, true, true, true, true, true, true, true, true, true, true, true, true, true, true, true, true, true, true, true, true, true, true, true, false]) rfl rfl rfl rfl rfl (by decide) hf (by kernel_rfl) (fun _ => hS) (fun w => pOp_ok (tb := tab) tabOk hf rfl) rfl fun a hf => ?_
          refine tkP (i := 24) (bs' := [true, true, true, true, true, true, true, true, true, true, true, true, true, true, true, true, true, true, true, true, true, true, true, true, true]) rfl rfl rfl (by decide) hf (by kernel_rfl) (fun _ => hS) (fun w => pOp_ok (tb := tab) tabOk hf rfl) rfl fun a hf => ?_
          refine dn (by kernel_rfl) ?_
          refine then_n ?_
          refine (Bool.eq_false_or_eq_true (decide ((w64 ((w64 (e2.Kind * 8)) + e3.Node)) ≥ (w64 ((w64 (e.Kind * 8)) + e.Node))))).elim (fun hc6 => ?_) (fun hc6 => ?_)
          · rw [if_pos hc6] at hR1
            refine cd_t hf rfl hc6 ?_
            refine sq ?_
            refine reg ?_
            refine pRun_ok (tb := tab) (n := 57) tabOk 1 _ _ hf rfl rfl fun a hf => ?_
            have hf := hf.prune [2] rfl
            refine wl_end ?_
            refine then_n ?_
            refine wp_ret (blk_r (then_r (then_r (blk_r (then_r (then_r (?_)))))))
            obtain rfl := Option.some.inj hR1
            replace hF := on_ret hF
            obtain rfl := Option.some.inj hF
            refine ret_1 (fn := Try.f114) (r := .tmp 2) hf rfl (rv_tmp hf rfl) ?_
            exact ⟨_, rfl, H.bel, mk_bool⟩
          · rw [if_neg (nt hc6)] at hR1
            refine cd_f hf rfl hc6 ?_
            refine wp_skip ?_
            refine blk_n ?_
            refine then_n ?_
            refine reg ?_
            refine pRun_ok (tb := tab) (n := 57) tabOk 2 _ _ hf rfl rfl fun a hf => ?_
            refine wl_end ?_
            have hf := hf.prune [0, 5, 6, 7] rfl
            have H := H.let [false] [] [] [2]
            exact then_n ⟨w64 (i + 1), hR1, hf, H⟩
        · rw [if_neg (nt hc5)] at hR1
          have hf := hf.lit 30 rfl hc5
          refine tkU (i := 3) (bs' := [true, true, true, true, false, false, false, false, false, false, false, false, false, false, false, false, false, false, false, false, false, false, false, false, false]) rfl rfl rfl rfl rfl rfl (by decide) hf (by kernel_rfl) (fun _ => trivial) rfl fun a hf => ?_
          refine tkU (i := 4) (bs' := [true, true, true, true, true, false, false, false, false, false, false, false, false, false, false, false, false, false, false, false, false, false, false, false, false]) rfl rfl rfl rfl rfl rfl (by decide) hf (by kernel_rfl) (fun _ => trivial) rfl fun a hf => ?_
          refine tkU (i := 5) (bs' := [true, true, true, true, true, true, false, false, false, false, false, false, false, false, false, false, false, false, false, false, false, false, false, false, false]) rfl rfl rfl rfl rfl rfl (by decide) hf (by kernel_rfl) (fun _ => trivial) rfl fun a hf => ?_
          refine tkU (i := 6) (bs' := [true, true, true, true, true, true, true, false, false, false, false, false, false, false, false, false, false, false, false, false, false, false, false, false, false]) rfl rfl rfl rfl rfl rfl (by decide) hf (by kernel_rfl) (fun _ => trivial) rfl fun a hf => ?_
          refine tkU (i := 7) (bs' := [true, true, true, true, true, true, true, true, false, false, false, false, false, false, false, false, false, false, false, false, false, false, false, false, false]) rfl rfl rfl rfl rfl rfl (by decide) hf (by kernel_rfl) (fun _ => trivial) rfl fun a hf => ?_
          refine tkU (i := 8) (bs' := [true, true, true, true, true, true, true, true, true, false, false, false, false, false, false, false, false, false, false, false, false, false, false, false, false]) rfl rfl rfl rfl rfl rfl (by decide) hf (by kernel_rfl) (fun _ => trivial) rfl fun a hf => ?_
          refine tkU (i := 9) (bs' := [true, true, true, true, true, true, true, true, true, true, false, false, false, false, false, false, false, false, false, false, false, false, false, false, false]) rfl rfl rfl rfl rfl rfl (by decide) hf (by kernel_rfl) (fun _ => trivial) rfl fun a hf => ?_
          refine tkU (i := 10) (bs' := [true, true, true, true, true, true, true, true, true, true, true, false, false, false, false, false, false, false, false, false, false, false, false, false, false]) rfl rfl rfl rfl rfl rfl (by decide) hf (by kernel_rfl) (fun _ => trivial) rfl fun a hf => ?_
          refine tkU (i := 11) (bs' := [true, true, true, true, true, true, true, true, true, true, true, true, false, false, false, false, false, false, false, false, false, false, false, false, false]) rfl rfl rfl rfl rfl rfl (by decide) hf (by kernel_rfl) (fun _ => trivial) rfl fun a hf => ?_
          refine tkU (i := 12) (bs' := [true, true, true, true, true, true, true, true, true, true, true, true, true, false, false, false, false, false, false, false, false, false, false, false, false]) rfl rfl rfl rfl rfl rfl (by decide) hf (by kernel_rfl) (fun _ => trivial) rfl fun a hf => ?_
          refine tkU (i := 13) (bs' := [true, true, true, true, true, true, true, true, true, true, true, true, true, true, false, false, false, false, false, false, false, false, false, false, false]) rfl rfl rfl rfl rfl rfl (by decide) hf (by kernel_rfl) (fun _ => trivial) rfl fun a hf => ?_
          refine tkU (i := 14) (bs' := [true, true, true, true, true, true, true, true, true, true, true, true, true, true, true, false, false, false, false, false, false, false, false, false, false]) rfl rfl rfl rfl rfl rfl (by decide) hf (by kernel_rfl) (fun _ => trivial) rfl fun a hf => ?_
          refine tkU (i := 15) (bs' := [true, true, true, true, true, true, true, true, true, true, true, true, true, true, true, true, false, false, false, false, false, false, false, false, false]) rfl rfl rfl rfl rfl rfl (by decide) hf (by kernel_rfl) (fun _ => trivial) rfl fun a hf => ?_
          refine tkU (i := 16) (bs' := [true, true, true, true, true, true, true, true, true, true, true, true, true, true, true, true, true, false, false, false, false, false, false, false, false]) rfl rfl rfl rfl rfl rfl (by decide) hf (by kernel_rfl) (fun _ => trivial) rfl fun a hf => ?_
          refine tkU (i := 17) (bs' := [true, true, true, true, true, true, true, true, true, true, true, true, true, true, true, true, true, true, false, false, false, false, false, false, false]) rfl rfl rfl rfl rfl rfl (by decide) hf (by kernel_rfl) (fun _ => trivial) rfl fun a hf => ?_
          refine tkU (i := 18) (bs' := [true, true, true, true, true, true, true, true, true, true, true, true, true, true, true, true, true, true, true, false, false, false, false, false, false]) rfl rfl rfl rfl rfl rfl (by decide) hf (by kernel_rfl) (fun _ => trivial) rfl fun a hf => ?_
          refine tkU (i := 19) (bs' := [true, true, true, true, true, true, true, true, true, true, true, true, true, true, true, true, true, true, true, true, false, false, false, false, false]) rfl rfl rfl rfl rfl rfl (by decide) hf (by kernel_rfl) (fun _ => trivial) rfl fun a hf => ?_
          refine tkU (i := 20) (bs' := [true, true, true, true, true, true, true, true, true, true, true, true, true, true, true, true, true, true, true, true, true, false, false, false, false]) rfl rfl rfl rfl rfl rfl (by decide) hf (by kernel_rfl) (fun _ => trivial) rfl fun a hf => ?_
          refine tkU (i := 21) (bs' := [true, true, true, true, true, true, true, true, true, true, true, true, true, true, true, true, true, true, true, true, true, true, false, false, false]) rfl rfl rfl rfl rfl rfl (by decide) hf (by kernel_rfl) (fun _ => trivial) rfl fun a hf => ?_
          refine tkU (i := 22) (bs' := [true, true, true, true, true, true, true, true, true, true, true, true, true, true, true, true, true, true, true, true, true, true, true, false, false]) rfl rfl rfl rfl rfl rfl (by decide) hf (by kernel_rfl) (fun _ => trivial) rfl fun a hf => ?_
          refine tkU (i := 23) (bs' := [true, true, true, true, true, true, true, true, true, true, true, true, true, true, true, true, true, true, true, true, true, true, true, true, false]) rfl rfl rfl rfl rfl rfl (by decide) hf (by kernel_rfl) (fun _ => trivial) rfl fun a hf => ?_
          refine tkP (i := 24) (bs' := [true, true, true, true, true, true, true, true, true, true, true, true, true, true, true, true, true, true, true, true, true, true, true, true, true]) rfl rfl rfl (by decide) hf (by kernel_rfl) (fun _ => trivial) (fun w => pOp_ok (tb := tab) tabOk hf rfl) rfl fun a hf => ?_
          refine dn (by kernel_rfl) ?_
          have hf := hf.prune [0, 5, 6, 7, 52] rfl
          refine then_n ?_
          refine cd_f hf rfl rfl ?_
          refine wp_skip ?_
          refine blk_n ?_
          refine then_n ?_
          refine reg ?_
          refine pRun_ok (tb := tab) (n := 57) tabOk 2 _ _ hf rfl rfl fun a hf => ?_
          refine wl_end ?_
          have hf := hf.prune [0, 5, 6, 7] rfl
          have H := H.let [false] [] [] [0]
          exact then_n ⟨w64 (i + 1), hR1, hf, H⟩
    · rw [if_neg (nt hc)] at hR1
      refine cd_f hf rfl hc ?_
      refine wp_exit (then_x (then_x (blk_e (?_))))
      have hf := hf.prune [0, 5, 6, 7] rfl
      have H := H.let [] [] [] [0]
      exact ⟨i, (Option.some.inj hR1).symm, hf, H⟩
  rintro a w ⟨i2, rfl, hf, H⟩
  replace hF := on_next hF
  refine then_n ?_
  refine sq ?_
  refine reg ?_
  refine pRun_ok (tb := tab) (n := 57) tabOk 4 _ _ hf rfl rfl fun a hf => ?_
  refine wl_end ?_
  refine then_n ?_
  refine wp_ret (?_)
  obtain rfl := Option.some.inj hF
  refine ret_1 (fn := Try.f114) (r := .tmp 2) hf rfl (rv_tmp hf rfl) ?_
  exact ⟨_, rfl, H.bel, mk_bool⟩

/- (*loop.example/g00897/impl.tally).add -/
set_option maxHeartbeats 1000000 in
theorem impl_tally_add_ok {fu : Nat} {w0 : World} {S : Nat → Prop} {b0 : Nat} {cs0 : List Value} {v1_ : Value} {v2_ : Value} {t : IA 40} {bill : List Item} {factor : Int} {r : IA 40} (hp0 : w0.heap[b0]? = some (.cells cs0.toArray 130 (0, 0))) (hr0 : GoTy.rep w0 S cs0 t) (hS0 : ¬ S b0) (h1 : VR w0 S v1_ bill) (h2 : VR w0 S v2_ factor) (hF : impl_tally_add fu t bill factor = some r) :
    Calls Try.prog 123 [(.pointer (some ⟨b0, 0, none⟩)), v1_, v2_].toArray w0 fun e w' => ∃ v, e = .returned v ∧ (Chg w0 w' [b0] ∧ ∃ cs', w'.heap[b0]? = some (.cells cs'.toArray 130 (0, 0)) ∧ GoTy.rep w' (St ⟨w0, [b0]⟩ S [⟨b0, 130, cs'⟩] [] [] false) cs' r ∧ v = .tuple #[]) := by
  obtain rfl := hr0
  obtain ⟨A, c, rfl, hl⟩ := VR_list h1
  obtain rfl := VR_int h2
  have H := Mem.startB S hp0
  have H := H.argB (by simpa using hS0) (p := MP.val [(.slice A bill.length c)] bill) hl
  refine enter Try.func123 rfl rfl (nle rfl) rfl fun a hf => ?_
  rw [impl_tally_add] at hF
  refine sq ?_
  refine reg ?_
  refine pRun_ok (tb := tab) (n := 32) tabOk 3 _ _ hf rfl rfl fun a hf => ?_
  refine wl_end ?_
  refine then_n ?_
  obtain ⟨out', hB1, hF⟩ := bind_some hF
  have hf := hf.prune [0, 2, 8, 9, 10] rfl
  have H := H.let [true] [] [] [0]
  have hI : (fun (s : Int × IA 40) (a : Act) (w : World) => match s with | (i, m) => Fr a 32 [(0, (.pointer (some ⟨b0, 0, none⟩))), (2, (.int .i64 factor)), (8, (.slice A bill.length c)), (9, (.int .i64 (bill.length : Int))), (10, (.int .i64 i))] ∧ Mem ⟨w0, [b0]⟩ S [⟨b0, 130, m.cells⟩] [] [] [(false, MP.val [(.slice A bill.length c)] (bill : List Item))] w) (0, t) a w0 := ⟨hf, H⟩
  refine mid (fun a w => ∃ s : Int × IA 40, out' = s ∧ (fun (s : Int × IA 40) (a : Act) (w : World) => match s with | (i, m) => Fr a 32 [(0, (.pointer (some ⟨b0, 0, none⟩))), (2, (.int .i64 factor)), (8, (.slice A bill.length c)), (9, (.int .i64 (bill.length : Int))), (10, (.int .i64 i))] ∧ Mem ⟨w0, [b0]⟩ S [⟨b0, 130, m.cells⟩] [] [] [(false, MP.val [(.slice A bill.length c)] (bill : List Item))] w) s a w) ?_ ?_
  · refine wp_block ?_
    refine loop_rule (fun k (s : Int × IA 40) => impl_tally_add_L1 fu bill factor k s.1 s.2 = some out') (fun (s : Int × IA 40) (a : Act) (w : World) => match s with | (i, m) => Fr a 32 [(0, (.pointer (some ⟨b0, 0, none⟩))), (2, (.int .i64 factor)), (8, (.slice A bill.length c)), (9, (.int .i64 (bill.length : Int))), (10, (.int .i64 i))] ∧ Mem ⟨w0, [b0]⟩ S [⟨b0, 130, m.cells⟩] [] [] [(false, MP.val [(.slice A bill.length c)] (bill : List Item))] w) (fun s h => by cases h) ?_ fu (0, t) a w0 hB1 hI
    rintro fk ⟨i, m⟩ a w hR1 hI
    replace hR1 : impl_tally_add_L1 fu bill factor (fk + 1) i m = some out' := hR1
    rw [impl_tally_add_L1] at hR1
    obtain ⟨hf, H⟩ := hI
    refine sq ?_
    refine reg ?_
    refine pRun_ok (tb := tab) (n := 32) tabOk 1 _ _ hf rfl rfl fun a hf => ?_
    refine wl_end ?_
    refine then_n ?_
    refine sq ?_
    refine (Bool.eq_false_or_eq_true (decide (i < (bill.length : Int)))).elim (fun hc => ?_) (fun hc => ?_)
    · rw [if_pos hc] at hR1
      refine cd_t hf rfl hc ?_
      refine wp_skip ?_
      refine then_n ?_
      refine sq ?_
      refine wp_block ?_
      refine sq ?_
      refine reg ?_
      obtain ⟨e, he, hR1⟩ := bind_some hR1
      refine wl0 rfl (op_iaddr hf H Try.underlying53 TF.sz119 0 rfl rfl rfl he (by decide) fun p o cs a hf hr H => ?_)
      obtain rfl := Item_cells hr
      refine wl0 rfl (op_q hf (rq_loadIN hf H TF.la119 0 0 rfl rfl rfl rfl) rfl (by decide) fun a hf => ?_)
      refine wl0 rfl (op_alloc hf H TF.zv119 rfl (by decide) fun b' a w hf H => ?_)
      refine wl0 rfl (op_storeB hf H 0 TF.sz119 rfl rfl rfl rfl rfl rfl (nle rfl) fun w H => ?_)
      refine wl_end ?_
      refine then_n ?_
      refine drawn [17] (bs := [false, false, false, false, false, false, false, false, false, false, false, false, false, false, false, false, false, false]) (fuel := 18) (Checked.mixed Try.checked) rfl rfl fun w hb => ?_
      have H := H.keep hb
      refine tkP (i := 0) (bs' := [true, false, false, false, false, false, false, false, false, false, false, false, false, false, false, false, false, false]) rfl rfl rfl (by decide) hf (by kernel_rfl) (fun _ => trivial) (fun w => pOp_ok (tb := tab) tabOk hf rfl) rfl fun a hf => ?_
      refine tkP (i := 1) (bs' := [true, true, false, false, false, false, false, false, false, false, false, false, false, false, false, false, false, false]) rfl rfl rfl (by decide) hf (by kernel_rfl) (fun _ => trivial) (fun w => pOp_ok (tb := tab) tabOk hf rfl) rfl fun a hf => ?_
      refine str (fun w => Mem ⟨w0, [b0]⟩ S [⟨b', 119, [(.int .i64 e.Kind), (.int .i64 e.Node), (.int .i64 e.Count)]⟩, ⟨b0, 130, m.cells⟩] [] [] [(false, MP.cells ⟨p, o, none⟩ [(.int .i64 e.Kind), (.int .i64 e.Node), (.int .i64 e.Count)]), (false, MP.val [(.slice A bill.length c)] (bill : List Item))] w) (fun w H => trivial) ?_
      have hS : Mem ⟨w0, [b0]⟩ S [⟨b', 119, [(.int .i64 e.Kind), (.int .i64 e.Node), (.int .i64 e.Count)]⟩, ⟨b0, 130, m.cells⟩] [] [] [(false, MP.cells ⟨p, o, none⟩ [(.int .i64 e.Kind), (.int .i64 e.Node), (.int .i64 e.Count)]), (false, MP.val [(.slice A bill.length c)] (bill : List Item))] w := H.let [true, true] [] [] [0, 1]
      refine tkS (i := 2) (bs' := [true, true, true, false, false, false, false, false, false, false, false, false, false, false, false, false, false, false]) [2, 6, 7, 8, 13, 15, 16, 17] rfl rfl rfl (by decide) hf (by kernel_rfl) (by kernel_rfl) hS (fun w H => rq_loadB hf H TF.ls3 0 rfl rfl rfl) rfl fun a hf => ?_
      refine tkP (i := 3) (bs' := [true, true, true, true, false, false, false, false, false, false, false, false, false, false, false, false, false, false]) rfl rfl rfl (by decide) hf (by kernel_rfl) (fun _ => hS) (fun w => pOp_ok (tb := tab) tabOk hf rfl) rfl fun a hf => ?_
      refine tkS (i := 4) (bs' := [true, true, true, true, true, false, false, false, false, false, false, false, false, false, false, false, false, false]) [4, 7, 8, 13, 16, 17] rfl rfl rfl (by decide) hf (by kernel_rfl) (by kernel_rfl) hS (fun w H => rq_loadB hf H TF.ls3 0 rfl rfl rfl) rfl fun a hf => ?_
      refine tkP (i := 5) (bs' := [true, true, true, true, true, true, false, false, false, false, false, false, false, false, false, false, false, false]) rfl rfl rfl (by decide) hf (by kernel_rfl) (fun _ => hS) (fun w => pOp_ok (tb := tab) tabOk hf rfl) rfl fun a hf => ?_
      obtain ⟨q, hq, hR1⟩ := bind_some hR1
      refine tkP (i := 6) (bs' := [true, true, true, true, true, true, true, false, false, false, false, false, false, false, false, false, false, false]) rfl rfl rfl (by decide) hf (by kernel_rfl) (fun _ => hS) (fun w => rq_iaddrA hf Try.underlying130 TF.sz128 rfl rfl hq) rfl fun a hf => ?_
      obtain ⟨q2, hq2, hR1⟩ := bind_some hR1
      refine tkP (i := 7) (bs' := [true, true, true, true, true, true, true, true, false, false, false, false, false, false, false, false, false, false]) rfl rfl rfl (by decide) hf (by kernel_rfl) (fun _ => hS) (fun w => rq_iaddrA hf Try.underlying128 TF.sz3 rfl rfl hq2) rfl fun a hf => ?_
      obtain ⟨e2, he2, hR1⟩ := bind_some hR1
      refine tkS (i := 8) (bs' := [true, true, true, true, true, true, true, true, true, false, false, false, false, false, false, false, false, false]) [8, 13, 16, 17] rfl rfl rfl (by decide) hf (by kernel_rfl) (by kernel_rfl) hS (fun w H => rq_loadArr hf H TF.ls3 1 rfl rfl he2) rfl fun a hf => ?_
      refine tkP (i := 9) (bs' := [true, true, true, true, true, true, true, true, true, true, false, false, false, false, false, false, false, false]) rfl rfl rfl (by decide) hf (by kernel_rfl) (fun _ => hS) (fun w => pOp_ok (tb := tab) tabOk hf rfl) rfl fun a hf => ?_
      refine tkP (i := 10) (bs' := [true, true, true, true, true, true, true, true, true, true, true, false, false, false, false, false, false, false]) rfl rfl rfl (by decide) hf (by kernel_rfl) (fun _ => hS) (fun w => pOp_ok (tb := tab) tabOk hf rfl) rfl fun a hf => ?_
      refine tkS (i := 11) (bs' := [true, true, true, true, true, true, true, true, true, true, true, true, false, false, false, false, false, false]) [11, 12, 13, 16, 17] rfl rfl rfl (by decide) hf (by kernel_rfl) (by kernel_rfl) hS (fun w H => rq_loadB hf H TF.ls3 0 rfl rfl rfl) rfl fun a hf => ?_
      refine tkP (i := 12) (bs' := [true, true, true, true, true, true, true, true, true, true, true, true, true, false, false, false, false, false]) rfl rfl rfl (by decide) hf (by kernel_rfl) (fun _ => hS) (fun w => pOp_ok (tb := tab) tabOk hf rfl) rfl fun a hf => ?_
      refine tkP (i := 13) (bs' := [true, true, true, true, true, true, true, true, true, true, true, true, true, true, false, false, false, false]) rfl rfl rfl (by decide) hf (by kernel_rfl) (fun _ => hS) (fun w => pOp_ok (tb := tab) tabOk hf rfl) rfl fun a hf => ?_
      refine tkP (i := 14) (bs' := [true, true, true, true, true, true, true, true, true, true, true, true, true, true, true, false, false, false]) rfl rfl rfl (by decide) hf (by kernel_rfl) (fun _ => hS) (fun w => pOp_ok (tb := tab) tabOk hf rfl) rfl fun a hf => ?_
      obtain ⟨q3, hq3, hR1⟩ := bind_some hR1
      refine tkP (i := 15) (bs' := [true, true, true, true, true, true, true, true, true, true, true, true, true, true, true, true, false, false]) rfl rfl rfl (by decide) hf (by kernel_rfl) (fun _ => hS) (fun w => rq_iaddrA hf Try.underlying130 TF.sz128 rfl rfl hq3) rfl fun a hf => ?_
      obtain ⟨q4, hq4, hR1⟩ := bind_some hR1
      refine tkP (i := 16) (bs' := [true, true, true, true, true, true, true, true, true, true, true, true, true, true, true, true, true, false]) rfl rfl rfl (by decide) hf (by kernel_rfl) (fun _ => hS) (fun w => rq_iaddrA hf Try.underlying128 TF.sz3 rfl rfl hq4) rfl fun a hf => ?_
      obtain ⟨x1, hx1, hR1⟩ := bind_some hR1
      refine on1 (i := 17) (bs' := [true, true, true, true, true, true, true, true, true, true, true, true, true, true, true, true, true, true]) (by kernel_rfl) rfl rfl rfl (op_storeArr hf H 1 TF.sz3 rfl rfl rfl hx1 fun w H => ?_)
      refine ⟨fun h => absurd h (by decide), ?_⟩
      refine dn (by kernel_rfl) ?_
      have hf := hf.prune [0, 2, 8, 9, 10] rfl
      refine blk_n ?_
      refine then_n ?_
      refine reg ?_
      refine pRun_ok (tb := tab) (n := 32) tabOk 2 _ _ hf rfl rfl fun a hf => ?_
      refine wl_end ?_
      have hf := hf.prune [0, 2, 8, 9, 10] rfl
      have H := H.let [false, true] [] [] [1]
      exact then_n ⟨(w64 (i + 1), x1), hR1, hf, H⟩
    · rw [if_neg (nt hc)] at hR1
      refine cd_f hf rfl hc ?_
      refine wp_exit (then_x (then_x (blk_e (?_))))
      have hf := hf.prune [0, 2, 8, 9, 10] rfl
      have H := H.let [true] [] [] [0]
      exact ⟨(i, m), (Option.some.inj hR1).symm, hf, H⟩
  rintro a w ⟨⟨i2, m2⟩, rfl, hf, H⟩
  dsimp only at hF
  obtain rfl := Option.some.inj hF
  refine ret_0 (fn := Try.f123) hf rfl ?_
  exact ⟨_, rfl, H.chg, _, H.boxAt 0 rfl, rfl, rfl⟩

/- (*loop.example/g00897/impl.tally).bill -/
set_option maxHeartbeats 1000000 in
theorem impl_tally_bill_ok {fu : Nat} {w0 : World} {S : Nat → Prop} {b0 o0 : Nat} {cs0 : List Value} {t : IA 40} {r : List Item × Bool} (hp0 : (MP.cells ⟨b0, o0, none⟩ cs0).pred w0 S) (hr0 : GoTy.rep w0 S cs0 t) (hF : impl_tally_bill fu t = some r) :
    Calls Try.prog 124 [(.pointer (some ⟨b0, o0, none⟩))].toArray w0 fun e w' => ∃ v, e = .returned v ∧ (Below w0.heap.size w0 w' ∧ ∃ F0, ∃ u0 u1, v = .tuple #[u0, u1] ∧ VO w' F0 u0 r.1 ∧ VR w' (St ⟨w0, []⟩ S [] [] [] true) u1 r.2 ∧ New w0 w' F0) := by
  obtain rfl := hr0
  have H := Mem.start ⟨w0, []⟩ S
  have H := H.pushArg (MP.cells ⟨b0, o0, none⟩ t.cells) hp0
  refine enter Try.func124 rfl rfl (nle rfl) rfl fun a hf => ?_
  rw [impl_tally_bill] at hF
  refine sq ?_
  refine reg ?_
  refine pRun_ok (tb := tab) (n := 36) tabOk 2 _ _ hf rfl rfl fun a hf => ?_
  refine wl_end ?_
  refine then_n ?_
  refine sq ?_
  refine reg ?_
  refine wl0 rfl (op_bslice hf H (.sh true) rfl 119 ([] : List Item) [] rfl (fun w => by kernel_rfl) rfl (by decide) rfl trivial el0 (by decide) fun A a w hf H => ?_)
  refine pRun_ok (tb := tab) (n := 36) tabOk 1 _ _ hf rfl rfl fun a hf => ?_
  refine wl_end ?_
  refine then_n ?_
  refine sq ?_
  refine sq ?_
  refine reg ?_
  refine pRun_ok (tb := tab) (n := 36) tabOk 1 _ _ hf rfl rfl fun a hf => ?_
  refine wl_end ?_
  refine then_n ?_
  obtain ⟨out2, hB1, hF⟩ := bind_some hF
  have hf := hf.prune [0, 4, 5] rfl
  have H := H.let [] [true] [] [0]
  have hI : (fun (s : List Item × Int) (a : Act) (w : World) => match s with | (out', kind) => ∃ (A2 : Option Addr) (c : Nat), Fr a 36 [(0, (.pointer (some ⟨b0, o0 + 0, none⟩))), (4, (.slice A2 out'.length c)), (5, (.int .i64 kind))] ∧ Mem ⟨w0, []⟩ S [] [⟨.sh true, 119, A2, c, (out' : List Item)⟩] [] [(false, MP.cells ⟨b0, o0, none⟩ t.cells)] w) (([] : List Item), 1) a w := ⟨A, 0, hf, H⟩
  refine mid (fun a w => ∃ s : List Item × Int, out2 = s ∧ (fun (s : List Item × Int) (a : Act) (w : World) => match s with | (out', kind) => ∃ (A2 : Option Addr) (c : Nat), Fr a 36 [(0, (.pointer (some ⟨b0, o0 + 0, none⟩))), (4, (.slice A2 out'.length c)), (5, (.int .i64 kind))] ∧ Mem ⟨w0, []⟩ S [] [⟨.sh true, 119, A2, c, (out' : List Item)⟩] [] [(false, MP.cells ⟨b0, o0, none⟩ t.cells)] w) s a w) ?_ ?_
  · refine wp_block ?_
    refine loop_rule (fun k (s : List Item × Int) => impl_tally_bill_L1 fu t k s.1 s.2 = some out2) (fun (s : List Item × Int) (a : Act) (w : World) => match s with | (out', kind) => ∃ (A2 : Option Addr) (c : Nat), Fr a 36 [(0, (.pointer (some ⟨b0, o0 + 0, none⟩))), (4, (.slice A2 out'.length c)), (5, (.int .i64 kind))] ∧ Mem ⟨w0, []⟩ S [] [⟨.sh true, 119, A2, c, (out' : List Item)⟩] [] [(false, MP.cells ⟨b0, o0, none⟩ t.cells)] w) (fun s h => by cases h) ?_ fu (([] : List Item), 1) a w hB1 hI
    rintro fk ⟨out', kind⟩ a w hR1 hI
    replace hR1 : impl_tally_bill_L1 fu t (fk + 1) out' kind = some out2 := hR1
    rw [impl_tally_bill_L1] at hR1
    obtain ⟨A2, c, hf, H⟩ := hI
    refine sq ?_
    refine sq ?_
    refine reg ?_
    refine pRun_ok (tb := tab) (n := 36) tabOk 2 _ _ hf rfl rfl fun a hf => ?_
    refine wl_end ?_
    refine then_n ?_
    refine (Bool.eq_false_or_eq_true (decide (kind ≤ 4))).elim (fun hc => ?_) (fun hc => ?_)
    · rw [if_pos hc] at hR1
      refine cd_t hf rfl hc ?_
      refine wp_skip ?_
      refine then_n ?_
      refine sq ?_
      refine wp_block ?_
      refine sq ?_
      refine reg ?_
      refine pRun_ok (tb := tab) (n := 36) tabOk 3 _ _ hf rfl rfl fun a hf => ?_
      obtain ⟨q, hq, hR1⟩ := bind_some hR1
      refine wl0 rfl (op_q hf (rq_iaddrA hf Try.underlying130 TF.sz128 rfl rfl hq) rfl (by decide) fun a hf => ?_)
      obtain ⟨z, hz, hR1⟩ := bind_some hR1
      refine wl0 rfl (op_q hf (rq_loadArrNI hf H TF.la128 0 rfl rfl hz) rfl (by decide) fun a hf => ?_)
      refine pRun_ok (tb := tab) (n := 36) tabOk 1 _ _ hf rfl rfl fun a hf => ?_
      refine wl_end ?_
      refine then_n ?_
      obtain ⟨out4, hB2, hR1⟩ := bind_some hR1
      have hf := hf.prune [0, 4, 5, 17, 18] rfl
      have H := H.let [] [true] [] [0]
      have hI : (fun (s : List Item × Int) (a : Act) (w : World) => match s with | (out3, i) => ∃ (A3 : Option Addr) (c2 : Nat), Fr a 36 [(0, (.pointer (some ⟨b0, o0 + 0, none⟩))), (4, (.slice A3 out3.length c2)), (5, (.int .i64 kind)), (17, (.agg z.cells.toArray)), (18, (.int .i64 i))] ∧ Mem ⟨w0, []⟩ S [] [⟨.sh true, 119, A3, c2, (out3 : List Item)⟩] [] [(false, MP.cells ⟨b0, o0, none⟩ t.cells)] w) (out', 0) a w := ⟨A2, c, hf, H⟩
      refine mid (fun a w => ∃ s : List Item × Int, out4 = s ∧ (fun (s : List Item × Int) (a : Act) (w : World) => match s with | (out3, i) => ∃ (A3 : Option Addr) (c2 : Nat), Fr a 36 [(0, (.pointer (some ⟨b0, o0 + 0, none⟩))), (4, (.slice A3 out3.length c2)), (5, (.int .i64 kind)), (17, (.agg z.cells.toArray)), (18, (.int .i64 i))] ∧ Mem ⟨w0, []⟩ S [] [⟨.sh true, 119, A3, c2, (out3 : List Item)⟩] [] [(false, MP.cells ⟨b0, o0, none⟩ t.cells)] w) s a w) ?_ ?_
      · refine wp_block ?_
        refine loop_rule (fun k (s : List Item × Int) => impl_tally_bill_L2 fu z kind k s.1 s.2 = some out4) (fun (s : List Item × Int) (a : Act) (w : World) => match s with | (out3, i) => ∃ (A3 : Option Addr) (c2 : Nat), Fr a 36 [(0, (.pointer (some ⟨b0, o0 + 0, none⟩))), (4, (.slice A3 out3.length c2)), (5, (.int .i64 kind)), (17, (.agg z.cells.toArray)), (18, (.int .i64 i))] ∧ Mem ⟨w0, []⟩ S [] [⟨.sh true, 119, A3, c2, (out3 : List Item)⟩] [] [(false, MP.cells ⟨b0, o0, none⟩ t.cells)] w) (fun s h => by cases h) ?_ fu (out', 0) a w hB2 hI
        rintro fk ⟨out3, i⟩ a w hR2 hI
        replace hR2 : impl_tally_bill_L2 fu z kind (fk + 1) out3 i = some out4 := hR2
        rw [impl_tally_bill_L2] at hR2
        obtain ⟨A3, c2, hf, H⟩ := hI
        refine sq ?_
        refine reg ?_
        refine pRun_ok (tb := tab) (n := 36) tabOk 1 _ _ hf rfl rfl fun a hf => ?_
        refine wl_end ?_
        refine then_n ?_
        refine sq ?_
        refine (Bool.eq_false_or_eq_true (decide (i < 8))).elim (fun hc2 => ?_) (fun hc2 => ?_)
        · rw [if_pos hc2] at hR2
          refine cd_t hf rfl hc2 ?_
          refine wp_skip ?_
          refine then_n ?_
          refine sq ?_
          refine wp_block ?_
          refine sq ?_
          refine reg ?_
          refine pRun_ok (tb := tab) (n := 36) tabOk 1 _ _ hf rfl rfl fun a hf => ?_
          obtain ⟨e, he, hR2⟩ := bind_some hR2
          refine wl0 rfl (op_q hf (rq_indexA hf Try.underlying128 TF.pt3 rfl rfl rfl z.h he) rfl (by decide) fun a hf => ?_)
          refine pRun_ok (tb := tab) (n := 36) tabOk 2 _ _ hf rfl rfl fun a hf => ?_
          refine wl_end ?_
          refine then_n ?_
          refine sq ?_
          refine reg ?_
          refine pRun_ok (tb := tab) (n := 36) tabOk 2 _ _ hf rfl rfl fun a hf => ?_
          refine wl_end ?_
          refine then_n ?_
          refine (Bool.eq_false_or_eq_true (decide (e > 0))).elim (fun hc3 => ?_) (fun hc3 => ?_)
          · rw [if_pos hc3] at hR2
            refine cd_t hf rfl hc3 ?_
            refine reg ?_
            refine pRun_ok (tb := tab) (n := 36) tabOk 4 _ _ hf rfl rfl fun a hf => ?_
            refine wl0 rfl (op_q hf (rq_build hf (cs := [(.int .i64 kind), (.int .i64 i), (.int .i64 e)]) rfl (fun w => by kernel_rfl)) rfl (by decide) fun a hf => ?_)
            refine wl0 rfl (op_bslice hf H (.sh true) rfl 119 ([({ Kind := kind, Node := i, Count := e } : Item)] : List Item) [(.int .i64 kind), (.int .i64 i), (.int .i64 e)] rfl (fun w => by kernel_rfl) rfl (by decide) rfl trivial (el1 (y := ({ Kind := kind, Node := i, Count := e } : Item)) (Item_mk (x := ({ Kind := kind, Node := i, Count := e } : Item)))) (by decide) fun A4 a w hf H => ?_)
            obtain ⟨l, hl, hR2⟩ := bind_some hR2
            refine wl0 rfl (op_appR hf H Try.underlying53 TF.ai119 rfl (by decide) 1 0 rfl rfl rfl rfl (.inr rfl) hl (by decide) fun A5 c3 a w hf H => ?_)
            refine pRun_ok (tb := tab) (n := 36) tabOk 1 _ _ hf rfl rfl fun a hf => ?_
            have hf := hf.prune [0, 4, 5, 17, 18] rfl
            refine wl_end ?_
            refine blk_n ?_
            refine then_n ?_
            refine reg ?_
            refine pRun_ok (tb := tab) (n := 36) tabOk 2 _ _ hf rfl rfl fun a hf => ?_
            refine wl_end ?_
            have hf := hf.prune [0, 4, 5, 17, 18] rfl
            have H := H.let [] [false, true] [] [0]
            exact then_n ⟨(l, w64 (i + 1)), hR2, A5, c3, hf, H⟩
          · rw [if_neg (nt hc3)] at hR2
            refine cd_f hf rfl hc3 ?_
            refine wp_skip ?_
            refine blk_n ?_
            refine then_n ?_
            refine reg ?_
            refine pRun_ok (tb := tab) (n := 36) tabOk 2 _ _ hf rfl rfl fun a hf => ?_
            refine wl_end ?_
            have hf := hf.prune [0, 4, 5, 17, 18] rfl
            have H := H.let [] [true] [] [0]
            exact then_n ⟨(out3, w64 (i + 1)), hR2, A3, c2, hf, H⟩
        · rw [if_neg (nt hc2)] at hR2
          refine cd_f hf rfl hc2 ?_
          refine wp_exit (then_x (then_x (blk_e (?_))))
          have hf := hf.prune [0, 4, 5, 17, 18] rfl
          have H := H.let [] [true] [] [0]
          exact ⟨(out3, i), (Option.some.inj hR2).symm, A3, c2, hf, H⟩
      rintro a w ⟨⟨out5, i2⟩, rfl, A6, c4, hf, H⟩
      dsimp only at hR1
      refine blk_n ?_
      refine then_n ?_
      refine reg ?_
      refine pRun_ok (tb := tab) (n := 36) tabOk 3 _ _ hf rfl rfl fun a hf => ?_
      refine wl_end ?_
      have hf := hf.prune [0, 4, 5] rfl
      have H := H.let [] [true] [] [0]
      exact then_n ⟨(out5, w64 (kind + 1)), hR1, A6, c4, hf, H⟩
    · rw [if_neg (nt hc)] at hR1
      refine cd_f hf rfl hc ?_
      refine wp_exit (then_x (then_x (blk_e (?_))))
      have hf := hf.prune [0, 4, 5] rfl
      have H := H.let [] [true] [] [0]
      exact ⟨(out', kind), (Option.some.inj hR1).symm, A2, c, hf, H⟩
  rintro a w ⟨⟨out6, kind2⟩, rfl, A7, c5, hf, H⟩
  dsimp only at hF
  refine then_n ?_
  refine sq ?_
  refine sq ?_
  refine reg ?_
  refine pRun_ok (tb := tab) (n := 36) tabOk 1 _ _ hf rfl rfl fun a hf => ?_
  obtain ⟨y, hy, hF⟩ := bind_some hF
  refine wl0 rfl (op_call hf TF.cl114 rfl (by decide) (impl_isBill_ok (S := fun _ => True) (mk_list (H.rowTrue 0 rfl)) hy) fun v w a hp hf => ?_)
  obtain ⟨hb, hp⟩ := hp
  obtain rfl := VR_bool hp
  have H := H.keep hb
  refine pRun_ok (tb := tab) (n := 36) tabOk 1 _ _ hf rfl rfl fun a hf => ?_
  refine wl_end ?_
  refine then_n ?_
  refine (Bool.eq_false_or_eq_true (!y)).elim (fun hc4 => ?_) (fun hc4 => ?_)
  · rw [if_pos hc4] at hF
    refine cd_t hf rfl hc4 ?_
    refine sq ?_
    refine reg ?_
    refine pRun_ok (tb := tab) (n := 36) tabOk 2 _ _ hf rfl rfl fun a hf => ?_
    refine wl_end ?_
    refine then_n ?_
    refine wp_ret (then_r (?_))
    have H := H.ownNil (Item)
    have H := H.lend 0 rfl
    obtain rfl := Option.some.inj hF
    refine ret_2 (fn := Try.f124) (r := .tmp 2) (s := .tmp 3) hf rfl (rv_tmp hf rfl) (rv_tmp hf rfl) ?_
    have hN := H.ends (X := [(⟨[], MP.own [] [(.slice none 0 0)] ([] : List Item)⟩ : DI)])
    simp only [List.flatMap_cons, List.flatMap_nil, List.append_nil, List.append_assoc] at hN
    exact ⟨_, rfl, H.bel, [], _, _, rfl, (mko_list (H.ownAt 0 rfl)), mk_bool, hN⟩
  · rw [if_neg (nt hc4)] at hF
    refine cd_f hf rfl hc4 ?_
    refine wp_skip ?_
    refine then_n ?_
    refine sq ?_
    refine reg ?_
    refine pRun_ok (tb := tab) (n := 36) tabOk 3 _ _ hf rfl rfl fun a hf => ?_
    refine wl_end ?_
    refine then_n ?_
    refine wp_ret (?_)
    have H := H.rowOwn 0 rfl rfl
    obtain ⟨F, H⟩ := H.freezeOwn 0 rfl
    have H := H.lend 0 rfl
    obtain rfl := Option.some.inj hF
    refine ret_2 (fn := Try.f124) (r := .tmp 2) (s := .tmp 3) hf rfl (rv_tmp hf rfl) (rv_tmp hf rfl) ?_
    have hN := H.ends (X := [(⟨F, MP.own F [(.slice A7 out6.length c5)] (out6 : List Item)⟩ : DI)])
    simp only [List.flatMap_cons, List.flatMap_nil, List.append_nil, List.append_assoc] at hN
    exact ⟨_, rfl, H.bel, F, _, _, rfl, (mko_list (H.ownAt 0 rfl)), mk_bool, hN⟩

/- loop.example/g00897/impl.MergeBills -/
set_option maxHeartbeats 1000000 in
theorem impl_MergeBills_ok {fu : Nat} {w0 : World} {S : Nat → Prop} {v0_ : Value} {v1_ : Value} {a' : List Item} {b' : List Item} {r : List Item × Bool} (h0 : VR w0 S v0_ a') (h1 : VR w0 S v1_ b') (hF : impl_MergeBills fu a' b' = some r) :
    Calls Try.prog 64 [v0_, v1_].toArray w0 fun e w' => ∃ v, e = .returned v ∧ (Below w0.heap.size w0 w' ∧ ∃ F0, ∃ u0 u1, v = .tuple #[u0, u1] ∧ VO w' F0 u0 r.1 ∧ VR w' (St ⟨w0, []⟩ S [] [] [] true) u1 r.2 ∧ New w0 w' F0) := by
  obtain ⟨A, c, rfl, hl⟩ := VR_list h0
  obtain ⟨A2, c2, rfl, hl2⟩ := VR_list h1
  have H := Mem.start ⟨w0, []⟩ S
  have H := H.pushArg (MP.val [(.slice A a'.length c)] a') hl
  have H := H.pushArg (MP.val [(.slice A2 b'.length c2)] b') hl2
  refine enter Try.func64 rfl rfl (nle rfl) rfl fun a hf => ?_
  rw [impl_MergeBills] at hF
  refine sq ?_
  refine reg ?_
  refine pRun_ok (tb := tab) (n := 27) tabOk 2 _ _ hf rfl rfl fun a hf => ?_
  refine wl_end ?_
  refine then_n ?_
  refine sq ?_
  refine sq ?_
  obtain ⟨c3, hGc3, hF⟩ := bind_some hF
  refine mid (fun a w => Fr a 27 [(0, (.slice A a'.length c)), (1, (.slice A2 b'.length c2)), (14, (.bool c3))] ∧ Mem ⟨w0, []⟩ S [] [] [] [(false, MP.val [(.slice A2 b'.length c2)] (b' : List Item)), (false, MP.val [(.slice A a'.length c)] (a' : List Item))] w) ?_ ?_
  · refine reg ?_
    refine pRun_ok (tb := tab) (n := 27) tabOk 1 _ _ hf rfl rfl fun a hf => ?_
    obtain ⟨y, hy, hGc3⟩ := bind_some hGc3
    refine wl0 rfl (op_call hf TF.cl114 rfl (by decide) (impl_isBill_ok (S := fun _ => True) (mk_list (rep_true (α := List Item) (H.get 1 rfl))) hy) fun v w a hp hf => ?_)
    obtain ⟨hb, hp⟩ := hp
    obtain rfl := VR_bool hp
    have H := H.keep hb
    refine pRun_ok (tb := tab) (n := 27) tabOk 2 _ _ hf rfl rfl fun a hf => ?_
    refine (Bool.eq_false_or_eq_true (!y)).elim (fun hc => ?_) (fun hc => ?_)
    · rw [if_pos hc] at hGc3
      have hf := hf.lit 10 rfl hc
      refine pRun_ok (tb := tab) (n := 27) tabOk 4 _ _ hf rfl rfl fun a hf => ?_
      obtain rfl := Option.some.inj hGc3
      have hf := hf.prune [0, 1, 14] rfl
      have H := H.let [] [] [] [0, 1]
      exact wl_end ⟨hf, H⟩
    · rw [if_neg (nt hc)] at hGc3
      have hf := hf.lit 10 rfl hc
      refine pRun_ok (tb := tab) (n := 27) tabOk 1 _ _ hf rfl rfl fun a hf => ?_
      obtain ⟨y2, hy2, hGc3⟩ := bind_some hGc3
      refine wlg hf rfl rfl rfl (op_call hf TF.cl114 rfl (by decide) (impl_isBill_ok (S := fun _ => True) (mk_list (rep_true (α := List Item) (H.get 0 rfl))) hy2) fun v2 w a hp2 hf => ?_)
      obtain ⟨hb2, hp2⟩ := hp2
      obtain rfl := VR_bool hp2
      have H := H.keep hb2
      refine pRun_ok (tb := tab) (n := 27) tabOk 2 _ _ hf rfl rfl fun a hf => ?_
      obtain rfl := Option.some.inj hGc3
      have hf := hf.prune [0, 1, 14] rfl
      have H := H.let [] [] [] [0, 1]
      exact wl_end ⟨hf, H⟩
  rintro a w ⟨hf, H⟩
  refine then_n ?_
  refine (Bool.eq_false_or_eq_true (c3)).elim (fun hc2 => ?_) (fun hc2 => ?_)
  · rw [if_pos hc2] at hF
    refine cd_t hf rfl hc2 ?_
    refine sq ?_
    refine reg ?_
    refine pRun_ok (tb := tab) (n := 27) tabOk 2 _ _ hf rfl rfl fun a hf => ?_
    refine wl_end ?_
    refine then_n ?_
    refine wp_ret (then_r (?_))
    have H := H.ownNil (Item)
    have H := H.lend 0 rfl
    obtain rfl := Option.some.inj hF
    refine ret_2 (fn := Try.f64) (r := .tmp 4) (s := .tmp 5) hf rfl (rv_tmp hf rfl) (rv_tmp hf rfl) ?_
    have hN := H.ends (X := [(⟨[], MP.own [] [(.slice none 0 0)] ([] : List Item)⟩ : DI)])
    simp only [List.flatMap_cons, List.flatMap_nil, List.append_nil, List.append_assoc] at hN
    exact ⟨_, rfl, H.bel, [], _, _, rfl, (mko_list (H.ownAt 0 rfl)), mk_bool, hN⟩
  · rw [if_neg (nt hc2)] at hF
    refine cd_f hf rfl hc2 ?_
    refine wp_skip ?_
    refine then_n ?_
    refine sq ?_
    refine reg ?_
    refine wl0 rfl (op_q hf (rq_build hf (cs := [(.int .i64 0), (.int .i64 0), (.int .i64 0), (.int .i64 0), (.int .i64 0), (.int .i64 0), (.int .i64 0), (.int .i64 0), (.int .i64 0), (.int .i64 0), (.int .i64 0), (.int .i64 0), (.int .i64 0), (.int .i64 0), (.int .i64 0), (.int .i64 0), (.int .i64 0), (.int .i64 0), (.int .i64 0), (.int .i64 0), (.int .i64 0), (.int .i64 0), (.int .i64 0), (.int .i64 0), (.int .i64 0), (.int .i64 0), (.int .i64 0), (.int .i64 0), (.int .i64 0), (.int .i64 0), (.int .i64 0), (.int .i64 0), (.int .i64 0), (.int .i64 0), (.int .i64 0), (.int .i64 0), (.int .i64 0), (.int .i64 0), (.int .i64 0), (.int .i64 0)]) rfl (fun w => by kernel_rfl)) rfl (by decide) fun a hf => ?_)
    refine wl0 rfl (op_box hf H rfl rfl (by decide) fun b2 a w hf H => ?_)
    have H : Mem ⟨w0, []⟩ S [⟨b2, 130, (⟨[0, 0, 0, 0, 0, 0, 0, 0, 0, 0, 0, 0, 0, 0, 0, 0, 0, 0, 0, 0, 0, 0, 0, 0, 0, 0, 0, 0, 0, 0, 0, 0, 0, 0, 0, 0, 0, 0, 0, 0], rfl⟩ : IA 40).cells⟩] [] [] [(false, MP.val [(.slice A2 b'.length c2)] (b' : List Item)), (false, MP.val [(.slice A a'.length c)] (a' : List Item))] w := H
    refine pRun_ok (tb := tab) (n := 27) tabOk 1 _ _ hf rfl rfl fun a hf => ?_
    refine wl_end ?_
    refine then_n ?_
    refine sq ?_
    refine reg ?_
    refine pRun_ok (tb := tab) (n := 27) tabOk 2 _ _ hf rfl rfl fun a hf => ?_
    obtain ⟨y3, hy3, hF⟩ := bind_some hF
    refine wl0 rfl (op_call hf TF.cl123 rfl (by decide) (impl_tally_add_ok (S := St ⟨w0, []⟩ S [⟨b2, 130, (⟨[0, 0, 0, 0, 0, 0, 0, 0, 0, 0, 0, 0, 0, 0, 0, 0, 0, 0, 0, 0, 0, 0, 0, 0, 0, 0, 0, 0, 0, 0, 0, 0, 0, 0, 0, 0, 0, 0, 0, 0], rfl⟩ : IA 40).cells⟩] [] [] false) (H.boxAt 0 rfl) rfl (H.notSt 0 rfl _) (mk_list (H.get 1 rfl)) mk_int hy3) fun v3 w a hp3 hf => ?_)
    obtain ⟨hch, cs, hbx, hr, hs⟩ := hp3
    obtain rfl := hs
    replace hr := GoTy.mono hr (H.movesB 0 rfl false)
    obtain rfl := hr
    have H := H.wroteBox 0 rfl hch hbx
    refine wl_end ?_
    refine then_n ?_
    refine sq ?_
    refine reg ?_
    refine pRun_ok (tb := tab) (n := 27) tabOk 2 _ _ hf rfl rfl fun a hf => ?_
    obtain ⟨y4, hy4, hF⟩ := bind_some hF
    refine wl0 rfl (op_call hf TF.cl123 rfl (by decide) (impl_tally_add_ok (S := St ⟨w0, []⟩ S [⟨b2, 130, y3.cells⟩] [] [] false) (H.boxAt 0 rfl) rfl (H.notSt 0 rfl _) (mk_list (H.get 0 rfl)) mk_int hy4) fun v4 w a hp4 hf => ?_)
    obtain ⟨hch2, cs2, hbx2, hr2, hs2⟩ := hp4
    obtain rfl := hs2
    replace hr2 := GoTy.mono hr2 (H.movesB 0 rfl false)
    obtain rfl := hr2
    have H := H.wroteBox 0 rfl hch2 hbx2
    refine wl_end ?_
    refine then_n ?_
    refine sq ?_
    refine reg ?_
    refine pRun_ok (tb := tab) (n := 27) tabOk 1 _ _ hf rfl rfl fun a hf => ?_
    obtain ⟨y5, hy5, hF⟩ := bind_some hF
    refine wl0 rfl (op_call hf TF.cl124 rfl (by decide) (impl_tally_bill_ok (S := fun _ => True) (H.boxTrue 0 rfl) rfl hy5) fun v5 w a hp5 hf => ?_)
    obtain ⟨hb3, F, v6, v7, rfl, hp6, hp7, hN⟩ := hp5
    obtain ⟨A3, c4, rfl, hl3⟩ := VO_list hp6
    obtain rfl := VR_bool hp7
    have H := H.addOwn hb3 (X := [(⟨F, MP.own F [(.slice A3 y5.1.length c4)] (y5.1 : List Item)⟩ : DI)]) (by simpa using hN.1) (ps1 hl3 ps0) (by simpa using hN.2)
    have H := H.lend 0 rfl
    refine pRun_ok (tb := tab) (n := 27) tabOk 4 _ _ hf rfl rfl fun a hf => ?_
    have hf := hf.prune [4, 5] rfl
    refine wl_end ?_
    refine then_n ?_
    refine wp_ret (?_)
    obtain rfl := Option.some.inj hF
    refine ret_2 (fn := Try.f64) (r := .tmp 4) (s := .tmp 5) hf rfl (rv_tmp hf rfl) (rv_tmp hf rfl) ?_
    have hN := H.ends (X := [(⟨F, MP.own F [(.slice A3 y5.1.length c4)] (y5.1 : List Item)⟩ : DI)])
    simp only [List.flatMap_cons, List.flatMap_nil, List.append_nil, List.append_assoc] at hN
    exact ⟨_, rfl, H.bel, F, _, _, rfl, (mko_list (H.ownAt 0 rfl)), mk_bool, hN⟩

/- loop.example/g00897/laws.eqItem -/
set_option maxHeartbeats 1000000 in
theorem laws_eqItem_ok {fu : Nat} {w0 : World} {S : Nat → Prop} {v0_ : Value} {v1_ : Value} {a' : Item} {b' : Item} {r : Bool} (h0 : VR w0 S v0_ a') (h1 : VR w0 S v1_ b') (hF : laws_eqItem fu a' b' = some r) :
    Calls Try.prog 117 [v0_, v1_].toArray w0 fun e w' => ∃ v, e = .returned v ∧ (Below w0.heap.size w0 w' ∧ VR w' (St ⟨w0, []⟩ S [] [] [] true) v r) := by
  obtain rfl := Item_open h0
  obtain rfl := Item_open h1
  have H := Mem.start ⟨w0, []⟩ S
  refine enter Try.func117 rfl rfl (nle rfl) rfl fun a hf => ?_
  rw [laws_eqItem] at hF
  refine sq ?_
  refine reg ?_
  refine wl0 rfl (op_box hf H rfl rfl (by decide) fun b2 a w hf H => ?_)
  refine wl0 rfl (op_box hf H rfl rfl (by decide) fun b3 a w hf H => ?_)
  refine pRun_ok (tb := tab) (n := 20) tabOk 1 _ _ hf rfl rfl fun a hf => ?_
  refine wl_end ?_
  refine then_n ?_
  refine sq ?_
  refine sq ?_
  refine reg ?_
  refine pRun_ok (tb := tab) (n := 20) tabOk 1 _ _ hf rfl rfl fun a hf => ?_
  refine wl0 rfl (op_q hf (rq_loadB hf H TF.ls3 1 rfl rfl rfl) rfl (by decide) fun a hf => ?_)
  refine pRun_ok (tb := tab) (n := 20) tabOk 1 _ _ hf rfl rfl fun a hf => ?_
  refine wl0 rfl (op_q hf (rq_loadB hf H TF.ls3 0 rfl rfl rfl) rfl (by decide) fun a hf => ?_)
  refine pRun_ok (tb := tab) (n := 20) tabOk 1 _ _ hf rfl rfl fun a hf => ?_
  refine wl_end ?_
  refine then_n ?_
  refine (Bool.eq_false_or_eq_true (a'.Kind != b'.Kind)).elim (fun hc => ?_) (fun hc => ?_)
  · rw [if_pos hc] at hF
    refine cd_t hf rfl hc ?_
    refine sq ?_
    refine reg ?_
    refine pRun_ok (tb := tab) (n := 20) tabOk 1 _ _ hf rfl rfl fun a hf => ?_
    refine wl_end ?_
    refine then_n ?_
    refine wp_ret (then_r (?_))
    obtain rfl := Option.some.inj hF
    refine ret_1 (fn := Try.f117) (r := .tmp 4) hf rfl (rv_tmp hf rfl) ?_
    exact ⟨_, rfl, H.bel, mk_bool⟩
  · rw [if_neg (nt hc)] at hF
    refine cd_f hf rfl hc ?_
    refine wp_skip ?_
    refine then_n ?_
    refine sq ?_
    refine sq ?_
    refine reg ?_
    refine pRun_ok (tb := tab) (n := 20) tabOk 1 _ _ hf rfl rfl fun a hf => ?_
    refine wl0 rfl (op_q hf (rq_loadB hf H TF.ls3 1 rfl rfl rfl) rfl (by decide) fun a hf => ?_)
    refine pRun_ok (tb := tab) (n := 20) tabOk 1 _ _ hf rfl rfl fun a hf => ?_
    refine wl0 rfl (op_q hf (rq_loadB hf H TF.ls3 0 rfl rfl rfl) rfl (by decide) fun a hf => ?_)
    refine pRun_ok (tb := tab) (n := 20) tabOk 1 _ _ hf rfl rfl fun a hf => ?_
    refine wl_end ?_
    refine then_n ?_
    refine (Bool.eq_false_or_eq_true (a'.Node != b'.Node)).elim (fun hc2 => ?_) (fun hc2 => ?_)
    · rw [if_pos hc2] at hF
      refine cd_t hf rfl hc2 ?_
      refine sq ?_
      refine reg ?_
      refine pRun_ok (tb := tab) (n := 20) tabOk 1 _ _ hf rfl rfl fun a hf => ?_
      have hf := hf.prune [4] rfl
      refine wl_end ?_
      refine then_n ?_
      refine wp_ret (then_r (?_))
      obtain rfl := Option.some.inj hF
      refine ret_1 (fn := Try.f117) (r := .tmp 4) hf rfl (rv_tmp hf rfl) ?_
      exact ⟨_, rfl, H.bel, mk_bool⟩
    · rw [if_neg (nt hc2)] at hF
      refine cd_f hf rfl hc2 ?_
      refine wp_skip ?_
      refine then_n ?_
      refine sq ?_
      refine sq ?_
      refine reg ?_
      refine pRun_ok (tb := tab) (n := 20) tabOk 1 _ _ hf rfl rfl fun a hf => ?_
      refine wl0 rfl (op_q hf (rq_loadB hf H TF.ls3 1 rfl rfl rfl) rfl (by decide) fun a hf => ?_)
      refine pRun_ok (tb := tab) (n := 20) tabOk 1 _ _ hf rfl rfl fun a hf => ?_
      refine wl0 rfl (op_q hf (rq_loadB hf H TF.ls3 0 rfl rfl rfl) rfl (by decide) fun a hf => ?_)
      refine pRun_ok (tb := tab) (n := 20) tabOk 1 _ _ hf rfl rfl fun a hf => ?_
      have hf := hf.prune [19] rfl
      refine wl_end ?_
      refine then_n ?_
      refine (Bool.eq_false_or_eq_true (a'.Count != b'.Count)).elim (fun hc3 => ?_) (fun hc3 => ?_)
      · rw [if_pos hc3] at hF
        refine cd_t hf rfl hc3 ?_
        refine sq ?_
        refine reg ?_
        refine pRun_ok (tb := tab) (n := 20) tabOk 1 _ _ hf rfl rfl fun a hf => ?_
        refine wl_end ?_
        refine then_n ?_
        refine wp_ret (then_r (?_))
        obtain rfl := Option.some.inj hF
        refine ret_1 (fn := Try.f117) (r := .tmp 4) hf rfl (rv_tmp hf rfl) ?_
        exact ⟨_, rfl, H.bel, mk_bool⟩
      · rw [if_neg (nt hc3)] at hF
        refine cd_f hf rfl hc3 ?_
        refine wp_skip ?_
        refine then_n ?_
        refine sq ?_
        refine reg ?_
        refine pRun_ok (tb := tab) (n := 20) tabOk 1 _ _ hf rfl rfl fun a hf => ?_
        refine wl_end ?_
        refine then_n ?_
        refine wp_ret (?_)
        obtain rfl := Option.some.inj hF
        refine ret_1 (fn := Try.f117) (r := .tmp 4) hf rfl (rv_tmp hf rfl) ?_
        exact ⟨_, rfl, H.bel, mk_bool⟩

/- loop.example/g00897/laws.eqItemS -/
set_option maxHeartbeats 1000000 in
theorem laws_eqItemS_ok {fu : Nat} {w0 : World} {S : Nat → Prop} {v0_ : Value} {v1_ : Value} {a' : List Item} {b' : List Item} {r : Bool} (h0 : VR w0 S v0_ a') (h1 : VR w0 S v1_ b') (hF : laws_eqItemS fu a' b' = some r) :
    Calls Try.prog 50 [v0_, v1_].toArray w0 fun e w' => ∃ v, e = .returned v ∧ (Below w0.heap.size w0 w' ∧ VR w' (St ⟨w0, []⟩ S [] [] [] true) v r) := by
  obtain ⟨A, c, rfl, hl⟩ := VR_list h0
  obtain ⟨A2, c2, rfl, hl2⟩ := VR_list h1
  have H := Mem.start ⟨w0, []⟩ S
  have H := H.pushArg (MP.val [(.slice A a'.length c)] a') hl
  have H := H.pushArg (MP.val [(.slice A2 b'.length c2)] b') hl2
  refine enter Try.func50 rfl rfl (nle rfl) rfl fun a hf => ?_
  rw [laws_eqItemS] at hF
  refine sq ?_
  refine reg ?_
  refine pRun_ok (tb := tab) (n := 27) tabOk 1 _ _ hf rfl rfl fun a hf => ?_
  refine wl_end ?_
  refine then_n ?_
  refine sq ?_
  refine sq ?_
  refine reg ?_
  refine pRun_ok (tb := tab) (n := 27) tabOk 5 _ _ hf rfl rfl fun a hf => ?_
  refine wl_end ?_
  refine then_n ?_
  refine (Bool.eq_false_or_eq_true ((a'.length : Int) != (b'.length : Int))).elim (fun hc => ?_) (fun hc => ?_)
  · rw [if_pos hc] at hF
    refine cd_t hf rfl hc ?_
    refine sq ?_
    refine reg ?_
    refine pRun_ok (tb := tab) (n := 27) tabOk 1 _ _ hf rfl rfl fun a hf => ?_
    refine wl_end ?_
    refine then_n ?_
    refine wp_ret (then_r (?_))
    obtain rfl := Option.some.inj hF
    refine ret_1 (fn := Try.f50) (r := .tmp 4) hf rfl (rv_tmp hf rfl) ?_
    exact ⟨_, rfl, H.bel, mk_bool⟩
  · rw [if_neg (nt hc)] at hF
    refine cd_f hf rfl hc ?_
    refine wp_skip ?_
    refine then_n ?_
    refine sq ?_
    refine sq ?_
    refine reg ?_
    refine pRun_ok (tb := tab) (n := 27) tabOk 1 _ _ hf rfl rfl fun a hf => ?_
    refine wl_end ?_
    refine then_n ?_
    obtain ⟨out', hB1, hF⟩ := bind_some hF
    have hf := hf.prune [0, 1, 5] rfl
    have H := H.let [] [] [] [0, 1]
    have hI : (fun (s : Int) (a : Act) (w : World) => match s with | i => Fr a 27 [(0, (.slice A a'.length c)), (1, (.slice A2 b'.length c2)), (5, (.int .i64 i))] ∧ Mem ⟨w0, []⟩ S [] [] [] [(false, MP.val [(.slice A2 b'.length c2)] (b' : List Item)), (false, MP.val [(.slice A a'.length c)] (a' : List Item))] w) 0 a w0 := ⟨hf, H⟩
    refine mid (fun a w => ∃ s : Int, out' = Out.next s ∧ (fun (s : Int) (a : Act) (w : World) => match s with | i => Fr a 27 [(0, (.slice A a'.length c)), (1, (.slice A2 b'.length c2)), (5, (.int .i64 i))] ∧ Mem ⟨w0, []⟩ S [] [] [] [(false, MP.val [(.slice A2 b'.length c2)] (b' : List Item)), (false, MP.val [(.slice A a'.length c)] (a' : List Item))] w) s a w) ?_ ?_
    · refine wp_block ?_
      refine loop_rule (fun k (s : Int) => laws_eqItemS_L1 fu a' b' k s = some out') (fun (s : Int) (a : Act) (w : World) => match s with | i => Fr a 27 [(0, (.slice A a'.length c)), (1, (.slice A2 b'.length c2)), (5, (.int .i64 i))] ∧ Mem ⟨w0, []⟩ S [] [] [] [(false, MP.val [(.slice A2 b'.length c2)] (b' : List Item)), (false, MP.val [(.slice A a'.length c)] (a' : List Item))] w) (fun s h => by cases h) ?_ fu 0 a w0 hB1 hI
      rintro fk i a w hR1 hI
      replace hR1 : laws_eqItemS_L1 fu a' b' (fk + 1) i = some out' := hR1
      rw [laws_eqItemS_L1] at hR1
      obtain ⟨hf, H⟩ := hI
      refine sq ?_
      refine sq ?_
      refine reg ?_
      refine pRun_ok (tb := tab) (n := 27) tabOk 4 _ _ hf rfl rfl fun a hf => ?_
      refine wl_end ?_
      refine then_n ?_
      refine (Bool.eq_false_or_eq_true (decide (i < (a'.length : Int)))).elim (fun hc2 => ?_) (fun hc2 => ?_)
      · rw [if_pos hc2] at hR1
        refine cd_t hf rfl hc2 ?_
        refine wp_skip ?_
        refine then_n ?_
        refine sq ?_
        refine wp_block ?_
        refine sq ?_
        refine drawn [] (bs := [false, false, false, false, false, false, false, false, false, false]) (fuel := 10) (Checked.mixed Try.checked) rfl rfl fun w hb => ?_
        have H := H.keep hb
        refine tkP (i := 0) (bs' := [true, false, false, false, false, false, false, false, false, false]) rfl rfl rfl (by decide) hf (by kernel_rfl) (fun _ => trivial) (fun w => pOp_ok (tb := tab) tabOk hf rfl) rfl fun a hf => ?_
        refine tkP (i := 1) (bs' := [true, true, false, false, false, false, false, false, false, false]) rfl rfl rfl (by decide) hf (by kernel_rfl) (fun _ => trivial) (fun w => pOp_ok (tb := tab) tabOk hf rfl) rfl fun a hf => ?_
        obtain ⟨e, he, hR1⟩ := bind_some hR1
        obtain ⟨p, o, cs, hx, hr, H⟩ := pre_iaddr H Try.underlying53 TF.sz119 1 rfl he
        refine tkP (i := 2) (bs' := [true, true, true, false, false, false, false, false, false, false]) rfl rfl rfl (by decide) hf (by kernel_rfl) (fun _ => trivial) (fun w => rq_iaddrE hf rfl rfl rfl hx w) rfl fun a hf => ?_
        obtain rfl := Item_cells hr
        refine str (fun w => Mem ⟨w0, []⟩ S [] [] [] [(false, MP.cells ⟨p, o, none⟩ [(.int .i64 e.Kind), (.int .i64 e.Node), (.int .i64 e.Count)]), (false, MP.val [(.slice A2 b'.length c2)] (b' : List Item)), (false, MP.val [(.slice A a'.length c)] (a' : List Item))] w) (fun w H => trivial) ?_
        have hS : Mem ⟨w0, []⟩ S [] [] [] [(false, MP.cells ⟨p, o, none⟩ [(.int .i64 e.Kind), (.int .i64 e.Node), (.int .i64 e.Count)]), (false, MP.val [(.slice A2 b'.length c2)] (b' : List Item)), (false, MP.val [(.slice A a'.length c)] (a' : List Item))] w := H.let [] [] [] [0, 1, 2]
        refine tkS (i := 3) (bs' := [true, true, true, true, false, false, false, false, false, false]) [] rfl rfl rfl (by decide) hf (by kernel_rfl) (by kernel_rfl) hS (fun w H => rq_loadIN hf H TF.la119 0 0 rfl rfl rfl rfl) rfl fun a hf => ?_
        refine tkP (i := 4) (bs' := [true, true, true, true, true, false, false, false, false, false]) rfl rfl rfl (by decide) hf (by kernel_rfl) (fun _ => hS) (fun w => pOp_ok (tb := tab) tabOk hf rfl) rfl fun a hf => ?_
        refine tkP (i := 5) (bs' := [true, true, true, true, true, true, false, false, false, false]) rfl rfl rfl (by decide) hf (by kernel_rfl) (fun _ => hS) (fun w => pOp_ok (tb := tab) tabOk hf rfl) rfl fun a hf => ?_
        obtain ⟨e2, he2, hR1⟩ := bind_some hR1
        obtain ⟨p2, o2, cs2, hx2, hr2, H⟩ := pre_iaddr H Try.underlying53 TF.sz119 1 rfl he2
        refine tkP (i := 6) (bs' := [true, true, true, true, true, true, true, false, false, false]) rfl rfl rfl (by decide) hf (by kernel_rfl) (fun _ => hS) (fun w => rq_iaddrE hf rfl rfl rfl hx2 w) rfl fun a hf => ?_
        obtain rfl := Item_cells hr2
        refine str (fun w => Mem ⟨w0, []⟩ S [] [] [] [(false, MP.cells ⟨p2, o2, none⟩ [(.int .i64 e2.Kind), (.int .i64 e2.Node), (.int .i64 e2.Count)]), (false, MP.cells ⟨p, o, none⟩ [(.int .i64 e.Kind), (.int .i64 e.Node), (.int .i64 e.Count)]), (false, MP.val [(.slice A2 b'.length c2)] (b' : List Item)), (false, MP.val [(.slice A a'.length c)] (a' : List Item))] w) (fun w H => H.let [] [] [] [1, 2, 3]) ?_
        have hS : Mem ⟨w0, []⟩ S [] [] [] [(false, MP.cells ⟨p2, o2, none⟩ [(.int .i64 e2.Kind), (.int .i64 e2.Node), (.int .i64 e2.Count)]), (false, MP.cells ⟨p, o, none⟩ [(.int .i64 e.Kind), (.int .i64 e.Node), (.int .i64 e.Count)]), (false, MP.val [(.slice A2 b'.length c2)] (b' : List Item)), (false, MP.val [(.slice A a'.length c)] (a' : List Item))] w := H.let [] [] [] [0, 1, 2, 3]
        refine tkS (i := 7) (bs' := [true, true, true, true, true, true, true, true, false, false]) [] rfl rfl rfl (by decide) hf (by kernel_rfl) (by kernel_rfl) hS (fun w H => rq_loadIN hf H TF.la119 0 0 rfl rfl rfl rfl) rfl fun a hf => ?_
        obtain ⟨y, hy, hR1⟩ := bind_some hR1
        refine on1 (i := 8) (bs' := [true, true, true, true, true, true, true, true, true, false]) (by kernel_rfl) rfl rfl rfl (op_call hf TF.cl117 rfl (by decide) (laws_eqItem_ok (S := fun _ => True) Item_mkv Item_mkv hy) fun v w a hp hf => ?_)
        obtain ⟨hb, hp⟩ := hp
        obtain rfl := VR_bool hp
        have H := H.keep hb
        have hS : Mem ⟨w0, []⟩ S [] [] [] [(false, MP.cells ⟨p2, o2, none⟩ [(.int .i64 e2.Kind), (.int .i64 e2.Node), (.int .i64 e2.Count)]), (false, MP.cells ⟨p, o, none⟩ [(.int .i64 e.Kind), (.int .i64 e.Node), (.int .i64 e.Count)]), (false, MP.val [(.slice A2 b'.length c2)] (b' : List Item)), (false, MP.val [(.slice A a'.length c)] (a' : List Item))] w := H.let [] [] [] [0, 1, 2, 3]
        refine ⟨fun _ => hS, ?_⟩
        refine tkP (i := 9) (bs' := [true, true, true, true, true, true, true, true, true, true]) rfl rfl rfl (by decide) hf (by kernel_rfl) (fun _ => hS) (fun w => pOp_ok (tb := tab) tabOk hf rfl) rfl fun a hf => ?_
        refine dn (by kernel_rfl) ?_
        have hf := hf.prune [0, 1, 5, 26] rfl
        refine then_n ?_
        refine (Bool.eq_false_or_eq_true (!y)).elim (fun hc3 => ?_) (fun hc3 => ?_)
        · rw [if_pos hc3] at hR1
          refine cd_t hf rfl hc3 ?_
          refine sq ?_
          refine reg ?_
          refine pRun_ok (tb := tab) (n := 27) tabOk 1 _ _ hf rfl rfl fun a hf => ?_
          refine wl_end ?_
          refine then_n ?_
          refine wp_ret (blk_r (then_r (then_r (blk_r (then_r (then_r (?_)))))))
          obtain rfl := Option.some.inj hR1
          replace hF := on_ret hF
          obtain rfl := Option.some.inj hF
          refine ret_1 (fn := Try.f50) (r := .tmp 4) hf rfl (rv_tmp hf rfl) ?_
          exact ⟨_, rfl, H.bel, mk_bool⟩
        · rw [if_neg (nt hc3)] at hR1
          refine cd_f hf rfl hc3 ?_
          refine wp_skip ?_
          refine blk_n ?_
          refine then_n ?_
          refine reg ?_
          refine pRun_ok (tb := tab) (n := 27) tabOk 3 _ _ hf rfl rfl fun a hf => ?_
          refine wl_end ?_
          have hf := hf.prune [0, 1, 5] rfl
          have H := H.let [] [] [] [2, 3]
          exact then_n ⟨w64 (i + 1), hR1, hf, H⟩
      · rw [if_neg (nt hc2)] at hR1
        refine cd_f hf rfl hc2 ?_
        refine wp_exit (then_x (then_x (blk_e (?_))))
        have hf := hf.prune [0, 1, 5] rfl
        have H := H.let [] [] [] [0, 1]
        exact ⟨i, (Option.some.inj hR1).symm, hf, H⟩
    rintro a w ⟨i2, rfl, hf, H⟩
    replace hF := on_next hF
    refine then_n ?_
    refine sq ?_
    refine reg ?_
    refine pRun_ok (tb := tab) (n := 27) tabOk 1 _ _ hf rfl rfl fun a hf => ?_
    refine wl_end ?_
    refine then_n ?_
    refine wp_ret (?_)
    obtain rfl := Option.some.inj hF
    refine ret_1 (fn := Try.f50) (r := .tmp 4) hf rfl (rv_tmp hf rfl) ?_
    exact ⟨_, rfl, H.bel, mk_bool⟩

/- loop.example/g00897/laws.markItemS -/
set_option maxHeartbeats 1000000 in
theorem laws_markItemS_ok {fu : Nat} {w0 : World} {S : Nat → Prop} {F : List Nat} {cs : List Value} {v1_ : Value} {a' : List Item} {k' : Int} {r : Int × List Item} (hO : GoTy.own w0 F cs a') (hn : F.Nodup) (h1 : VR w0 S v1_ k') (hF : laws_markItemS fu a' k' = some r) :
    Calls Try.prog 61 [(bif GoTy.agg (List Item) then .agg cs.toArray else cs.headD undef), v1_].toArray w0 fun e w' => ∃ v, e = .returned v ∧ (Chg w0 w' F ∧ VR w' (fun _ => True) v r.1 ∧ ∃ F', GoTy.own w' F' cs r.2 ∧ Back w0 w' F F') := by
  obtain rfl := VR_int h1
  obtain ⟨A, c, rfl, hO⟩ := own_list hO
  have H := Mem.startG S hO hn
  obtain ⟨Fs, E, H, -⟩ := H.thaw rfl
  have H := H.rowSh 0 rfl
  refine enter Try.func61 rfl rfl (nle rfl) rfl fun a hf => ?_
  rw [laws_markItemS] at hF
  refine sq ?_
  refine reg ?_
  refine pRun_ok (tb := tab) (n := 34) tabOk 1 _ _ hf rfl rfl fun a hf => ?_
  refine wl_end ?_
  refine then_n ?_
  refine sq ?_
  refine sq ?_
  refine reg ?_
  refine pRun_ok (tb := tab) (n := 34) tabOk 1 _ _ hf rfl rfl fun a hf => ?_
  refine wl_end ?_
  refine then_n ?_
  obtain ⟨out', hB1, hF⟩ := bind_some hF
  have hf := hf.prune [0, 1, 5] rfl
  have hf : Fr a 34 [(0, (.slice A a'.length c)), (1, (.int .i64 k')), (5, (.int .i64 0))] := by first | exact hf | (simp only [List.length_set] at hf; exact hf)
  have H := H.let [] [true] [] []
  have hI : (fun (s : List Item × Int × Int) (a : Act) (w : World) => match s with | (a2, k2, i) => a2.length = a'.length ∧ Fr a 34 [(0, (.slice A a'.length c)), (1, (.int .i64 k2)), (5, (.int .i64 i))] ∧ Mem ⟨w0, F⟩ S [] [⟨.sh true, E, A, c, (a2 : List Item)⟩] [] [] w) (a', k', 0) a w0 := ⟨rfl, hf, H⟩
  refine mid (fun a w => ∃ s : List Item × Int × Int, out' = s ∧ (fun (s : List Item × Int × Int) (a : Act) (w : World) => match s with | (a2, k2, i) => a2.length = a'.length ∧ Fr a 34 [(0, (.slice A a'.length c)), (1, (.int .i64 k2)), (5, (.int .i64 i))] ∧ Mem ⟨w0, F⟩ S [] [⟨.sh true, E, A, c, (a2 : List Item)⟩] [] [] w) s a w) ?_ ?_
  · refine wp_block ?_
    refine loop_rule (fun k (s : List Item × Int × Int) => laws_markItemS_L1 fu k s.1 s.2.1 s.2.2 = some out') (fun (s : List Item × Int × Int) (a : Act) (w : World) => match s with | (a2, k2, i) => a2.length = a'.length ∧ Fr a 34 [(0, (.slice A a'.length c)), (1, (.int .i64 k2)), (5, (.int .i64 i))] ∧ Mem ⟨w0, F⟩ S [] [⟨.sh true, E, A, c, (a2 : List Item)⟩] [] [] w) (fun s h => by cases h) ?_ fu (a', k', 0) a w0 hB1 hI
    rintro fk ⟨a2, k2, i⟩ a w hR1 hI
    replace hR1 : laws_markItemS_L1 fu (fk + 1) a2 k2 i = some out' := hR1
    rw [laws_markItemS_L1] at hR1
    obtain ⟨hlen, hf, H⟩ := hI
    have hf : Fr a 34 [(0, (.slice A a2.length c)), (1, (.int .i64 k2)), (5, (.int .i64 i))] := by rw [hlen]; exact hf
    refine sq ?_
    refine sq ?_
    refine reg ?_
    refine pRun_ok (tb := tab) (n := 34) tabOk 4 _ _ hf rfl rfl fun a hf => ?_
    refine wl_end ?_
    refine then_n ?_
    refine (Bool.eq_false_or_eq_true (decide (i < (a2.length : Int)))).elim (fun hc => ?_) (fun hc => ?_)
    · rw [if_pos hc] at hR1
      refine cd_t hf rfl hc ?_
      refine wp_skip ?_
      refine then_n ?_
      refine sq ?_
      refine wp_block ?_
      refine sq ?_
      refine reg ?_
      refine pRun_ok (tb := tab) (n := 34) tabOk 3 _ _ hf rfl rfl fun a hf => ?_
      obtain ⟨e, he, hR1⟩ := bind_some hR1
      refine wl0 rfl (op_iaddrR hf H Try.underlying53 TF.sz119 0 rfl rfl rfl he (by decide) fun p o cs a hf hA hr hk => ?_)
      obtain rfl := Item_cells hr
      refine pRun_ok (tb := tab) (n := 34) tabOk 1 _ _ hf rfl rfl fun a hf => ?_
      refine wl0 rfl (op_storeR (e' := ({ Kind := k2, Node := e.Node, Count := e.Count } : Item)) hf H TF.sz3 0 rfl rfl rfl rfl rfl (nle rfl) rfl hA he (fun cs h => by obtain rfl := Item_cells h; exact Item_mk (x := ({ Kind := k2, Node := e.Node, Count := e.Count } : Item))) fun w H => ?_)
      replace hf : Fr a 34 [(0, (.slice A a2.length c)), (1, (.int .i64 k2)), (5, (.int .i64 i)), (6, (.int .i64 i)), (7, (.slice A a2.length c)), (8, (.int .i64 (a2.length : Int))), (9, (.bool (decide (i < (a2.length : Int))))), (12, (.slice A a2.length c)), (13, (.int .i64 i)), (14, (.int .i64 k2)), (15, (.pointer (some ⟨p, o + 0, none⟩))), (16, (.pointer (some ⟨p, o + 0, none⟩)))] := hf.prune [0, 1, 5, 6, 7, 8, 9, 12, 13, 14, 15, 16] rfl
      replace hf : Fr a 34 [(0, (.slice A (a2.set (i).toNat ({ Kind := k2, Node := e.Node, Count := e.Count } : Item)).length c)), (1, (.int .i64 k2)), (5, (.int .i64 i)), (6, (.int .i64 i)), (7, (.slice A (a2.set (i).toNat ({ Kind := k2, Node := e.Node, Count := e.Count } : Item)).length c)), (8, (.int .i64 (a2.length : Int))), (9, (.bool (decide (i < (a2.length : Int))))), (12, (.slice A (a2.set (i).toNat ({ Kind := k2, Node := e.Node, Count := e.Count } : Item)).length c)), (13, (.int .i64 i)), (14, (.int .i64 k2)), (15, (.pointer (some ⟨p, o + 0, none⟩))), (16, (.pointer (some ⟨p, o + 0, none⟩)))] := by simpa only [List.length_set, Nat.add_zero] using hf
      refine wl_end ?_
      refine then_n ?_
      refine sq ?_
      refine reg ?_
      refine pRun_ok (tb := tab) (n := 34) tabOk 3 _ _ hf rfl rfl fun a hf => ?_
      refine wl_end ?_
      refine then_n ?_
      refine sq ?_
      refine reg ?_
      refine pRun_ok (tb := tab) (n := 34) tabOk 3 _ _ hf rfl rfl fun a hf => ?_
      obtain ⟨e2, he2, hR1⟩ := bind_some hR1
      refine wl0 rfl (op_iaddrR hf H Try.underlying53 TF.sz119 0 rfl rfl rfl he2 (by decide) fun p2 o2 cs2 a hf hA2 hr2 hk2 => ?_)
      obtain rfl := Item_cells hr2
      refine pRun_ok (tb := tab) (n := 34) tabOk 1 _ _ hf rfl rfl fun a hf => ?_
      refine wl0 rfl (op_storeR (e' := ({ Kind := e2.Kind, Node := w64 (k2 + 1), Count := e2.Count } : Item)) hf H TF.sz3 0 rfl rfl rfl rfl rfl (nle rfl) rfl hA2 he2 (fun cs h => by obtain rfl := Item_cells h; exact Item_mk (x := ({ Kind := e2.Kind, Node := w64 (k2 + 1), Count := e2.Count } : Item))) fun w H => ?_)
      replace hf : Fr a 34 [(0, (.slice A (a2.set (i).toNat ({ Kind := k2, Node := e.Node, Count := e.Count } : Item)).length c)), (1, (.int .i64 (w64 (k2 + 1)))), (5, (.int .i64 i)), (6, (.int .i64 i)), (7, (.slice A (a2.set (i).toNat ({ Kind := k2, Node := e.Node, Count := e.Count } : Item)).length c)), (8, (.int .i64 (a2.length : Int))), (9, (.bool (decide (i < (a2.length : Int))))), (12, (.slice A (a2.set (i).toNat ({ Kind := k2, Node := e.Node, Count := e.Count } : Item)).length c)), (13, (.int .i64 i)), (14, (.int .i64 k2)), (15, (.pointer (some ⟨p, o + 0, none⟩))), (16, (.pointer (some ⟨p, o + 0, none⟩))), (17, (.int .i64 k2)), (18, (.int .i64 (w64 (k2 + 1)))), (19, (.slice A (a2.set (i).toNat ({ Kind := k2, Node := e.Node, Count := e.Count } : Item)).length c)), (20, (.int .i64 i)), (21, (.int .i64 (w64 (k2 + 1)))), (22, (.pointer (some ⟨p2, o2 + 0, none⟩))), (23, (.pointer (some ⟨p2, o2 + 1, none⟩)))] := hf.prune [0, 1, 5, 6, 7, 8, 9, 12, 13, 14, 15, 16, 17, 18, 19, 20, 21, 22, 23] rfl
      replace hf : Fr a 34 [(0, (.slice A ((a2.set (i).toNat ({ Kind := k2, Node := e.Node, Count := e.Count } : Item)).set (i).toNat ({ Kind := e2.Kind, Node := w64 (k2 + 1), Count := e2.Count } : Item)).length c)), (1, (.int .i64 (w64 (k2 + 1)))), (5, (.int .i64 i)), (6, (.int .i64 i)), (7, (.slice A ((a2.set (i).toNat ({ Kind := k2, Node := e.Node, Count := e.Count } : Item)).set (i).toNat ({ Kind := e2.Kind, Node := w64 (k2 + 1), Count := e2.Count } : Item)).length c)), (8, (.int .i64 (a2.length : Int))), (9, (.bool (decide (i < (a2.length : Int))))), (12, (.slice A ((a2.set (i).toNat ({ Kind := k2, Node := e.Node, Count := e.Count } : Item)).set (i).toNat ({ Kind := e2.Kind, Node := w64 (k2 + 1), Count := e2.Count } : Item)).length c)), (13, (.int .i64 i)), (14, (.int .i64 k2)), (15, (.pointer (some ⟨p, o + 0, none⟩))), (16, (.pointer (some ⟨p, o + 0, none⟩))), (17, (.int .i64 k2)), (18, (.int .i64 (w64 (k2 + 1)))), (19, (.slice A ((a2.set (i).toNat ({ Kind := k2, Node := e.Node, Count := e.Count } : Item)).set (i).toNat ({ Kind := e2.Kind, Node := w64 (k2 + 1), Count := e2.Count } : Item)).length c)), (20, (.int .i64 i)), (21, (.int .i64 (w64 (k2 + 1)))), (22, (.pointer (some ⟨p2, o2 + 0, none⟩))), (23, (.pointer (some ⟨p2, o2 + 1, none⟩)))] := by simpa only [List.length_set, Nat.add_zero] using hf
      have hf := hf.prune [0, 1, 5] rfl
      refine wl_end ?_
      refine then_n ?_
      refine sq ?_
      refine reg ?_
      refine pRun_ok (tb := tab) (n := 34) tabOk 3 _ _ hf rfl rfl fun a hf => ?_
      refine wl_end ?_
      refine then_n ?_
      refine sq ?_
      refine reg ?_
      refine pRun_ok (tb := tab) (n := 34) tabOk 3 _ _ hf rfl rfl fun a hf => ?_
      obtain ⟨e3, he3, hR1⟩ := bind_some hR1
      refine wl0 rfl (op_iaddrR hf H Try.underlying53 TF.sz119 0 rfl rfl rfl he3 (by decide) fun p3 o3 cs3 a hf hA3 hr3 hk3 => ?_)
      obtain rfl := Item_cells hr3
      refine pRun_ok (tb := tab) (n := 34) tabOk 1 _ _ hf rfl rfl fun a hf => ?_
      refine wl0 rfl (op_storeR (e' := ({ Kind := e3.Kind, Node := e3.Node, Count := w64 ((w64 (k2 + 1)) + 1) } : Item)) hf H TF.sz3 0 rfl rfl rfl rfl rfl (nle rfl) rfl hA3 he3 (fun cs h => by obtain rfl := Item_cells h; exact Item_mk (x := ({ Kind := e3.Kind, Node := e3.Node, Count := w64 ((w64 (k2 + 1)) + 1) } : Item))) fun w H => ?_)
      replace hf : Fr a 34 [(0, (.slice A ((a2.set (i).toNat ({ Kind := k2, Node := e.Node, Count := e.Count } : Item)).set (i).toNat ({ Kind := e2.Kind, Node := w64 (k2 + 1), Count := e2.Count } : Item)).length c)), (1, (.int .i64 (w64 ((w64 (k2 + 1)) + 1)))), (5, (.int .i64 i)), (24, (.int .i64 (w64 (k2 + 1)))), (25, (.int .i64 (w64 ((w64 (k2 + 1)) + 1)))), (26, (.slice A ((a2.set (i).toNat ({ Kind := k2, Node := e.Node, Count := e.Count } : Item)).set (i).toNat ({ Kind := e2.Kind, Node := w64 (k2 + 1), Count := e2.Count } : Item)).length c)), (27, (.int .i64 i)), (28, (.int .i64 (w64 ((w64 (k2 + 1)) + 1)))), (29, (.pointer (some ⟨p3, o3 + 0, none⟩))), (30, (.pointer (some ⟨p3, o3 + 2, none⟩)))] := hf.prune [0, 1, 5, 24, 25, 26, 27, 28, 29, 30] rfl
      replace hf : Fr a 34 [(0, (.slice A (((a2.set (i).toNat ({ Kind := k2, Node := e.Node, Count := e.Count } : Item)).set (i).toNat ({ Kind := e2.Kind, Node := w64 (k2 + 1), Count := e2.Count } : Item)).set (i).toNat ({ Kind := e3.Kind, Node := e3.Node, Count := w64 ((w64 (k2 + 1)) + 1) } : Item)).length c)), (1, (.int .i64 (w64 ((w64 (k2 + 1)) + 1)))), (5, (.int .i64 i)), (24, (.int .i64 (w64 (k2 + 1)))), (25, (.int .i64 (w64 ((w64 (k2 + 1)) + 1)))), (26, (.slice A (((a2.set (i).toNat ({ Kind := k2, Node := e.Node, Count := e.Count } : Item)).set (i).toNat ({ Kind := e2.Kind, Node := w64 (k2 + 1), Count := e2.Count } : Item)).set (i).toNat ({ Kind := e3.Kind, Node := e3.Node, Count := w64 ((w64 (k2 + 1)) + 1) } : Item)).length c)), (27, (.int .i64 i)), (28, (.int .i64 (w64 ((w64 (k2 + 1)) + 1)))), (29, (.pointer (some ⟨p3, o3 + 0, none⟩))), (30, (.pointer (some ⟨p3, o3 + 2, none⟩)))] := by simpa only [List.length_set, Nat.add_zero] using hf
      refine wl_end ?_
      refine then_n ?_
      refine reg ?_
      refine pRun_ok (tb := tab) (n := 34) tabOk 3 _ _ hf rfl rfl fun a hf => ?_
      refine wl_end ?_
      refine blk_n ?_
      refine then_n ?_
      refine reg ?_
      refine pRun_ok (tb := tab) (n := 34) tabOk 3 _ _ hf rfl rfl fun a hf => ?_
      refine wl_end ?_
      have hf := hf.prune [0, 1, 5] rfl
      have hf : Fr a 34 [(0, (.slice A a'.length c)), (1, (.int .i64 (w64 ((w64 ((w64 (k2 + 1)) + 1)) + 1)))), (5, (.int .i64 (w64 (i + 1))))] := by first | exact hf | (simp only [List.length_set, hlen] at hf; exact hf)
      have H := H.let [] [true] [] []
      exact then_n ⟨(((a2.set (i).toNat ({ Kind := k2, Node := e.Node, Count := e.Count } : Item)).set (i).toNat ({ Kind := e2.Kind, Node := w64 (k2 + 1), Count := e2.Count } : Item)).set (i).toNat ({ Kind := e3.Kind, Node := e3.Node, Count := w64 ((w64 (k2 + 1)) + 1) } : Item), w64 ((w64 ((w64 (k2 + 1)) + 1)) + 1), w64 (i + 1)), hR1, (by simp only [List.length_set, hlen]), hf, H⟩
    · rw [if_neg (nt hc)] at hR1
      refine cd_f hf rfl hc ?_
      refine wp_exit (then_x (then_x (blk_e (?_))))
      have hf := hf.prune [0, 1, 5] rfl
      have hf : Fr a 34 [(0, (.slice A a'.length c)), (1, (.int .i64 k2)), (5, (.int .i64 i))] := by first | exact hf | (simp only [List.length_set, hlen] at hf; exact hf)
      have H := H.let [] [true] [] []
      exact ⟨(a2, k2, i), (Option.some.inj hR1).symm, (by simp only [List.length_set, hlen]), hf, H⟩
  rintro a w ⟨⟨a3, k3, i2⟩, rfl, hlen, hf, H⟩
  try dsimp only at hlen
  have hf : Fr a 34 [(0, (.slice A a3.length c)), (1, (.int .i64 k3)), (5, (.int .i64 i2))] := by rw [hlen]; exact hf
  dsimp only at hF
  refine then_n ?_
  refine sq ?_
  refine reg ?_
  refine pRun_ok (tb := tab) (n := 34) tabOk 2 _ _ hf rfl rfl fun a hf => ?_
  refine wl_end ?_
  refine then_n ?_
  refine wp_ret (?_)
  have H := H.rowOwn 0 rfl rfl
  obtain ⟨F', H⟩ := H.freezeOwn 0 rfl
  rw [hlen] at H
  obtain rfl := Option.some.inj hF
  refine ret_1 (fn := Try.f61) (r := .tmp 4) hf rfl (rv_tmp hf rfl) ?_
  exact ⟨_, rfl, H.chg, mk_int, _, H.ownAt 0 rfl, H.back⟩

/- loop.example/g00897/laws.heldItemS -/
set_option maxHeartbeats 1000000 in
theorem laws_heldItemS_ok {fu : Nat} {w0 : World} {S : Nat → Prop} {v0_ : Value} {v1_ : Value} {a' : List Item} {k' : Int} {r : Int} (h0 : VR w0 S v0_ a') (h1 : VR w0 S v1_ k') (hF : laws_heldItemS fu a' k' = some r) :
    Calls Try.prog 62 [v0_, v1_].toArray w0 fun e w' => ∃ v, e = .returned v ∧ (Below w0.heap.size w0 w' ∧ VR w' (St ⟨w0, []⟩ S [] [] [] true) v r) := by
  obtain ⟨A, c, rfl, hl⟩ := VR_list h0
  obtain rfl := VR_int h1
  have H := Mem.start ⟨w0, []⟩ S
  have H := H.pushArg (MP.val [(.slice A a'.length c)] a') hl
  refine enter Try.func62 rfl rfl (nle rfl) rfl fun a hf => ?_
  rw [laws_heldItemS] at hF
  refine sq ?_
  refine reg ?_
  refine pRun_ok (tb := tab) (n := 40) tabOk 1 _ _ hf rfl rfl fun a hf => ?_
  refine wl_end ?_
  refine then_n ?_
  refine sq ?_
  refine sq ?_
  refine reg ?_
  refine pRun_ok (tb := tab) (n := 40) tabOk 1 _ _ hf rfl rfl fun a hf => ?_
  refine wl_end ?_
  refine then_n ?_
  obtain ⟨out', hB1, hF⟩ := bind_some hF
  have hf := hf.prune [0, 1, 5] rfl
  have H := H.let [] [] [] [0]
  have hI : (fun (s : Int × Int) (a : Act) (w : World) => match s with | (k2, i) => Fr a 40 [(0, (.slice A a'.length c)), (1, (.int .i64 k2)), (5, (.int .i64 i))] ∧ Mem ⟨w0, []⟩ S [] [] [] [(false, MP.val [(.slice A a'.length c)] (a' : List Item))] w) (k', 0) a w0 := ⟨hf, H⟩
  refine mid (fun a w => ∃ s : Int × Int, out' = Out.next s ∧ (fun (s : Int × Int) (a : Act) (w : World) => match s with | (k2, i) => Fr a 40 [(0, (.slice A a'.length c)), (1, (.int .i64 k2)), (5, (.int .i64 i))] ∧ Mem ⟨w0, []⟩ S [] [] [] [(false, MP.val [(.slice A a'.length c)] (a' : List Item))] w) s a w) ?_ ?_
  · refine wp_block ?_
    refine loop_rule (fun k (s : Int × Int) => laws_heldItemS_L1 fu a' k s.1 s.2 = some out') (fun (s : Int × Int) (a : Act) (w : World) => match s with | (k2, i) => Fr a 40 [(0, (.slice A a'.length c)), (1, (.int .i64 k2)), (5, (.int .i64 i))] ∧ Mem ⟨w0, []⟩ S [] [] [] [(false, MP.val [(.slice A a'.length c)] (a' : List Item))] w) (fun s h => by cases h) ?_ fu (k', 0) a w0 hB1 hI
    rintro fk ⟨k2, i⟩ a w hR1 hI
    replace hR1 : laws_heldItemS_L1 fu a' (fk + 1) k2 i = some out' := hR1
    rw [laws_heldItemS_L1] at hR1
    obtain ⟨hf, H⟩ := hI
    refine sq ?_
    refine sq ?_
    refine reg ?_
    refine pRun_ok (tb := tab) (n := 40) tabOk 4 _ _ hf rfl rfl fun a hf => ?_
    refine wl_end ?_
    refine then_n ?_
    refine (Bool.eq_false_or_eq_true (decide (i < (a'.length : Int)))).elim (fun hc => ?_) (fun hc => ?_)
    · rw [if_pos hc] at hR1
      refine cd_t hf rfl hc ?_
      refine wp_skip ?_
      refine then_n ?_
      refine sq ?_
      refine wp_block ?_
      refine sq ?_
      refine sq ?_
      refine reg ?_
      refine pRun_ok (tb := tab) (n := 40) tabOk 2 _ _ hf rfl rfl fun a hf => ?_
      obtain ⟨e, he, hR1⟩ := bind_some hR1
      refine wl0 rfl (op_iaddr hf H Try.underlying53 TF.sz119 0 rfl rfl rfl he (by decide) fun p o cs a hf hr H => ?_)
      obtain rfl := Item_cells hr
      refine pRun_ok (tb := tab) (n := 40) tabOk 1 _ _ hf rfl rfl fun a hf => ?_
      refine wl0 rfl (op_q hf (rq_loadI hf H TF.ls3 0 0 rfl rfl rfl) rfl (by decide) fun a hf => ?_)
      refine pRun_ok (tb := tab) (n := 40) tabOk 2 _ _ hf rfl rfl fun a hf => ?_
      refine wl_end ?_
      refine then_n ?_
      refine (Bool.eq_false_or_eq_true (e.Kind != k2)).elim (fun hc2 => ?_) (fun hc2 => ?_)
      · rw [if_pos hc2] at hR1
        refine cd_t hf rfl hc2 ?_
        refine sq ?_
        refine reg ?_
        refine pRun_ok (tb := tab) (n := 40) tabOk 1 _ _ hf rfl rfl fun a hf => ?_
        have hf := hf.prune [4] rfl
        refine wl_end ?_
        refine then_n ?_
        refine wp_ret (then_r (blk_r (then_r (then_r (blk_r (then_r (then_r (?_))))))))
        obtain rfl := Option.some.inj hR1
        replace hF := on_ret hF
        obtain rfl := Option.some.inj hF
        refine ret_1 (fn := Try.f62) (r := .tmp 4) hf rfl (rv_tmp hf rfl) ?_
        exact ⟨_, rfl, H.bel, mk_int⟩
      · rw [if_neg (nt hc2)] at hR1
        refine cd_f hf rfl hc2 ?_
        refine wp_skip ?_
        refine then_n ?_
        refine sq ?_
        refine reg ?_
        refine pRun_ok (tb := tab) (n := 40) tabOk 3 _ _ hf rfl rfl fun a hf => ?_
        have hf := hf.prune [0, 1, 5] rfl
        refine wl_end ?_
        refine then_n ?_
        refine sq ?_
        refine sq ?_
        refine reg ?_
        refine pRun_ok (tb := tab) (n := 40) tabOk 2 _ _ hf rfl rfl fun a hf => ?_
        obtain ⟨e2, he2, hR1⟩ := bind_some hR1
        refine wl0 rfl (op_iaddr hf H Try.underlying53 TF.sz119 1 rfl rfl rfl he2 (by decide) fun p2 o2 cs2 a hf hr2 H => ?_)
        obtain rfl := Item_cells hr2
        refine pRun_ok (tb := tab) (n := 40) tabOk 1 _ _ hf rfl rfl fun a hf => ?_
        refine wl0 rfl (op_q hf (rq_loadI hf H TF.ls3 0 1 rfl rfl rfl) rfl (by decide) fun a hf => ?_)
        refine pRun_ok (tb := tab) (n := 40) tabOk 2 _ _ hf rfl rfl fun a hf => ?_
        refine wl_end ?_
        refine then_n ?_
        refine (Bool.eq_false_or_eq_true (e2.Node != (w64 (k2 + 1)))).elim (fun hc3 => ?_) (fun hc3 => ?_)
        · rw [if_pos hc3] at hR1
          refine cd_t hf rfl hc3 ?_
          refine sq ?_
          refine reg ?_
          refine pRun_ok (tb := tab) (n := 40) tabOk 1 _ _ hf rfl rfl fun a hf => ?_
          refine wl_end ?_
          refine then_n ?_
          refine wp_ret (then_r (blk_r (then_r (then_r (blk_r (then_r (then_r (?_))))))))
          obtain rfl := Option.some.inj hR1
          replace hF := on_ret hF
          obtain rfl := Option.some.inj hF
          refine ret_1 (fn := Try.f62) (r := .tmp 4) hf rfl (rv_tmp hf rfl) ?_
          exact ⟨_, rfl, H.bel, mk_int⟩
        · rw [if_neg (nt hc3)] at hR1
          refine cd_f hf rfl hc3 ?_
          refine wp_skip ?_
          refine then_n ?_
          refine sq ?_
          refine reg ?_
          refine pRun_ok (tb := tab) (n := 40) tabOk 3 _ _ hf rfl rfl fun a hf => ?_
          refine wl_end ?_
          refine then_n ?_
          refine sq ?_
          refine sq ?_
          refine reg ?_
          refine pRun_ok (tb := tab) (n := 40) tabOk 2 _ _ hf rfl rfl fun a hf => ?_
          obtain ⟨e3, he3, hR1⟩ := bind_some hR1
          refine wl0 rfl (op_iaddr hf H Try.underlying53 TF.sz119 2 rfl rfl rfl he3 (by decide) fun p3 o3 cs3 a hf hr3 H => ?_)
          obtain rfl := Item_cells hr3
          refine pRun_ok (tb := tab) (n := 40) tabOk 1 _ _ hf rfl rfl fun a hf => ?_
          refine wl0 rfl (op_q hf (rq_loadI hf H TF.ls3 0 2 rfl rfl rfl) rfl (by decide) fun a hf => ?_)
          refine pRun_ok (tb := tab) (n := 40) tabOk 2 _ _ hf rfl rfl fun a hf => ?_
          have hf := hf.prune [0, 1, 5, 36] rfl
          refine wl_end ?_
          refine then_n ?_
          refine (Bool.eq_false_or_eq_true (e3.Count != (w64 ((w64 (k2 + 1)) + 1)))).elim (fun hc4 => ?_) (fun hc4 => ?_)
          · rw [if_pos hc4] at hR1
            refine cd_t hf rfl hc4 ?_
            refine sq ?_
            refine reg ?_
            refine pRun_ok (tb := tab) (n := 40) tabOk 1 _ _ hf rfl rfl fun a hf => ?_
            refine wl_end ?_
            refine then_n ?_
            refine wp_ret (then_r (blk_r (then_r (then_r (blk_r (then_r (then_r (?_))))))))
            obtain rfl := Option.some.inj hR1
            replace hF := on_ret hF
            obtain rfl := Option.some.inj hF
            refine ret_1 (fn := Try.f62) (r := .tmp 4) hf rfl (rv_tmp hf rfl) ?_
            exact ⟨_, rfl, H.bel, mk_int⟩
          · rw [if_neg (nt hc4)] at hR1
            refine cd_f hf rfl hc4 ?_
            refine wp_skip ?_
            refine then_n ?_
            refine reg ?_
            refine pRun_ok (tb := tab) (n := 40) tabOk 3 _ _ hf rfl rfl fun a hf => ?_
            refine wl_end ?_
            refine blk_n ?_
            refine then_n ?_
            refine reg ?_
            refine pRun_ok (tb := tab) (n := 40) tabOk 3 _ _ hf rfl rfl fun a hf => ?_
            refine wl_end ?_
            have hf := hf.prune [0, 1, 5] rfl
            have H := H.let [] [] [] [3]
            exact then_n ⟨(w64 ((w64 ((w64 (k2 + 1)) + 1)) + 1), w64 (i + 1)), hR1, hf, H⟩
    · rw [if_neg (nt hc)] at hR1
      refine cd_f hf rfl hc ?_
      refine wp_exit (then_x (then_x (blk_e (?_))))
      have hf := hf.prune [0, 1, 5] rfl
      have H := H.let [] [] [] [0]
      exact ⟨(k2, i), (Option.some.inj hR1).symm, hf, H⟩
  rintro a w ⟨⟨k3, i2⟩, rfl, hf, H⟩
  replace hF := on_next hF
  dsimp only at hF
  refine then_n ?_
  refine sq ?_
  refine reg ?_
  refine pRun_ok (tb := tab) (n := 40) tabOk 2 _ _ hf rfl rfl fun a hf => ?_
  refine wl_end ?_
  refine then_n ?_
  refine wp_ret (?_)
  obtain rfl := Option.some.inj hF
  refine ret_1 (fn := Try.f62) (r := .tmp 4) hf rfl (rv_tmp hf rfl) ?_
  exact ⟨_, rfl, H.bel, mk_int⟩

/- loop.example/g00897/laws.FnExactMergeBills -/
set_option maxHeartbeats 1000000 in
theorem laws_FnExactMergeBills_ok {fu : Nat} {w0 : World} {S : Nat → Prop} {v0_ : Value} {v1_ : Value} {aA : List Item} {aB : List Item} {r : Bool} (h0 : VR w0 S v0_ aA) (h1 : VR w0 S v1_ aB) (hF : laws_FnExactMergeBills fu aA aB = some r) :
    Calls Try.prog 14 [v0_, v1_].toArray w0 fun e w' => ∃ v, e = .returned v ∧ (Below w0.heap.size w0 w' ∧ VR w' (St ⟨w0, []⟩ S [] [] [] true) v r) := by
  obtain ⟨A, c, rfl, hl⟩ := VR_list h0
  obtain ⟨A2, c2, rfl, hl2⟩ := VR_list h1
  have H := Mem.start ⟨w0, []⟩ S
  have H := H.pushArg (MP.val [(.slice A aA.length c)] aA) hl
  have H := H.pushArg (MP.val [(.slice A2 aB.length c2)] aB) hl2
  refine enter Try.func14 rfl rfl (nle rfl) rfl fun a hf => ?_
  rw [laws_FnExactMergeBills] at hF
  refine sq ?_
  refine reg ?_
  refine pRun_ok (tb := tab) (n := 119) tabOk 1 _ _ hf rfl rfl fun a hf => ?_
  refine wl_end ?_
  refine then_n ?_
  refine sq ?_
  refine reg ?_
  refine pRun_ok (tb := tab) (n := 119) tabOk 1 _ _ hf rfl rfl fun a hf => ?_
  refine wl_end ?_
  refine then_n ?_
  refine sq ?_
  refine reg ?_
  refine pRun_ok (tb := tab) (n := 119) tabOk 2 _ _ hf rfl rfl fun a hf => ?_
  obtain ⟨y, hy, hF⟩ := bind_some hF
  refine wl0 rfl (op_call hf TF.cl46 rfl (by decide) (laws_szItemS_ok (S := fun _ => True) (mk_list (rep_true (α := List Item) (H.get 1 rfl))) mk_int hy) fun v w a hp hf => ?_)
  obtain ⟨hb, hp⟩ := hp
  obtain rfl := VR_int hp
  have H := H.keep hb
  refine pRun_ok (tb := tab) (n := 119) tabOk 1 _ _ hf rfl rfl fun a hf => ?_
  refine wl_end ?_
  refine then_n ?_
  refine sq ?_
  refine sq ?_
  refine reg ?_
  refine pRun_ok (tb := tab) (n := 119) tabOk 2 _ _ hf rfl rfl fun a hf => ?_
  refine wl_end ?_
  refine then_n ?_
  refine (Bool.eq_false_or_eq_true (decide (y < 0))).elim (fun hc => ?_) (fun hc => ?_)
  · rw [if_pos hc] at hF
    refine cd_t hf rfl hc ?_
    refine sq ?_
    refine reg ?_
    refine pRun_ok (tb := tab) (n := 119) tabOk 1 _ _ hf rfl rfl fun a hf => ?_
    refine wl_end ?_
    refine then_n ?_
    refine wp_ret (then_r (?_))
    obtain rfl := Option.some.inj hF
    refine ret_1 (fn := Try.f14) (r := .tmp 4) hf rfl (rv_tmp hf rfl) ?_
    exact ⟨_, rfl, H.bel, mk_bool⟩
  · rw [if_neg (nt hc)] at hF
    refine cd_f hf rfl hc ?_
    refine wp_skip ?_
    refine then_n ?_
    refine sq ?_
    refine reg ?_
    refine pRun_ok (tb := tab) (n := 119) tabOk 2 _ _ hf rfl rfl fun a hf => ?_
    obtain ⟨y2, hy2, hF⟩ := bind_some hF
    refine wl0 rfl (op_call hf TF.cl46 rfl (by decide) (laws_szItemS_ok (S := fun _ => True) (mk_list (rep_true (α := List Item) (H.get 0 rfl))) mk_int hy2) fun v2 w a hp2 hf => ?_)
    obtain ⟨hb2, hp2⟩ := hp2
    obtain rfl := VR_int hp2
    have H := H.keep hb2
    refine pRun_ok (tb := tab) (n := 119) tabOk 1 _ _ hf rfl rfl fun a hf => ?_
    refine wl_end ?_
    refine then_n ?_
    refine sq ?_
    refine sq ?_
    refine reg ?_
    refine pRun_ok (tb := tab) (n := 119) tabOk 2 _ _ hf rfl rfl fun a hf => ?_
    refine wl_end ?_
    refine then_n ?_
    refine (Bool.eq_false_or_eq_true (decide (y2 < 0))).elim (fun hc2 => ?_) (fun hc2 => ?_)
    · rw [if_pos hc2] at hF
      refine cd_t hf rfl hc2 ?_
      refine sq ?_
      refine reg ?_
      refine pRun_ok (tb := tab) (n := 119) tabOk 1 _ _ hf rfl rfl fun a hf => ?_
      have hf := hf.prune [4] rfl
      refine wl_end ?_
      refine then_n ?_
      refine wp_ret (then_r (?_))
      obtain rfl := Option.some.inj hF
      refine ret_1 (fn := Try.f14) (r := .tmp 4) hf rfl (rv_tmp hf rfl) ?_
      exact ⟨_, rfl, H.bel, mk_bool⟩
    · rw [if_neg (nt hc2)] at hF
      refine cd_f hf rfl hc2 ?_
      refine wp_skip ?_
      refine then_n ?_
      refine sq ?_
      refine reg ?_
      refine pRun_ok (tb := tab) (n := 119) tabOk 1 _ _ hf rfl rfl fun a hf => ?_
      obtain ⟨y3, hy3, hF⟩ := bind_some hF
      refine wl0 rfl (op_call hf TF.cl48 rfl (by decide) (laws_toItemS_ok (S := fun _ => True) (mk_list (rep_true (α := List Item) (H.get 1 rfl))) hy3) fun v3 w a hp3 hf => ?_)
      obtain ⟨hb3, F, hp4, hN⟩ := hp3
      obtain ⟨A3, c3, rfl, hl3⟩ := VO_list hp4
      have H := H.addOwn hb3 (X := [(⟨F, MP.own F [(.slice A3 y3.length c3)] (y3 : List Item)⟩ : DI)]) (by simpa using hN.1) (ps1 hl3 ps0) (by simpa using hN.2)
      have H := H.lend 0 rfl
      refine pRun_ok (tb := tab) (n := 119) tabOk 1 _ _ hf rfl rfl fun a hf => ?_
      obtain ⟨y4, hy4, hF⟩ := bind_some hF
      refine wl0 rfl (op_call hf TF.cl48 rfl (by decide) (laws_toItemS_ok (S := fun _ => True) (mk_list (rep_true (α := List Item) (H.get 1 rfl))) hy4) fun v4 w a hp5 hf => ?_)
      obtain ⟨hb4, F3, hp6, hN2⟩ := hp5
      obtain ⟨A4, c4, rfl, hl4⟩ := VO_list hp6
      have H := H.addOwn hb4 (X := [(⟨F3, MP.own F3 [(.slice A4 y4.length c4)] (y4 : List Item)⟩ : DI)]) (by simpa using hN2.1) (ps1 hl4 ps0) (by simpa using hN2.2)
      have H := H.lend 0 rfl
      obtain ⟨y5, hy5, hF⟩ := bind_some hF
      refine wl0 rfl (op_call hf TF.cl63 rfl (by decide) (spec_MergeBills_ok (S := fun _ => True) (mk_list (rep_true (α := List Item) (H.get 1 rfl))) (mk_list (rep_true (α := List Item) (H.get 0 rfl))) hy5) fun v5 w a hp7 hf => ?_)
      obtain ⟨hb5, v6, v7, rfl, hp8, hp9⟩ := hp7
      obtain ⟨A5, c5, rfl, hl5⟩ := VR_list hp8
      obtain rfl := VR_bool hp9
      obtain ⟨F5, H⟩ := H.addRo hb5 (p := MP.val [(.slice A5 y5.1.length c5)] (y5.1 : List Item)) hl5
      have H := H.lendP 0 rfl
      refine pRun_ok (tb := tab) (n := 119) tabOk 5 _ _ hf rfl rfl fun a hf => ?_
      have hf := hf.prune [0, 1, 6, 7] rfl
      refine wl_end ?_
      refine then_n ?_
      refine sq ?_
      refine reg ?_
      refine pRun_ok (tb := tab) (n := 119) tabOk 1 _ _ hf rfl rfl fun a hf => ?_
      obtain ⟨y6, hy6, hF⟩ := bind_some hF
      refine wl0 rfl (op_call hf TF.cl48 rfl (by decide) (laws_toItemS_ok (S := fun _ => True) (mk_list (rep_true (α := List Item) (H.get 4 rfl))) hy6) fun v8 w a hp10 hf => ?_)
      obtain ⟨hb6, F6, hp11, hN3⟩ := hp10
      obtain ⟨A6, c6, rfl, hl6⟩ := VO_list hp11
      have H := H.addOwn hb6 (X := [(⟨F6, MP.own F6 [(.slice A6 y6.length c6)] (y6 : List Item)⟩ : DI)]) (by simpa using hN3.1) (ps1 hl6 ps0) (by simpa using hN3.2)
      have H := H.lend 0 rfl
      refine pRun_ok (tb := tab) (n := 119) tabOk 1 _ _ hf rfl rfl fun a hf => ?_
      refine wl_end ?_
      refine then_n ?_
      refine sq ?_
      refine reg ?_
      refine pRun_ok (tb := tab) (n := 119) tabOk 1 _ _ hf rfl rfl fun a hf => ?_
      obtain ⟨y7, hy7, hF⟩ := bind_some hF
      refine wl0 rfl (op_call hf TF.cl48 rfl (by decide) (laws_toItemS_ok (S := fun _ => True) (mk_list (rep_true (α := List Item) (H.get 4 rfl))) hy7) fun v9 w a hp12 hf => ?_)
      obtain ⟨hb7, F8, hp13, hN4⟩ := hp12
      obtain ⟨A7, c7, rfl, hl7⟩ := VO_list hp13
      have H := H.addOwn hb7 (X := [(⟨F8, MP.own F8 [(.slice A7 y7.length c7)] (y7 : List Item)⟩ : DI)]) (by simpa using hN4.1) (ps1 hl7 ps0) (by simpa using hN4.2)
      have H := H.lend 0 rfl
      refine pRun_ok (tb := tab) (n := 119) tabOk 1 _ _ hf rfl rfl fun a hf => ?_
      refine wl_end ?_
      refine then_n ?_
      refine sq ?_
      refine reg ?_
      refine pRun_ok (tb := tab) (n := 119) tabOk 2 _ _ hf rfl rfl fun a hf => ?_
      obtain ⟨y8, hy8, hF⟩ := bind_some hF
      refine wl0 rfl (op_call hf TF.cl64 rfl (by decide) (impl_MergeBills_ok (S := fun _ => True) (mk_list (rep_true (α := List Item) (H.get 1 rfl))) (mk_list (rep_true (α := List Item) (H.get 0 rfl))) hy8) fun v10 w a hp14 hf => ?_)
      obtain ⟨hb8, F10, v11, v12, rfl, hp15, hp16, hN5⟩ := hp14
      obtain ⟨A8, c8, rfl, hl8⟩ := VO_list hp15
      obtain rfl := VR_bool hp16
      have H := H.addOwn hb8 (X := [(⟨F10, MP.own F10 [(.slice A8 y8.1.length c8)] (y8.1 : List Item)⟩ : DI)]) (by simpa using hN5.1) (ps1 hl8 ps0) (by simpa using hN5.2)
      have H := H.lend 0 rfl
      refine pRun_ok (tb := tab) (n := 119) tabOk 5 _ _ hf rfl rfl fun a hf => ?_
      refine wl_end ?_
      refine then_n ?_
      refine sq ?_
      refine sq ?_
      obtain ⟨c9, hGc9, hF⟩ := bind_some hF
      refine mid (fun a w => Fr a 119 [(0, (.slice A aA.length c)), (1, (.slice A2 aB.length c2)), (6, (.slice A5 y5.1.length c5)), (7, (.bool y5.2)), (8, (.slice A6 y6.length c6)), (9, (.slice A7 y7.length c7)), (10, (.slice A8 y8.1.length c8)), (11, (.bool y8.2)), (53, (.bool c9))] ∧ Mem ⟨w0, []⟩ S [] [] [⟨F10, MP.own F10 [(.slice A8 y8.1.length c8)] (y8.1 : List Item)⟩, ⟨F8, MP.own F8 [(.slice A7 y7.length c7)] (y7 : List Item)⟩, ⟨F6, MP.own F6 [(.slice A6 y6.length c6)] (y6 : List Item)⟩, ⟨F5, MP.val [(.slice A5 y5.1.length c5)] (y5.1 : List Item)⟩] [(true, MP.val [(.slice A8 y8.1.length c8)] (y8.1 : List Item)), (true, MP.val [(.slice A7 y7.length c7)] (y7 : List Item)), (true, MP.val [(.slice A6 y6.length c6)] (y6 : List Item)), (true, MP.val [(.slice A5 y5.1.length c5)] (y5.1 : List Item)), (false, MP.val [(.slice A2 aB.length c2)] (aB : List Item)), (false, MP.val [(.slice A aA.length c)] (aA : List Item))] w) ?_ ?_
      · refine reg ?_
        refine pRun_ok (tb := tab) (n := 119) tabOk 2 _ _ hf rfl rfl fun a hf => ?_
        obtain ⟨y9, hy9, hGc9⟩ := bind_some hGc9
        refine wl0 rfl (op_call hf TF.cl50 rfl (by decide) (laws_eqItemS_ok (S := fun _ => True) (mk_list (rep_true (α := List Item) (H.get 0 rfl))) (mk_list (rep_true (α := List Item) (H.get 3 rfl))) hy9) fun v13 w a hp17 hf => ?_)
        obtain ⟨hb9, hp17⟩ := hp17
        obtain rfl := VR_bool hp17
        have H := H.keep hb9
        refine pRun_ok (tb := tab) (n := 119) tabOk 2 _ _ hf rfl rfl fun a hf => ?_
        refine (Bool.eq_false_or_eq_true (!y9)).elim (fun hc3 => ?_) (fun hc3 => ?_)
        · rw [if_pos hc3] at hGc9
          have hf := hf.lit 49 rfl hc3
          refine pRun_ok (tb := tab) (n := 119) tabOk 4 _ _ hf rfl rfl fun a hf => ?_
          obtain rfl := Option.some.inj hGc9
          have hf := hf.prune [0, 1, 6, 7, 8, 9, 10, 11, 53] rfl
          have H := H.let [] [] [true, true, true, true, false, false] [0, 1, 2, 3, 6, 7]
          exact wl_end ⟨hf, H⟩
        · rw [if_neg (nt hc3)] at hGc9
          have hf := hf.lit 49 rfl hc3
          refine pRun_ok (tb := tab) (n := 119) tabOk 4 _ _ hf rfl rfl fun a hf => ?_
          obtain rfl := Option.some.inj hGc9
          have hf := hf.prune [0, 1, 6, 7, 8, 9, 10, 11, 53] rfl
          have H := H.let [] [] [true, true, true, true, false, false] [0, 1, 2, 3, 6, 7]
          exact wl_end ⟨hf, H⟩
      rintro a w ⟨hf, H⟩
      refine then_n ?_
      refine (Bool.eq_false_or_eq_true (c9)).elim (fun hc4 => ?_) (fun hc4 => ?_)
      · rw [if_pos hc4] at hF
        refine cd_t hf rfl hc4 ?_
        refine sq ?_
        refine reg ?_
        refine pRun_ok (tb := tab) (n := 119) tabOk 1 _ _ hf rfl rfl fun a hf => ?_
        refine wl_end ?_
        refine then_n ?_
        refine wp_ret (then_r (?_))
        obtain rfl := Option.some.inj hF
        refine ret_1 (fn := Try.f14) (r := .tmp 4) hf rfl (rv_tmp hf rfl) ?_
        exact ⟨_, rfl, H.bel, mk_bool⟩
      · rw [if_neg (nt hc4)] at hF
        refine cd_f hf rfl hc4 ?_
        refine wp_skip ?_
        refine then_n ?_
        refine sq ?_
        refine sq ?_
        refine reg ?_
        refine pRun_ok (tb := tab) (n := 119) tabOk 2 _ _ hf rfl rfl fun a hf => ?_
        obtain ⟨y10, hy10, hF⟩ := bind_some hF
        refine wl0 rfl (op_call hf TF.cl48 rfl (by decide) (laws_toItemS_ok (S := fun _ => True) (mk_list (rep_true (α := List Item) (H.get 5 rfl))) hy10) fun v14 w a hp18 hf => ?_)
        obtain ⟨hb10, F12, hp19, hN6⟩ := hp18
        obtain ⟨A9, c10, rfl, hl9⟩ := VO_list hp19
        have H := H.addOwn hb10 (X := [(⟨F12, MP.own F12 [(.slice A9 y10.length c10)] (y10 : List Item)⟩ : DI)]) (by simpa using hN6.1) (ps1 hl9 ps0) (by simpa using hN6.2)
        have H := H.lend 0 rfl
        obtain ⟨y11, hy11, hF⟩ := bind_some hF
        refine wl0 rfl (op_call hf TF.cl50 rfl (by decide) (laws_eqItemS_ok (S := fun _ => True) (mk_list (rep_true (α := List Item) (H.get 3 rfl))) (mk_list (rep_true (α := List Item) (H.get 0 rfl))) hy11) fun v15 w a hp20 hf => ?_)
        obtain ⟨hb11, hp20⟩ := hp20
        obtain rfl := VR_bool hp20
        have H := H.keep hb11
        refine pRun_ok (tb := tab) (n := 119) tabOk 1 _ _ hf rfl rfl fun a hf => ?_
        refine wl_end ?_
        refine then_n ?_
        refine (Bool.eq_false_or_eq_true (!y11)).elim (fun hc5 => ?_) (fun hc5 => ?_)
        · rw [if_pos hc5] at hF
          refine cd_t hf rfl hc5 ?_
          refine sq ?_
          refine reg ?_
          refine pRun_ok (tb := tab) (n := 119) tabOk 1 _ _ hf rfl rfl fun a hf => ?_
          have hf := hf.prune [4] rfl
          refine wl_end ?_
          refine then_n ?_
          refine wp_ret (then_r (?_))
          obtain rfl := Option.some.inj hF
          refine ret_1 (fn := Try.f14) (r := .tmp 4) hf rfl (rv_tmp hf rfl) ?_
          exact ⟨_, rfl, H.bel, mk_bool⟩
        · rw [if_neg (nt hc5)] at hF
          refine cd_f hf rfl hc5 ?_
          refine wp_skip ?_
          refine then_n ?_
          refine sq ?_
          refine sq ?_
          refine reg ?_
          refine pRun_ok (tb := tab) (n := 119) tabOk 2 _ _ hf rfl rfl fun a hf => ?_
          obtain ⟨y12, hy12, hF⟩ := bind_some hF
          refine wl0 rfl (op_call hf TF.cl48 rfl (by decide) (laws_toItemS_ok (S := fun _ => True) (mk_list (rep_true (α := List Item) (H.get 5 rfl))) hy12) fun v16 w a hp21 hf => ?_)
          obtain ⟨hb12, F14, hp22, hN7⟩ := hp21
          obtain ⟨A10, c11, rfl, hl10⟩ := VO_list hp22
          have H := H.addOwn hb12 (X := [(⟨F14, MP.own F14 [(.slice A10 y12.length c11)] (y12 : List Item)⟩ : DI)]) (by simpa using hN7.1) (ps1 hl10 ps0) (by simpa using hN7.2)
          have H := H.lend 0 rfl
          obtain ⟨y13, hy13, hF⟩ := bind_some hF
          refine wl0 rfl (op_call hf TF.cl50 rfl (by decide) (laws_eqItemS_ok (S := fun _ => True) (mk_list (rep_true (α := List Item) (H.get 3 rfl))) (mk_list (rep_true (α := List Item) (H.get 0 rfl))) hy13) fun v17 w a hp23 hf => ?_)
          obtain ⟨hb13, hp23⟩ := hp23
          obtain rfl := VR_bool hp23
          have H := H.keep hb13
          refine pRun_ok (tb := tab) (n := 119) tabOk 1 _ _ hf rfl rfl fun a hf => ?_
          refine wl_end ?_
          refine then_n ?_
          refine (Bool.eq_false_or_eq_true (!y13)).elim (fun hc6 => ?_) (fun hc6 => ?_)
          · rw [if_pos hc6] at hF
            refine cd_t hf rfl hc6 ?_
            refine sq ?_
            refine reg ?_
            refine pRun_ok (tb := tab) (n := 119) tabOk 1 _ _ hf rfl rfl fun a hf => ?_
            have hf := hf.prune [4] rfl
            refine wl_end ?_
            refine then_n ?_
            refine wp_ret (then_r (?_))
            obtain rfl := Option.some.inj hF
            refine ret_1 (fn := Try.f14) (r := .tmp 4) hf rfl (rv_tmp hf rfl) ?_
            exact ⟨_, rfl, H.bel, mk_bool⟩
          · rw [if_neg (nt hc6)] at hF
            refine cd_f hf rfl hc6 ?_
            refine wp_skip ?_
            refine then_n ?_
            refine sq ?_
            refine reg ?_
            refine pRun_ok (tb := tab) (n := 119) tabOk 1 _ _ hf rfl rfl fun a hf => ?_
            refine wl_end ?_
            refine then_n ?_
            refine sq ?_
            refine reg ?_
            refine pRun_ok (tb := tab) (n := 119) tabOk 2 _ _ hf rfl rfl fun a hf => ?_
            have H := H.frontD 4 rfl
            obtain ⟨y14, hy14, hF⟩ := bind_some hF
            refine wl0 rfl (op_call hf TF.cl61 rfl (by decide) (laws_markItemS_ok (S := fun _ => True) (F := F6) (cs := [(.slice A6 y6.length c6)]) (H.ownAt 0 rfl) H.diNd.1 mk_int hy14) fun v18 w a hp24 hf => ?_)
            obtain ⟨hch, hv, F16, ho, hbk⟩ := hp24
            obtain rfl := VR_int hv
            have H := H.wrote rfl hch ho hbk
            have H := H.arg (p := MP.val [(.slice A aA.length c)] aA) hl
            have H := H.arg (p := MP.val [(.slice A2 aB.length c2)] aB) hl2
            have H := H.lend 0 rfl
            have H := H.lend 1 rfl
            have H := H.lend 2 rfl
            have H := H.lend 3 rfl
            have H := H.lend 4 rfl
            have H := H.lendP 5 rfl
            refine pRun_ok (tb := tab) (n := 119) tabOk 1 _ _ hf rfl rfl fun a hf => ?_
            have hf := hf.prune [0, 1, 6, 7, 9, 10, 11, 12] rfl
            refine wl_end ?_
            refine then_n ?_
            refine sq ?_
            refine reg ?_
            refine pRun_ok (tb := tab) (n := 119) tabOk 2 _ _ hf rfl rfl fun a hf => ?_
            have H := H.frontD 4 rfl
            obtain ⟨y15, hy15, hF⟩ := bind_some hF
            refine wl0 rfl (op_call hf TF.cl61 rfl (by decide) (laws_markItemS_ok (S := fun _ => True) (F := F8) (cs := [(.slice A7 y7.length c7)]) (H.ownAt 0 rfl) H.diNd.1 mk_int hy15) fun v19 w a hp25 hf => ?_)
            obtain ⟨hch2, hv2, F17, ho2, hbk2⟩ := hp25
            obtain rfl := VR_int hv2
            have H := H.wrote rfl hch2 ho2 hbk2
            have H := H.arg (p := MP.val [(.slice A aA.length c)] aA) hl
            have H := H.arg (p := MP.val [(.slice A2 aB.length c2)] aB) hl2
            have H := H.lend 0 rfl
            have H := H.lend 1 rfl
            have H := H.lend 2 rfl
            have H := H.lend 3 rfl
            have H := H.lend 4 rfl
            have H := H.lendP 5 rfl
            refine pRun_ok (tb := tab) (n := 119) tabOk 1 _ _ hf rfl rfl fun a hf => ?_
            refine wl_end ?_
            refine then_n ?_
            refine sq ?_
            refine sq ?_
            obtain ⟨c12, hGc12, hF⟩ := bind_some hF
            refine mid (fun a w => Fr a 119 [(0, (.slice A aA.length c)), (1, (.slice A2 aB.length c2)), (6, (.slice A5 y5.1.length c5)), (7, (.bool y5.2)), (10, (.slice A8 y8.1.length c8)), (82, (.bool c12))] ∧ Mem ⟨w0, []⟩ S [] [] [⟨F10, MP.own F10 [(.slice A8 y8.1.length c8)] (y8.1 : List Item)⟩, ⟨F5, MP.val [(.slice A5 y5.1.length c5)] (y5.1 : List Item)⟩] [(true, MP.val [(.slice A5 y5.1.length c5)] (y5.1 : List Item)), (true, MP.val [(.slice A8 y8.1.length c8)] (y8.1 : List Item)), (false, MP.val [(.slice A2 aB.length c2)] (aB : List Item)), (false, MP.val [(.slice A aA.length c)] (aA : List Item))] w) ?_ ?_
            · refine reg ?_
              refine pRun_ok (tb := tab) (n := 119) tabOk 3 _ _ hf rfl rfl fun a hf => ?_
              refine (Bool.eq_false_or_eq_true (decide (y15.1 < 0))).elim (fun hc7 => ?_) (fun hc7 => ?_)
              · rw [if_pos hc7] at hGc12
                have hf := hf.lit 72 rfl hc7
                refine pRun_ok (tb := tab) (n := 119) tabOk 10 _ _ hf rfl rfl fun a hf => ?_
                obtain rfl := Option.some.inj hGc12
                have hf := hf.prune [0, 1, 6, 7, 10, 82] rfl
                have H := H.let [] [] [false, false, false, false, true, true] [0, 1, 6, 7]
                exact wl_end ⟨hf, H⟩
              · rw [if_neg (nt hc7)] at hGc12
                have hf := hf.lit 72 rfl hc7
                refine pRun_ok (tb := tab) (n := 119) tabOk 2 _ _ hf rfl rfl fun a hf => ?_
                obtain ⟨y16, hy16, hGc12⟩ := bind_some hGc12
                refine wlg hf rfl rfl rfl (op_call hf TF.cl50 rfl (by decide) (laws_eqItemS_ok (S := fun _ => True) (mk_list (rep_true (α := List Item) (H.get 1 rfl))) (mk_list (rep_true (α := List Item) (H.get 0 rfl))) hy16) fun v20 w a hp26 hf => ?_)
                obtain ⟨hb14, hp26⟩ := hp26
                obtain rfl := VR_bool hp26
                have H := H.keep hb14
                refine pRun_ok (tb := tab) (n := 119) tabOk 3 _ _ hf rfl rfl fun a hf => ?_
                refine (Bool.eq_false_or_eq_true (!y16)).elim (fun hc8 => ?_) (fun hc8 => ?_)
                · rw [if_pos hc8] at hGc12
                  have hf := hf.lit 78 rfl hc8
                  refine pRun_ok (tb := tab) (n := 119) tabOk 4 _ _ hf rfl rfl fun a hf => ?_
                  obtain rfl := Option.some.inj hGc12
                  have hf := hf.prune [0, 1, 6, 7, 10, 82] rfl
                  have H := H.let [] [] [false, false, false, false, true, true] [0, 1, 6, 7]
                  exact wl_end ⟨hf, H⟩
                · rw [if_neg (nt hc8)] at hGc12
                  have hf := hf.lit 78 rfl hc8
                  refine pRun_ok (tb := tab) (n := 119) tabOk 4 _ _ hf rfl rfl fun a hf => ?_
                  obtain rfl := Option.some.inj hGc12
                  have hf := hf.prune [0, 1, 6, 7, 10, 82] rfl
                  have H := H.let [] [] [false, false, false, false, true, true] [0, 1, 6, 7]
                  exact wl_end ⟨hf, H⟩
            rintro a w ⟨hf, H⟩
            refine then_n ?_
            refine (Bool.eq_false_or_eq_true (c12)).elim (fun hc9 => ?_) (fun hc9 => ?_)
            · rw [if_pos hc9] at hF
              refine cd_t hf rfl hc9 ?_
              refine sq ?_
              refine reg ?_
              refine pRun_ok (tb := tab) (n := 119) tabOk 1 _ _ hf rfl rfl fun a hf => ?_
              refine wl_end ?_
              refine then_n ?_
              refine wp_ret (then_r (?_))
              obtain rfl := Option.some.inj hF
              refine ret_1 (fn := Try.f14) (r := .tmp 4) hf rfl (rv_tmp hf rfl) ?_
              exact ⟨_, rfl, H.bel, mk_bool⟩
            · rw [if_neg (nt hc9)] at hF
              refine cd_f hf rfl hc9 ?_
              refine wp_skip ?_
              refine then_n ?_
              refine sq ?_
              refine reg ?_
              refine pRun_ok (tb := tab) (n := 119) tabOk 1 _ _ hf rfl rfl fun a hf => ?_
              refine wl_end ?_
              refine then_n ?_
              refine sq ?_
              refine reg ?_
              refine pRun_ok (tb := tab) (n := 119) tabOk 2 _ _ hf rfl rfl fun a hf => ?_
              obtain ⟨y17, hy17, hF⟩ := bind_some hF
              refine wl0 rfl (op_call hf TF.cl61 rfl (by decide) (laws_markItemS_ok (S := fun _ => True) (F := F10) (cs := [(.slice A8 y8.1.length c8)]) (H.ownAt 0 rfl) H.diNd.1 mk_int hy17) fun v21 w a hp27 hf => ?_)
              obtain ⟨hch3, hv3, F18, ho3, hbk3⟩ := hp27
              obtain rfl := VR_int hv3
              have H := H.wrote rfl hch3 ho3 hbk3
              have H := H.arg (p := MP.val [(.slice A aA.length c)] aA) hl
              have H := H.arg (p := MP.val [(.slice A2 aB.length c2)] aB) hl2
              have H := H.lend 0 rfl
              have H := H.lendP 1 rfl
              refine pRun_ok (tb := tab) (n := 119) tabOk 1 _ _ hf rfl rfl fun a hf => ?_
              refine wl_end ?_
              refine then_n ?_
              refine sq ?_
              refine reg ?_
              refine pRun_ok (tb := tab) (n := 119) tabOk 1 _ _ hf rfl rfl fun a hf => ?_
              refine wl_end ?_
              refine then_n ?_
              refine sq ?_
              refine reg ?_
              refine pRun_ok (tb := tab) (n := 119) tabOk 2 _ _ hf rfl rfl fun a hf => ?_
              obtain ⟨y18, hy18, hF⟩ := bind_some hF
              refine wl0 rfl (op_call hf TF.cl62 rfl (by decide) (laws_heldItemS_ok (S := fun _ => True) (mk_list (rep_true (α := List Item) (H.get 1 rfl))) mk_int hy18) fun v22 w a hp28 hf => ?_)
              obtain ⟨hb15, hp28⟩ := hp28
              obtain rfl := VR_int hp28
              have H := H.keep hb15
              refine pRun_ok (tb := tab) (n := 119) tabOk 1 _ _ hf rfl rfl fun a hf => ?_
              refine wl_end ?_
              refine then_n ?_
              refine sq ?_
              refine sq ?_
              refine reg ?_
              refine pRun_ok (tb := tab) (n := 119) tabOk 2 _ _ hf rfl rfl fun a hf => ?_
              refine wl_end ?_
              refine then_n ?_
              refine (Bool.eq_false_or_eq_true (decide (y18 < 0))).elim (fun hc10 => ?_) (fun hc10 => ?_)
              · rw [if_pos hc10] at hF
                refine cd_t hf rfl hc10 ?_
                refine sq ?_
                refine reg ?_
                refine pRun_ok (tb := tab) (n := 119) tabOk 1 _ _ hf rfl rfl fun a hf => ?_
                have hf := hf.prune [4] rfl
                refine wl_end ?_
                refine then_n ?_
                refine wp_ret (then_r (?_))
                obtain rfl := Option.some.inj hF
                refine ret_1 (fn := Try.f14) (r := .tmp 4) hf rfl (rv_tmp hf rfl) ?_
                exact ⟨_, rfl, H.bel, mk_bool⟩
              · rw [if_neg (nt hc10)] at hF
                refine cd_f hf rfl hc10 ?_
                refine wp_skip ?_
                refine then_n ?_
                refine sq ?_
                refine sq ?_
                refine reg ?_
                refine pRun_ok (tb := tab) (n := 119) tabOk 3 _ _ hf rfl rfl fun a hf => ?_
                refine wl_end ?_
                refine then_n ?_
                refine (Bool.eq_false_or_eq_true (y18 != y17.1)).elim (fun hc11 => ?_) (fun hc11 => ?_)
                · rw [if_pos hc11] at hF
                  refine cd_t hf rfl hc11 ?_
                  refine sq ?_
                  refine reg ?_
                  refine pRun_ok (tb := tab) (n := 119) tabOk 1 _ _ hf rfl rfl fun a hf => ?_
                  have hf := hf.prune [4] rfl
                  refine wl_end ?_
                  refine then_n ?_
                  refine wp_ret (then_r (?_))
                  obtain rfl := Option.some.inj hF
                  refine ret_1 (fn := Try.f14) (r := .tmp 4) hf rfl (rv_tmp hf rfl) ?_
                  exact ⟨_, rfl, H.bel, mk_bool⟩
                · rw [if_neg (nt hc11)] at hF
                  refine cd_f hf rfl hc11 ?_
                  refine wp_skip ?_
                  refine then_n ?_
                  refine sq ?_
                  refine reg ?_
                  refine pRun_ok (tb := tab) (n := 119) tabOk 1 _ _ hf rfl rfl fun a hf => ?_
                  obtain ⟨y19, hy19, hF⟩ := bind_some hF
                  refine wl0 rfl (op_call hf TF.cl48 rfl (by decide) (laws_toItemS_ok (S := fun _ => True) (mk_list (rep_true (α := List Item) (H.get 3 rfl))) hy19) fun v23 w a hp29 hf => ?_)
                  obtain ⟨hb16, F19, hp30, hN8⟩ := hp29
                  obtain ⟨A11, c13, rfl, hl11⟩ := VO_list hp30
                  have H := H.addOwn hb16 (X := [(⟨F19, MP.own F19 [(.slice A11 y19.length c13)] (y19 : List Item)⟩ : DI)]) (by simpa using hN8.1) (ps1 hl11 ps0) (by simpa using hN8.2)
                  have H := H.lend 0 rfl
                  refine pRun_ok (tb := tab) (n := 119) tabOk 1 _ _ hf rfl rfl fun a hf => ?_
                  obtain ⟨y20, hy20, hF⟩ := bind_some hF
                  refine wl0 rfl (op_call hf TF.cl48 rfl (by decide) (laws_toItemS_ok (S := fun _ => True) (mk_list (rep_true (α := List Item) (H.get 3 rfl))) hy20) fun v24 w a hp31 hf => ?_)
                  obtain ⟨hb17, F21, hp32, hN9⟩ := hp31
                  obtain ⟨A12, c14, rfl, hl12⟩ := VO_list hp32
                  have H := H.addOwn hb17 (X := [(⟨F21, MP.own F21 [(.slice A12 y20.length c14)] (y20 : List Item)⟩ : DI)]) (by simpa using hN9.1) (ps1 hl12 ps0) (by simpa using hN9.2)
                  have H := H.lend 0 rfl
                  obtain ⟨y21, hy21, hF⟩ := bind_some hF
                  refine wl0 rfl (op_call hf TF.cl64 rfl (by decide) (impl_MergeBills_ok (S := fun _ => True) (mk_list (rep_true (α := List Item) (H.get 1 rfl))) (mk_list (rep_true (α := List Item) (H.get 0 rfl))) hy21) fun v25 w a hp33 hf => ?_)
                  obtain ⟨hb18, F23, v26, v27, rfl, hp34, hp35, hN10⟩ := hp33
                  obtain ⟨A13, c15, rfl, hl13⟩ := VO_list hp34
                  obtain rfl := VR_bool hp35
                  have H := H.addOwn hb18 (X := [(⟨F23, MP.own F23 [(.slice A13 y21.1.length c15)] (y21.1 : List Item)⟩ : DI)]) (by simpa using hN10.1) (ps1 hl13 ps0) (by simpa using hN10.2)
                  have H := H.lend 0 rfl
                  refine pRun_ok (tb := tab) (n := 119) tabOk 5 _ _ hf rfl rfl fun a hf => ?_
                  have hf := hf.prune [6, 7, 10, 13, 15, 16] rfl
                  refine wl_end ?_
                  refine then_n ?_
                  refine sq ?_
                  refine sq ?_
                  obtain ⟨c16, hGc16, hF⟩ := bind_some hF
                  refine mid (fun a w => Fr a 119 [(10, (.slice A8 y8.1.length c8)), (13, (.int .i64 y17.1)), (110, (.bool c16))] ∧ Mem ⟨w0, []⟩ S [] [] [⟨F18, MP.own F18 [(.slice A8 y8.1.length c8)] (y17.2 : List Item)⟩] [(true, MP.val [(.slice A8 y8.1.length c8)] (y17.2 : List Item))] w) ?_ ?_
                  · refine reg ?_
                    refine pRun_ok (tb := tab) (n := 119) tabOk 2 _ _ hf rfl rfl fun a hf => ?_
                    obtain ⟨y22, hy22, hGc16⟩ := bind_some hGc16
                    refine wl0 rfl (op_call hf TF.cl50 rfl (by decide) (laws_eqItemS_ok (S := fun _ => True) (mk_list (rep_true (α := List Item) (H.get 0 rfl))) (mk_list (rep_true (α := List Item) (H.get 3 rfl))) hy22) fun v28 w a hp36 hf => ?_)
                    obtain ⟨hb19, hp36⟩ := hp36
                    obtain rfl := VR_bool hp36
                    have H := H.keep hb19
                    refine pRun_ok (tb := tab) (n := 119) tabOk 2 _ _ hf rfl rfl fun a hf => ?_
                    refine (Bool.eq_false_or_eq_true (!y22)).elim (fun hc12 => ?_) (fun hc12 => ?_)
                    · rw [if_pos hc12] at hGc16
                      have hf := hf.lit 106 rfl hc12
                      refine pRun_ok (tb := tab) (n := 119) tabOk 4 _ _ hf rfl rfl fun a hf => ?_
                      obtain rfl := Option.some.inj hGc16
                      have hf := hf.prune [10, 13, 110] rfl
                      have H := H.let [] [] [false, false, false, true, false] [4]
                      exact wl_end ⟨hf, H⟩
                    · rw [if_neg (nt hc12)] at hGc16
                      have hf := hf.lit 106 rfl hc12
                      refine pRun_ok (tb := tab) (n := 119) tabOk 4 _ _ hf rfl rfl fun a hf => ?_
                      obtain rfl := Option.some.inj hGc16
                      have hf := hf.prune [10, 13, 110] rfl
                      have H := H.let [] [] [false, false, false, true, false] [4]
                      exact wl_end ⟨hf, H⟩
                  rintro a w ⟨hf, H⟩
                  refine then_n ?_
                  refine (Bool.eq_false_or_eq_true (c16)).elim (fun hc13 => ?_) (fun hc13 => ?_)
                  · rw [if_pos hc13] at hF
                    refine cd_t hf rfl hc13 ?_
                    refine sq ?_
                    refine reg ?_
                    refine pRun_ok (tb := tab) (n := 119) tabOk 1 _ _ hf rfl rfl fun a hf => ?_
                    refine wl_end ?_
                    refine then_n ?_
                    refine wp_ret (then_r (?_))
                    obtain rfl := Option.some.inj hF
                    refine ret_1 (fn := Try.f14) (r := .tmp 4) hf rfl (rv_tmp hf rfl) ?_
                    exact ⟨_, rfl, H.bel, mk_bool⟩
                  · rw [if_neg (nt hc13)] at hF
                    refine cd_f hf rfl hc13 ?_
                    refine wp_skip ?_
                    refine then_n ?_
                    refine sq ?_
                    refine reg ?_
                    refine pRun_ok (tb := tab) (n := 119) tabOk 1 _ _ hf rfl rfl fun a hf => ?_
                    refine wl_end ?_
                    refine then_n ?_
                    refine sq ?_
                    refine reg ?_
                    refine pRun_ok (tb := tab) (n := 119) tabOk 2 _ _ hf rfl rfl fun a hf => ?_
                    obtain ⟨y23, hy23, hF⟩ := bind_some hF
                    refine wl0 rfl (op_call hf TF.cl62 rfl (by decide) (laws_heldItemS_ok (S := fun _ => True) (mk_list (rep_true (α := List Item) (H.get 0 rfl))) mk_int hy23) fun v29 w a hp37 hf => ?_)
                    obtain ⟨hb20, hp37⟩ := hp37
                    obtain rfl := VR_int hp37
                    have H := H.keep hb20
                    refine pRun_ok (tb := tab) (n := 119) tabOk 1 _ _ hf rfl rfl fun a hf => ?_
                    refine wl_end ?_
                    refine then_n ?_
                    refine sq ?_
                    refine sq ?_
                    refine reg ?_
                    refine pRun_ok (tb := tab) (n := 119) tabOk 2 _ _ hf rfl rfl fun a hf => ?_
                    refine wl_end ?_
                    refine then_n ?_
                    refine (Bool.eq_false_or_eq_true (decide (y23 < 0))).elim (fun hc14 => ?_) (fun hc14 => ?_)
                    · rw [if_pos hc14] at hF
                      refine cd_t hf rfl hc14 ?_
                      refine sq ?_
                      refine reg ?_
                      refine pRun_ok (tb := tab) (n := 119) tabOk 1 _ _ hf rfl rfl fun a hf => ?_
                      refine wl_end ?_
                      refine then_n ?_
                      refine wp_ret (then_r (?_))
                      obtain rfl := Option.some.inj hF
                      refine ret_1 (fn := Try.f14) (r := .tmp 4) hf rfl (rv_tmp hf rfl) ?_
                      exact ⟨_, rfl, H.bel, mk_bool⟩
                    · rw [if_neg (nt hc14)] at hF
                      refine cd_f hf rfl hc14 ?_
                      refine wp_skip ?_
                      refine then_n ?_
                      refine sq ?_
                      refine sq ?_
                      refine reg ?_
                      refine pRun_ok (tb := tab) (n := 119) tabOk 3 _ _ hf rfl rfl fun a hf => ?_
                      refine wl_end ?_
                      refine then_n ?_
                      refine (Bool.eq_false_or_eq_true (y23 != y17.1)).elim (fun hc15 => ?_) (fun hc15 => ?_)
                      · rw [if_pos hc15] at hF
                        refine cd_t hf rfl hc15 ?_
                        refine sq ?_
                        refine reg ?_
                        refine pRun_ok (tb := tab) (n := 119) tabOk 1 _ _ hf rfl rfl fun a hf => ?_
                        refine wl_end ?_
                        refine then_n ?_
                        refine wp_ret (then_r (?_))
                        obtain rfl := Option.some.inj hF
                        refine ret_1 (fn := Try.f14) (r := .tmp 4) hf rfl (rv_tmp hf rfl) ?_
                        exact ⟨_, rfl, H.bel, mk_bool⟩
                      · rw [if_neg (nt hc15)] at hF
                        refine cd_f hf rfl hc15 ?_
                        refine wp_skip ?_
                        refine then_n ?_
                        refine sq ?_
                        refine reg ?_
                        refine pRun_ok (tb := tab) (n := 119) tabOk 1 _ _ hf rfl rfl fun a hf => ?_
                        refine wl_end ?_
                        refine then_n ?_
                        refine wp_ret (?_)
                        obtain rfl := Option.some.inj hF
                        refine ret_1 (fn := Try.f14) (r := .tmp 4) hf rfl (rv_tmp hf rfl) ?_
                        exact ⟨_, rfl, H.bel, mk_bool⟩
end AT
