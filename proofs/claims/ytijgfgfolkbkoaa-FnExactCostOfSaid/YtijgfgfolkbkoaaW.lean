/- The Go functions do what is told of them, by program (gen.py). -/
import Derived.Test.YtijgfgfolkbkoaaT
set_option linter.unusedVariables false
set_option linter.unusedSimpArgs false
set_option maxRecDepth 100000
namespace AT
open Go Go.RowKit Go.Proofs

/- loop.example/g00897/laws.szItemS -/
set_option maxHeartbeats 1000000 in
theorem laws_szItemS_ok {fu : Nat} {w0 : World} {S : Nat → Prop} {v0_ : Value} {v1_ : Value} {a' : List Item} {left : Int} {r : Int} (h0 : VR w0 S v0_ a') (h1 : VR w0 S v1_ left) (hF : laws_szItemS fu a' left = some r) :
    Calls Try.prog 46 [v0_, v1_].toArray w0 fun e w' => ∃ v, e = .returned v ∧ (Below w0.heap.size w0 w' ∧ VR w' (St ⟨w0, []⟩ S [] [] [] true) v r) := by
  obtain ⟨A, c, rfl, hl⟩ := VR_list h0
  obtain rfl := VR_int h1
  have H := Mem.start ⟨w0, []⟩ S
  have H := H.pushArg (MP.val [(.slice A a'.length c)] a') hl
  refine enter Try.func46 rfl rfl (nle rfl) rfl fun a hf => ?_
  rw [laws_szItemS] at hF
  refine sq ?_
  refine reg ?_
  refine pRun_ok (tb := tab) (n := 12) tabOk 1 _ _ hf rfl rfl fun a hf => ?_
  refine wl_end ?_
  refine then_n ?_
  refine sq ?_
  refine reg ?_
  refine pRun_ok (tb := tab) (n := 12) tabOk 5 _ _ hf rfl rfl fun a hf => ?_
  refine wl_end ?_
  refine then_n ?_
  refine sq ?_
  refine sq ?_
  refine reg ?_
  refine pRun_ok (tb := tab) (n := 12) tabOk 2 _ _ hf rfl rfl fun a hf => ?_
  refine wl_end ?_
  refine then_n ?_
  refine (Bool.eq_false_or_eq_true (decide ((w64 (left - (a'.length : Int))) < 0))).elim (fun hc => ?_) (fun hc => ?_)
  · rw [if_pos hc] at hF
    refine cd_t hf rfl hc ?_
    refine sq ?_
    refine reg ?_
    refine pRun_ok (tb := tab) (n := 12) tabOk 1 _ _ hf rfl rfl fun a hf => ?_
    refine wl_end ?_
    refine then_n ?_
    refine wp_ret (then_r (?_))
    obtain rfl := Option.some.inj hF
    refine ret_1 (fn := Try.f46) (r := .tmp 4) hf rfl (rv_tmp hf rfl) ?_
    exact ⟨_, rfl, H.bel, mk_int⟩
  · rw [if_neg (nt hc)] at hF
    refine cd_f hf rfl hc ?_
    refine wp_skip ?_
    refine then_n ?_
    refine sq ?_
    refine reg ?_
    refine pRun_ok (tb := tab) (n := 12) tabOk 2 _ _ hf rfl rfl fun a hf => ?_
    refine wl_end ?_
    refine then_n ?_
    refine wp_ret (?_)
    obtain rfl := Option.some.inj hF
    refine ret_1 (fn := Try.f46) (r := .tmp 4) hf rfl (rv_tmp hf rfl) ?_
    exact ⟨_, rfl, H.bel, mk_int⟩

/- loop.example/g00897/laws.toItem -/
set_option maxHeartbeats 1000000 in
theorem laws_toItem_ok {fu : Nat} {w0 : World} {S : Nat → Prop} {v0_ : Value} {a' : Item} {r : Item} (h0 : VR w0 S v0_ a') (hF : laws_toItem fu a' = some r) :
    Calls Try.prog 113 [v0_].toArray w0 fun e w' => ∃ v, e = .returned v ∧ (Below w0.heap.size w0 w' ∧ VR w' (St ⟨w0, []⟩ S [] [] [] true) v r) := by
  obtain rfl := Item_open h0
  have H := Mem.start ⟨w0, []⟩ S
  refine enter Try.func113 rfl rfl (nle rfl) rfl fun a hf => ?_
  rw [laws_toItem] at hF
  refine sq ?_
  refine reg ?_
  refine wl0 rfl (op_box hf H rfl rfl (by decide) fun b' a w hf H => ?_)
  refine wl0 rfl (op_alloc hf H TF.zv119 rfl (by decide) fun b2 a w hf H => ?_)
  refine wl_end ?_
  refine then_n ?_
  refine sq ?_
  refine reg ?_
  refine wl0 rfl (op_alloc hf H TF.zv119 rfl (by decide) fun b3 a w hf H => ?_)
  refine wl_end ?_
  refine then_n ?_
  refine sq ?_
  refine reg ?_
  refine pRun_ok (tb := tab) (n := 14) tabOk 1 _ _ hf rfl rfl fun a hf => ?_
  refine wl0 rfl (op_q hf (rq_loadB hf H TF.ls3 2 rfl rfl rfl) rfl (by decide) fun a hf => ?_)
  refine pRun_ok (tb := tab) (n := 14) tabOk 1 _ _ hf rfl rfl fun a hf => ?_
  refine wl0 rfl (op_storeB hf H 0 TF.sz3 rfl rfl rfl rfl rfl rfl (nle rfl) fun w H => ?_)
  refine wl_end ?_
  refine then_n ?_
  refine sq ?_
  refine reg ?_
  refine pRun_ok (tb := tab) (n := 14) tabOk 1 _ _ hf rfl rfl fun a hf => ?_
  refine wl0 rfl (op_q hf (rq_loadB hf H TF.ls3 2 rfl rfl rfl) rfl (by decide) fun a hf => ?_)
  refine pRun_ok (tb := tab) (n := 14) tabOk 1 _ _ hf rfl rfl fun a hf => ?_
  refine wl0 rfl (op_storeB hf H 0 TF.sz3 rfl rfl rfl rfl rfl rfl (nle rfl) fun w H => ?_)
  refine wl_end ?_
  refine then_n ?_
  refine sq ?_
  refine reg ?_
  refine pRun_ok (tb := tab) (n := 14) tabOk 1 _ _ hf rfl rfl fun a hf => ?_
  refine wl0 rfl (op_q hf (rq_loadB hf H TF.ls3 2 rfl rfl rfl) rfl (by decide) fun a hf => ?_)
  refine pRun_ok (tb := tab) (n := 14) tabOk 1 _ _ hf rfl rfl fun a hf => ?_
  refine wl0 rfl (op_storeB hf H 0 TF.sz3 rfl rfl rfl rfl rfl rfl (nle rfl) fun w H => ?_)
  refine wl_end ?_
  refine then_n ?_
  refine sq ?_
  refine reg ?_
  refine wl0 rfl (op_q hf (rq_loadBN hf H TF.la119 0 rfl rfl rfl rfl) rfl (by decide) fun a hf => ?_)
  refine wl0 rfl (op_storeB hf H 1 TF.sz119 rfl rfl rfl rfl rfl rfl (nle rfl) fun w H => ?_)
  have hf := hf.prune [2] rfl
  refine wl_end ?_
  refine then_n ?_
  refine wp_ret (?_)
  obtain rfl := Option.some.inj hF
  refine ret_1 (fn := Try.f113) (r := .cell 2 119) hf rfl (rv_cellN hf H 1 TF.la119 rfl rfl rfl) ?_
  exact ⟨_, rfl, H.bel, Item_mkv⟩

/- loop.example/g00897/laws.toItemS -/
set_option maxHeartbeats 1000000 in
theorem laws_toItemS_ok {fu : Nat} {w0 : World} {S : Nat → Prop} {v0_ : Value} {a' : List Item} {r : List Item} (h0 : VR w0 S v0_ a') (hF : laws_toItemS fu a' = some r) :
    Calls Try.prog 48 [v0_].toArray w0 fun e w' => ∃ v, e = .returned v ∧ (Below w0.heap.size w0 w' ∧ ∃ F0, VO w' F0 v r ∧ New w0 w' F0) := by
  obtain ⟨A, c, rfl, hl⟩ := VR_list h0
  have H := Mem.start ⟨w0, []⟩ S
  have H := H.pushArg (MP.val [(.slice A a'.length c)] a') hl
  refine enter Try.func48 rfl rfl (nle rfl) rfl fun a hf => ?_
  rw [laws_toItemS] at hF
  refine sq ?_
  refine reg ?_
  refine pRun_ok (tb := tab) (n := 23) tabOk 1 _ _ hf rfl rfl fun a hf => ?_
  refine wl_end ?_
  refine then_n ?_
  refine sq ?_
  refine reg ?_
  refine pRun_ok (tb := tab) (n := 23) tabOk 2 _ _ hf rfl rfl fun a hf => ?_
  obtain ⟨l, hl, hF⟩ := bind_some hF
  refine wl0 rfl (op_make (z0 := (({ Kind := 0, Node := 0, Count := 0 } : Item) : Item)) hf H Try.underlying53 TF.ai119 rfl (by decide) rfl rfl (Item_mk (x := ({ Kind := 0, Node := 0, Count := 0 } : Item))) hl (by decide) fun A2 c2 a w hf H => ?_)
  refine pRun_ok (tb := tab) (n := 23) tabOk 1 _ _ hf rfl rfl fun a hf => ?_
  refine wl_end ?_
  refine then_n ?_
  refine sq ?_
  refine sq ?_
  refine reg ?_
  refine pRun_ok (tb := tab) (n := 23) tabOk 1 _ _ hf rfl rfl fun a hf => ?_
  refine wl_end ?_
  refine then_n ?_
  obtain ⟨out2, hB1, hF⟩ := bind_some hF
  have hf := hf.prune [0, 3, 4] rfl
  have H := H.let [] [true] [] [0]
  have hI : (fun (s : List Item × Int) (a : Act) (w : World) => match s with | (out', i) => ∃ (A3 : Option Addr) (c3 : Nat), Fr a 23 [(0, (.slice A a'.length c)), (3, (.slice A3 out'.length c3)), (4, (.int .i64 i))] ∧ Mem ⟨w0, []⟩ S [] [⟨.sh true, 119, A3, c3, (out' : List Item)⟩] [] [(false, MP.val [(.slice A a'.length c)] (a' : List Item))] w) (l, 0) a w := ⟨A2, c2, hf, H⟩
  refine mid (fun a w => ∃ s : List Item × Int, out2 = s ∧ (fun (s : List Item × Int) (a : Act) (w : World) => match s with | (out', i) => ∃ (A3 : Option Addr) (c3 : Nat), Fr a 23 [(0, (.slice A a'.length c)), (3, (.slice A3 out'.length c3)), (4, (.int .i64 i))] ∧ Mem ⟨w0, []⟩ S [] [⟨.sh true, 119, A3, c3, (out' : List Item)⟩] [] [(false, MP.val [(.slice A a'.length c)] (a' : List Item))] w) s a w) ?_ ?_
  · refine wp_block ?_
    refine loop_rule (fun k (s : List Item × Int) => laws_toItemS_L1 fu a' k s.1 s.2 = some out2) (fun (s : List Item × Int) (a : Act) (w : World) => match s with | (out', i) => ∃ (A3 : Option Addr) (c3 : Nat), Fr a 23 [(0, (.slice A a'.length c)), (3, (.slice A3 out'.length c3)), (4, (.int .i64 i))] ∧ Mem ⟨w0, []⟩ S [] [⟨.sh true, 119, A3, c3, (out' : List Item)⟩] [] [(false, MP.val [(.slice A a'.length c)] (a' : List Item))] w) (fun s h => by cases h) ?_ fu (l, 0) a w hB1 hI
    rintro fk ⟨out', i⟩ a w hR1 hI
    replace hR1 : laws_toItemS_L1 fu a' (fk + 1) out' i = some out2 := hR1
    rw [laws_toItemS_L1] at hR1
    obtain ⟨A3, c3, hf, H⟩ := hI
    refine sq ?_
    refine sq ?_
    refine reg ?_
    refine pRun_ok (tb := tab) (n := 23) tabOk 4 _ _ hf rfl rfl fun a hf => ?_
    refine wl_end ?_
    refine then_n ?_
    refine (Bool.eq_false_or_eq_true (decide (i < (a'.length : Int)))).elim (fun hc => ?_) (fun hc => ?_)
    · rw [if_pos hc] at hR1
      refine cd_t hf rfl hc ?_
      refine wp_skip ?_
      refine then_n ?_
      refine sq ?_
      refine wp_block ?_
      refine reg ?_
      refine pRun_ok (tb := tab) (n := 23) tabOk 4 _ _ hf rfl rfl fun a hf => ?_
      obtain ⟨e, he, hR1⟩ := bind_some hR1
      refine wl0 rfl (op_iaddr hf H Try.underlying50 TF.sz121 0 rfl rfl rfl he (by decide) fun p o cs a hf hr H => ?_)
      obtain rfl := Item_cells hr
      refine wl0 rfl (op_q hf (rq_loadIN hf H TF.la121 0 0 rfl rfl rfl rfl) rfl (by decide) fun a hf => ?_)
      obtain ⟨y, hy, hR1⟩ := bind_some hR1
      refine wl0 rfl (op_call hf TF.cl113 rfl (by decide) (laws_toItem_ok (S := fun _ => True) Item_mkv hy) fun v w a hp hf => ?_)
      obtain ⟨hb, hp⟩ := hp
      obtain rfl := Item_open hp
      have H := H.keep hb
      obtain ⟨e2, he2, hR1⟩ := bind_some hR1
      refine wl0 rfl (op_iaddrR hf H Try.underlying53 TF.sz119 0 rfl rfl rfl he2 (by decide) fun p2 o2 cs2 a hf hA hr2 hk => ?_)
      obtain rfl := Item_cells hr2
      refine wl0 rfl (op_storeR (e' := y) hf H TF.sz119 0 rfl rfl rfl rfl rfl (nle rfl) rfl hA he2 (st_full (Item_mk (x := y))) fun w H => ?_)
      replace hf : Fr a 23 [(0, (.slice A a'.length c)), (3, (.slice A3 out'.length c3)), (4, (.int .i64 i)), (8, (.int .i64 i)), (9, (.slice A a'.length c)), (10, (.int .i64 (a'.length : Int))), (11, (.bool (decide (i < (a'.length : Int))))), (14, (.slice A3 out'.length c3)), (15, (.int .i64 i)), (16, (.slice A a'.length c)), (17, (.int .i64 i)), (18, (.pointer (some ⟨p, o + 0, none⟩))), (19, (.agg #[(.int .i64 e.Kind), (.int .i64 e.Node), (.int .i64 e.Count)])), (20, (.agg #[(.int .i64 y.Kind), (.int .i64 y.Node), (.int .i64 y.Count)])), (21, (.pointer (some ⟨p2, o2 + 0, none⟩)))] := hf.prune [0, 3, 4, 8, 9, 10, 11, 14, 15, 16, 17, 18, 19, 20, 21] rfl
      replace hf : Fr a 23 [(0, (.slice A a'.length c)), (3, (.slice A3 (out'.set (i).toNat y).length c3)), (4, (.int .i64 i)), (8, (.int .i64 i)), (9, (.slice A a'.length c)), (10, (.int .i64 (a'.length : Int))), (11, (.bool (decide (i < (a'.length : Int))))), (14, (.slice A3 (out'.set (i).toNat y).length c3)), (15, (.int .i64 i)), (16, (.slice A a'.length c)), (17, (.int .i64 i)), (18, (.pointer (some ⟨p, o + 0, none⟩))), (19, (.agg #[(.int .i64 e.Kind), (.int .i64 e.Node), (.int .i64 e.Count)])), (20, (.agg #[(.int .i64 y.Kind), (.int .i64 y.Node), (.int .i64 y.Count)])), (21, (.pointer (some ⟨p2, o2 + 0, none⟩)))] := by simpa only [List.length_set, Nat.add_zero] using hf
      refine wl_end ?_
      refine blk_n ?_
      refine then_n ?_
      refine reg ?_
      refine pRun_ok (tb := tab) (n := 23) tabOk 3 _ _ hf rfl rfl fun a hf => ?_
      have hf := hf.prune [0, 3, 4] rfl
      refine wl_end ?_
      have hf := hf.prune [0, 3, 4] rfl
      have H := H.let [] [true] [] [1]
      exact then_n ⟨(out'.set (i).toNat y, w64 (i + 1)), hR1, A3, c3, hf, H⟩
    · rw [if_neg (nt hc)] at hR1
      refine cd_f hf rfl hc ?_
      refine wp_exit (then_x (then_x (blk_e (?_))))
      have hf := hf.prune [0, 3, 4] rfl
      have H := H.let [] [true] [] [0]
      exact ⟨(out', i), (Option.some.inj hR1).symm, A3, c3, hf, H⟩
  rintro a w ⟨⟨out3, i2⟩, rfl, A4, c4, hf, H⟩
  dsimp only at hF
  refine then_n ?_
  refine sq ?_
  refine reg ?_
  refine pRun_ok (tb := tab) (n := 23) tabOk 2 _ _ hf rfl rfl fun a hf => ?_
  refine wl_end ?_
  refine then_n ?_
  refine wp_ret (?_)
  have H := H.rowOwn 0 rfl rfl
  obtain ⟨F, H⟩ := H.freezeOwn 0 rfl
  have H := H.lend 0 rfl
  obtain rfl := Option.some.inj hF
  refine ret_1 (fn := Try.f48) (r := .tmp 2) hf rfl (rv_tmp hf rfl) ?_
  have hN : New w0 w F := by simpa using H.ends (X := [(⟨F, MP.own F [(.slice A4 out3.length c4)] (out3 : List Item)⟩ : DI)])
  exact ⟨_, rfl, H.bel, F, (mko_list (H.ownAt 0 rfl)), hN⟩

/- loop.example/g00897/laws.toIntS -/
set_option maxHeartbeats 1000000 in
theorem laws_toIntS_ok {fu : Nat} {w0 : World} {S : Nat → Prop} {v0_ : Value} {a' : List Int} {r : List Int} (h0 : VR w0 S v0_ a') (hF : laws_toIntS fu a' = some r) :
    Calls Try.prog 41 [v0_].toArray w0 fun e w' => ∃ v, e = .returned v ∧ (Below w0.heap.size w0 w' ∧ ∃ F0, VO w' F0 v r ∧ New w0 w' F0) := by
  obtain ⟨A, c, rfl, hl⟩ := VR_list h0
  have H := Mem.start ⟨w0, []⟩ S
  have H := H.pushArg (MP.val [(.slice A a'.length c)] a') hl
  refine enter Try.func41 rfl rfl (nle rfl) rfl fun a hf => ?_
  rw [laws_toIntS] at hF
  refine sq ?_
  refine reg ?_
  refine pRun_ok (tb := tab) (n := 22) tabOk 1 _ _ hf rfl rfl fun a hf => ?_
  refine wl_end ?_
  refine then_n ?_
  refine sq ?_
  refine reg ?_
  refine pRun_ok (tb := tab) (n := 22) tabOk 2 _ _ hf rfl rfl fun a hf => ?_
  obtain ⟨l, hl, hF⟩ := bind_some hF
  refine wl0 rfl (op_make (z0 := (0 : Int)) hf H Try.underlying35 TF.ai3 rfl (by decide) rfl rfl rfl hl (by decide) fun A2 c2 a w hf H => ?_)
  refine pRun_ok (tb := tab) (n := 22) tabOk 1 _ _ hf rfl rfl fun a hf => ?_
  refine wl_end ?_
  refine then_n ?_
  refine sq ?_
  refine sq ?_
  refine reg ?_
  refine pRun_ok (tb := tab) (n := 22) tabOk 1 _ _ hf rfl rfl fun a hf => ?_
  refine wl_end ?_
  refine then_n ?_
  obtain ⟨out2, hB1, hF⟩ := bind_some hF
  have hf := hf.prune [0, 3, 4] rfl
  have H := H.let [] [true] [] [0]
  have hI : (fun (s : List Int × Int) (a : Act) (w : World) => match s with | (out', i) => ∃ (A3 : Option Addr) (c3 : Nat), Fr a 22 [(0, (.slice A a'.length c)), (3, (.slice A3 out'.length c3)), (4, (.int .i64 i))] ∧ Mem ⟨w0, []⟩ S [] [⟨.sh true, 3, A3, c3, (out' : List Int)⟩] [] [(false, MP.val [(.slice A a'.length c)] (a' : List Int))] w) (l, 0) a w := ⟨A2, c2, hf, H⟩
  refine mid (fun a w => ∃ s : List Int × Int, out2 = s ∧ (fun (s : List Int × Int) (a : Act) (w : World) => match s with | (out', i) => ∃ (A3 : Option Addr) (c3 : Nat), Fr a 22 [(0, (.slice A a'.length c)), (3, (.slice A3 out'.length c3)), (4, (.int .i64 i))] ∧ Mem ⟨w0, []⟩ S [] [⟨.sh true, 3, A3, c3, (out' : List Int)⟩] [] [(false, MP.val [(.slice A a'.length c)] (a' : List Int))] w) s a w) ?_ ?_
  · refine wp_block ?_
    refine loop_rule (fun k (s : List Int × Int) => laws_toIntS_L1 fu a' k s.1 s.2 = some out2) (fun (s : List Int × Int) (a : Act) (w : World) => match s with | (out', i) => ∃ (A3 : Option Addr) (c3 : Nat), Fr a 22 [(0, (.slice A a'.length c)), (3, (.slice A3 out'.length c3)), (4, (.int .i64 i))] ∧ Mem ⟨w0, []⟩ S [] [⟨.sh true, 3, A3, c3, (out' : List Int)⟩] [] [(false, MP.val [(.slice A a'.length c)] (a' : List Int))] w) (fun s h => by cases h) ?_ fu (l, 0) a w hB1 hI
    rintro fk ⟨out', i⟩ a w hR1 hI
    replace hR1 : laws_toIntS_L1 fu a' (fk + 1) out' i = some out2 := hR1
    rw [laws_toIntS_L1] at hR1
    obtain ⟨A3, c3, hf, H⟩ := hI
    refine sq ?_
    refine sq ?_
    refine reg ?_
    refine pRun_ok (tb := tab) (n := 22) tabOk 4 _ _ hf rfl rfl fun a hf => ?_
    refine wl_end ?_
    refine then_n ?_
    refine (Bool.eq_false_or_eq_true (decide (i < (a'.length : Int)))).elim (fun hc => ?_) (fun hc => ?_)
    · rw [if_pos hc] at hR1
      refine cd_t hf rfl hc ?_
      refine wp_skip ?_
      refine then_n ?_
      refine sq ?_
      refine wp_block ?_
      refine reg ?_
      refine pRun_ok (tb := tab) (n := 22) tabOk 4 _ _ hf rfl rfl fun a hf => ?_
      obtain ⟨e, he, hR1⟩ := bind_some hR1
      refine wl0 rfl (op_iaddr hf H Try.underlying35 TF.sz3 0 rfl rfl rfl he (by decide) fun p o cs a hf hr H => ?_)
      obtain rfl := hr
      refine wl0 rfl (op_q hf (rq_loadI hf H TF.ls3 0 0 rfl rfl rfl) rfl (by decide) fun a hf => ?_)
      obtain ⟨e2, he2, hR1⟩ := bind_some hR1
      refine wl0 rfl (op_iaddrR hf H Try.underlying35 TF.sz3 0 rfl rfl rfl he2 (by decide) fun p2 o2 cs2 a hf hA hr2 hk => ?_)
      obtain rfl := hr2
      refine wl0 rfl (op_storeR (e' := e) hf H TF.sz3 0 rfl rfl rfl rfl rfl (nle rfl) rfl hA he2 (st_full rfl) fun w H => ?_)
      replace hf : Fr a 22 [(0, (.slice A a'.length c)), (3, (.slice A3 out'.length c3)), (4, (.int .i64 i)), (8, (.int .i64 i)), (9, (.slice A a'.length c)), (10, (.int .i64 (a'.length : Int))), (11, (.bool (decide (i < (a'.length : Int))))), (14, (.slice A3 out'.length c3)), (15, (.int .i64 i)), (16, (.slice A a'.length c)), (17, (.int .i64 i)), (18, (.pointer (some ⟨p, o + 0, none⟩))), (19, (.int .i64 e)), (20, (.pointer (some ⟨p2, o2 + 0, none⟩)))] := hf.prune [0, 3, 4, 8, 9, 10, 11, 14, 15, 16, 17, 18, 19, 20] rfl
      replace hf : Fr a 22 [(0, (.slice A a'.length c)), (3, (.slice A3 (out'.set (i).toNat e).length c3)), (4, (.int .i64 i)), (8, (.int .i64 i)), (9, (.slice A a'.length c)), (10, (.int .i64 (a'.length : Int))), (11, (.bool (decide (i < (a'.length : Int))))), (14, (.slice A3 (out'.set (i).toNat e).length c3)), (15, (.int .i64 i)), (16, (.slice A a'.length c)), (17, (.int .i64 i)), (18, (.pointer (some ⟨p, o + 0, none⟩))), (19, (.int .i64 e)), (20, (.pointer (some ⟨p2, o2 + 0, none⟩)))] := by simpa only [List.length_set, Nat.add_zero] using hf
      refine wl_end ?_
      refine blk_n ?_
      refine then_n ?_
      refine reg ?_
      refine pRun_ok (tb := tab) (n := 22) tabOk 3 _ _ hf rfl rfl fun a hf => ?_
      have hf := hf.prune [0, 3, 4] rfl
      refine wl_end ?_
      have hf := hf.prune [0, 3, 4] rfl
      have H := H.let [] [true] [] [1]
      exact then_n ⟨(out'.set (i).toNat e, w64 (i + 1)), hR1, A3, c3, hf, H⟩
    · rw [if_neg (nt hc)] at hR1
      refine cd_f hf rfl hc ?_
      refine wp_exit (then_x (then_x (blk_e (?_))))
      have hf := hf.prune [0, 3, 4] rfl
      have H := H.let [] [true] [] [0]
      exact ⟨(out', i), (Option.some.inj hR1).symm, A3, c3, hf, H⟩
  rintro a w ⟨⟨out3, i2⟩, rfl, A4, c4, hf, H⟩
  dsimp only at hF
  refine then_n ?_
  refine sq ?_
  refine reg ?_
  refine pRun_ok (tb := tab) (n := 22) tabOk 2 _ _ hf rfl rfl fun a hf => ?_
  refine wl_end ?_
  refine then_n ?_
  refine wp_ret (?_)
  have H := H.rowOwn 0 rfl rfl
  obtain ⟨F, H⟩ := H.freezeOwn 0 rfl
  have H := H.lend 0 rfl
  obtain rfl := Option.some.inj hF
  refine ret_1 (fn := Try.f41) (r := .tmp 2) hf rfl (rv_tmp hf rfl) ?_
  have hN : New w0 w F := by simpa using H.ends (X := [(⟨F, MP.own F [(.slice A4 out3.length c4)] (out3 : List Int)⟩ : DI)])
  exact ⟨_, rfl, H.bel, F, (mko_list (H.ownAt 0 rfl)), hN⟩

/- loop.example/g00897/spec.l1In -/
set_option maxHeartbeats 1000000 in
theorem spec_l1In_ok {fu : Nat} {w0 : World} {S : Nat → Prop} {v0_ : Value} {v1_ : Value} {v2_ : Value} {x1 : Int} {a' : Int} {b' : Int} {r : Bool} (h0 : VR w0 S v0_ x1) (h1 : VR w0 S v1_ a') (h2 : VR w0 S v2_ b') (hF : spec_l1In fu x1 a' b' = some r) :
    Calls Try.prog 97 [v0_, v1_, v2_].toArray w0 fun e w' => ∃ v, e = .returned v ∧ (Below w0.heap.size w0 w' ∧ VR w' (St ⟨w0, []⟩ S [] [] [] true) v r) := by
  obtain rfl := VR_int h0
  obtain rfl := VR_int h1
  obtain rfl := VR_int h2
  have H := Mem.start ⟨w0, []⟩ S
  refine enter Try.func97 rfl rfl (nle rfl) rfl fun a hf => ?_
  rw [spec_l1In] at hF
  refine sq ?_
  refine reg ?_
  refine pRun_ok (tb := tab) (n := 15) tabOk 1 _ _ hf rfl rfl fun a hf => ?_
  refine wl_end ?_
  refine then_n ?_
  refine sq ?_
  obtain ⟨c, hGc, hF⟩ := bind_some hF
  refine mid (fun a w => Fr a 15 [(6, (.bool c))] ∧ Mem ⟨w0, []⟩ S [] [] [] [] w) ?_ ?_
  · refine reg ?_
    refine pRun_ok (tb := tab) (n := 15) tabOk 4 _ _ hf rfl rfl fun a hf => ?_
    refine (Bool.eq_false_or_eq_true (decide (x1 ≥ a'))).elim (fun hc => ?_) (fun hc => ?_)
    · rw [if_pos hc] at hGc
      have hf := hf.lit 10 rfl hc
      refine pRun_ok (tb := tab) (n := 15) tabOk 5 _ _ hf rfl rfl fun a hf => ?_
      obtain rfl := Option.some.inj hGc
      have hf := hf.prune [6] rfl
      have H := H.let [] [] [] []
      exact wl_end ⟨hf, H⟩
    · rw [if_neg (nt hc)] at hGc
      have hf := hf.lit 10 rfl hc
      refine pRun_ok (tb := tab) (n := 15) tabOk 5 _ _ hf rfl rfl fun a hf => ?_
      obtain rfl := Option.some.inj hGc
      have hf := hf.prune [6] rfl
      have H := H.let [] [] [] []
      exact wl_end ⟨hf, H⟩
  rintro a w ⟨hf, H⟩
  refine then_n ?_
  refine wp_ret (?_)
  obtain rfl := Option.some.inj hF
  refine ret_1 (fn := Try.f97) (r := .tmp 6) hf rfl (rv_tmp hf rfl) ?_
  exact ⟨_, rfl, H.bel, mk_bool⟩

/- loop.example/g00897/spec.l19Before -/
set_option maxHeartbeats 1000000 in
theorem spec_l19Before_ok {fu : Nat} {w0 : World} {S : Nat → Prop} {v0_ : Value} {v1_ : Value} {a' : Item} {b' : Item} {r : Bool} (h0 : VR w0 S v0_ a') (h1 : VR w0 S v1_ b') (hF : spec_l19Before fu a' b' = some r) :
    Calls Try.prog 154 [v0_, v1_].toArray w0 fun e w' => ∃ v, e = .returned v ∧ (Below w0.heap.size w0 w' ∧ VR w' (St ⟨w0, []⟩ S [] [] [] true) v r) := by
  obtain rfl := Item_open h0
  obtain rfl := Item_open h1
  have H := Mem.start ⟨w0, []⟩ S
  refine enter Try.func154 rfl rfl (nle rfl) rfl fun a hf => ?_
  rw [spec_l19Before] at hF
  refine sq ?_
  refine reg ?_
  refine wl0 rfl (op_box hf H rfl rfl (by decide) fun b2 a w hf H => ?_)
  refine wl0 rfl (op_box hf H rfl rfl (by decide) fun b3 a w hf H => ?_)
  refine pRun_ok (tb := tab) (n := 24) tabOk 1 _ _ hf rfl rfl fun a hf => ?_
  refine wl_end ?_
  refine then_n ?_
  refine sq ?_
  obtain ⟨c, hGc, hF⟩ := bind_some hF
  refine mid (fun a w => Fr a 24 [(4, (.bool c))] ∧ Mem ⟨w0, []⟩ S [] [] [] [] w) ?_ ?_
  · refine reg ?_
    refine pRun_ok (tb := tab) (n := 24) tabOk 1 _ _ hf rfl rfl fun a hf => ?_
    refine wl0 rfl (op_q hf (rq_loadB hf H TF.ls3 1 rfl rfl rfl) rfl (by decide) fun a hf => ?_)
    refine pRun_ok (tb := tab) (n := 24) tabOk 1 _ _ hf rfl rfl fun a hf => ?_
    refine wl0 rfl (op_q hf (rq_loadB hf H TF.ls3 0 rfl rfl rfl) rfl (by decide) fun a hf => ?_)
    refine pRun_ok (tb := tab) (n := 24) tabOk 2 _ _ hf rfl rfl fun a hf => ?_
    refine (Bool.eq_false_or_eq_true (decide (a'.Kind < b'.Kind))).elim (fun hc => ?_) (fun hc => ?_)
    · rw [if_pos hc] at hGc
      have hf := hf.lit 10 rfl hc
      refine pRun_ok (tb := tab) (n := 24) tabOk 6 _ _ hf rfl rfl fun a hf => ?_
      refine wlsu hf rfl rfl rfl rfl (by decide) fun a hf => ?_
      refine wlsu hf rfl rfl rfl rfl (by decide) fun a hf => ?_
      refine wlsu hf rfl rfl rfl rfl (by decide) fun a hf => ?_
      refine wlsu hf rfl rfl rfl rfl (by decide) fun a hf => ?_
      refine wlsu hf rfl rfl rfl rfl (by decide) fun a hf => ?_
      refine pRun_ok (tb := tab) (n := 24) tabOk 3 _ _ hf rfl rfl fun a hf => ?_
      obtain rfl := Option.some.inj hGc
      have hf := hf.prune [4] rfl
      have H := H.let [false, false] [] [] []
      exact wl_end ⟨hf, H⟩
    · rw [if_neg (nt hc)] at hGc
      have hf := hf.lit 10 rfl hc
      refine pRun_ok (tb := tab) (n := 24) tabOk 1 _ _ hf rfl rfl fun a hf => ?_
      refine wlg hf rfl rfl rfl (op_q hf (rq_loadB hf H TF.ls3 1 rfl rfl rfl) rfl (by decide) fun a hf => ?_)
      refine pRun_ok (tb := tab) (n := 24) tabOk 1 _ _ hf rfl rfl fun a hf => ?_
      refine wlg hf rfl rfl rfl (op_q hf (rq_loadB hf H TF.ls3 0 rfl rfl rfl) rfl (by decide) fun a hf => ?_)
      refine pRun_ok (tb := tab) (n := 24) tabOk 2 _ _ hf rfl rfl fun a hf => ?_
      refine (Bool.eq_false_or_eq_true (a'.Kind == b'.Kind)).elim (fun hc2 => ?_) (fun hc2 => ?_)
      · rw [if_pos hc2] at hGc
        have hf := hf.lit 16 rfl hc2
        refine pRun_ok (tb := tab) (n := 24) tabOk 1 _ _ hf rfl rfl fun a hf => ?_
        refine wlg hf rfl rfl rfl (op_q hf (rq_loadB hf H TF.ls3 1 rfl rfl rfl) rfl (by decide) fun a hf => ?_)
        refine pRun_ok (tb := tab) (n := 24) tabOk 1 _ _ hf rfl rfl fun a hf => ?_
        refine wlg hf rfl rfl rfl (op_q hf (rq_loadB hf H TF.ls3 0 rfl rfl rfl) rfl (by decide) fun a hf => ?_)
        refine pRun_ok (tb := tab) (n := 24) tabOk 4 _ _ hf rfl rfl fun a hf => ?_
        obtain rfl := Option.some.inj hGc
        have hf := hf.prune [4] rfl
        have H := H.let [false, false] [] [] []
        exact wl_end ⟨hf, H⟩
      · rw [if_neg (nt hc2)] at hGc
        have hf := hf.lit 16 rfl hc2
        refine pRun_ok (tb := tab) (n := 24) tabOk 8 _ _ hf rfl rfl fun a hf => ?_
        obtain rfl := Option.some.inj hGc
        have hf := hf.prune [4] rfl
        have H := H.let [false, false] [] [] []
        exact wl_end ⟨hf, H⟩
  rintro a w ⟨hf, H⟩
  refine then_n ?_
  refine wp_ret (?_)
  obtain rfl := Option.some.inj hF
  refine ret_1 (fn := Try.f154) (r := .tmp 4) hf rfl (rv_tmp hf rfl) ?_
  exact ⟨_, rfl, H.bel, mk_bool⟩

/- loop.example/g00897/spec.l19Bill -/
set_option maxHeartbeats 1000000 in
theorem spec_l19Bill_ok {fu : Nat} {w0 : World} {S : Nat → Prop} {v0_ : Value} {bill : List Item} {r : Bool} (h0 : VR w0 S v0_ bill) (hF : spec_l19Bill fu bill = some r) :
    Calls Try.prog 112 [v0_].toArray w0 fun e w' => ∃ v, e = .returned v ∧ (Below w0.heap.size w0 w' ∧ VR w' (St ⟨w0, []⟩ S [] [] [] true) v r) := by
  obtain ⟨A, c, rfl, hl⟩ := VR_list h0
  have H := Mem.start ⟨w0, []⟩ S
  have H := H.pushArg (MP.val [(.slice A bill.length c)] bill) hl
  refine enter Try.func112 rfl rfl (nle rfl) rfl fun a hf => ?_
  rw [spec_l19Bill] at hF
  refine sq ?_
  refine reg ?_
  refine pRun_ok (tb := tab) (n := 48) tabOk 1 _ _ hf rfl rfl fun a hf => ?_
  refine wl_end ?_
  refine then_n ?_
  refine sq ?_
  refine sq ?_
  refine reg ?_
  refine pRun_ok (tb := tab) (n := 48) tabOk 1 _ _ hf rfl rfl fun a hf => ?_
  refine wl_end ?_
  refine then_n ?_
  obtain ⟨out', hB1, hF⟩ := bind_some hF
  have hf := hf.prune [0, 3] rfl
  have H := H.let [] [] [] [0]
  have hI : (fun (s : Int) (a : Act) (w : World) => match s with | i => Fr a 48 [(0, (.slice A bill.length c)), (3, (.int .i64 i))] ∧ Mem ⟨w0, []⟩ S [] [] [] [(false, MP.val [(.slice A bill.length c)] (bill : List Item))] w) 0 a w0 := ⟨hf, H⟩
  refine mid (fun a w => ∃ s : Int, out' = Out.next s ∧ (fun (s : Int) (a : Act) (w : World) => match s with | i => Fr a 48 [(0, (.slice A bill.length c)), (3, (.int .i64 i))] ∧ Mem ⟨w0, []⟩ S [] [] [] [(false, MP.val [(.slice A bill.length c)] (bill : List Item))] w) s a w) ?_ ?_
  · refine wp_block ?_
    refine loop_rule (fun k (s : Int) => spec_l19Bill_L1 fu bill k s = some out') (fun (s : Int) (a : Act) (w : World) => match s with | i => Fr a 48 [(0, (.slice A bill.length c)), (3, (.int .i64 i))] ∧ Mem ⟨w0, []⟩ S [] [] [] [(false, MP.val [(.slice A bill.length c)] (bill : List Item))] w) (fun s h => by cases h) ?_ fu 0 a w0 hB1 hI
    rintro fk i a w hR1 hI
    replace hR1 : spec_l19Bill_L1 fu bill (fk + 1) i = some out' := hR1
    rw [spec_l19Bill_L1] at hR1
    obtain ⟨hf, H⟩ := hI
    refine sq ?_
    refine sq ?_
    refine reg ?_
    refine pRun_ok (tb := tab) (n := 48) tabOk 4 _ _ hf rfl rfl fun a hf => ?_
    refine wl_end ?_
    refine then_n ?_
    refine (Bool.eq_false_or_eq_true (decide (i < (bill.length : Int)))).elim (fun hc => ?_) (fun hc => ?_)
    · rw [if_pos hc] at hR1
      refine cd_t hf rfl hc ?_
      refine wp_skip ?_
      refine then_n ?_
      refine sq ?_
      refine wp_block ?_
      refine sq ?_
      refine reg ?_
      refine pRun_ok (tb := tab) (n := 48) tabOk 2 _ _ hf rfl rfl fun a hf => ?_
      obtain ⟨e, he, hR1⟩ := bind_some hR1
      refine wl0 rfl (op_iaddr hf H Try.underlying53 TF.sz119 0 rfl rfl rfl he (by decide) fun p o cs a hf hr H => ?_)
      obtain rfl := Item_cells hr
      refine wl0 rfl (op_q hf (rq_loadIN hf H TF.la119 0 0 rfl rfl rfl rfl) rfl (by decide) fun a hf => ?_)
      refine wl0 rfl (op_alloc hf H TF.zv119 rfl (by decide) fun b' a w hf H => ?_)
      refine wl0 rfl (op_storeB hf H 0 TF.sz119 rfl rfl rfl rfl rfl rfl (nle rfl) fun w H => ?_)
      refine wl_end ?_
      refine then_n ?_
      refine sq ?_
      refine drawn [] (bs := [false, false, false, false, false, false, false, false, false, false, false, false, false, false, false, false, false, false, false, false, false, false, false, false, false, false, false, false, false, false]) (fuel := 30) (Checked.mixed Try.checked) rfl rfl fun w hb => ?_
      have H := H.keep hb
      refine tkP (i := 0) (bs' := [true, false, false, false, false, false, false, false, false, false, false, false, false, false, false, false, false, false, false, false, false, false, false, false, false, false, false, false, false, false]) rfl rfl rfl (by decide) hf (by kernel_rfl) (fun _ => trivial) (fun w => pOp_ok (tb := tab) tabOk hf rfl) rfl fun a hf => ?_
      refine str (fun w => Mem ⟨w0, []⟩ S [⟨b', 119, [(.int .i64 e.Kind), (.int .i64 e.Node), (.int .i64 e.Count)]⟩] [] [] [(false, MP.cells ⟨p, o, none⟩ [(.int .i64 e.Kind), (.int .i64 e.Node), (.int .i64 e.Count)]), (false, MP.val [(.slice A bill.length c)] (bill : List Item))] w) (fun w H => trivial) ?_
      have hS : Mem ⟨w0, []⟩ S [⟨b', 119, [(.int .i64 e.Kind), (.int .i64 e.Node), (.int .i64 e.Count)]⟩] [] [] [(false, MP.cells ⟨p, o, none⟩ [(.int .i64 e.Kind), (.int .i64 e.Node), (.int .i64 e.Count)]), (false, MP.val [(.slice A bill.length c)] (bill : List Item))] w := H.let [true] [] [] [0, 1]
      refine tkS (i := 1) (bs' := [true, true, false, false, false, false, false, false, false, false, false, false, false, false, false, false, false, false, false, false, false, false, false, false, false, false, false, false, false, false]) [] rfl rfl rfl (by decide) hf (by kernel_rfl) (by kernel_rfl) hS (fun w H => rq_loadB hf H TF.ls3 0 rfl rfl rfl) rfl fun a hf => ?_
      obtain ⟨y, hy, hR1⟩ := bind_some hR1
      refine on1 (i := 2) (bs' := [true, true, true, false, false, false, false, false, false, false, false, false, false, false, false, false, false, false, false, false, false, false, false, false, false, false, false, false, false, false]) (by kernel_rfl) rfl rfl rfl (op_call hf TF.cl97 rfl (by decide) (spec_l1In_ok (S := fun _ => True) mk_int mk_int mk_int hy) fun v w a hp hf => ?_)
      obtain ⟨hb, hp⟩ := hp
      obtain rfl := VR_bool hp
      have H := H.keep hb
      have hS : Mem ⟨w0, []⟩ S [⟨b', 119, [(.int .i64 e.Kind), (.int .i64 e.Node), (.int .i64 e.Count)]⟩] [] [] [(false, MP.cells ⟨p, o, none⟩ [(.int .i64 e.Kind), (.int .i64 e.Node), (.int .i64 e.Count)]), (false, MP.val [(.slice A bill.length c)] (bill : List Item))] w := H.let [true] [] [] [0, 1]
      refine ⟨fun _ => hS, ?_⟩
      refine tkP (i := 3) (bs' := [true, true, true, true, false, false, false, false, false, false, false, false, false, false, false, false, false, false, false, false, false, false, false, false, false, false, false, false, false, false]) rfl rfl rfl (by decide) hf (by kernel_rfl) (fun _ => hS) (fun w => pOp_ok (tb := tab) tabOk hf rfl) rfl fun a hf => ?_
      refine tkP (i := 4) (bs' := [true, true, true, true, true, false, false, false, false, false, false, false, false, false, false, false, false, false, false, false, false, false, false, false, false, false, false, false, false, false]) rfl rfl rfl (by decide) hf (by kernel_rfl) (fun _ => hS) (fun w => pOp_ok (tb := tab) tabOk hf rfl) rfl fun a hf => ?_
      refine (Bool.eq_false_or_eq_true (!y)).elim (fun hc2 => ?_) (fun hc2 => ?_)
      · rw [if_pos hc2] at hR1
        have hf := hf.lit 19 rfl hc2
        refine tkU (i := 5) (bs' := [true, true, true, true, true, true, false, false, false, false, false, false, false, false, false, false, false, false, false, false, false, false, false, false, false, false, false, false, false, false]) rfl rfl rfl rfl rfl rfl (by decide) hf (by kernel_rfl) (fun _ => hS) rfl fun a hf => ?_
        refine tkU (i := 6) (bs' := [true, true, true, true, true, true, true, false, false, false, false, false, false, false, false, false, false, false, false, false, false, false, false, false, false, false, false, false, false, false]) rfl rfl rfl rfl rfl rfl (by decide) hf (by kernel_rfl) (fun _ => hS) rfl fun a hf => ?_
        refine tkU (i := 7) (bs' := [true, true, true, true, true, true, true, true, false, false, false, false, false, false, false, false, false, false, false, false, false, false, false, false, false, false, false, false, false, false]) rfl rfl rfl rfl rfl rfl (by decide) hf (by kernel_rfl) (fun _ => hS) rfl fun a hf => ?_
        refine tkU (i := 8) (bs' := [true, true, true, true, true, true, true, true, true, false, false, false, false, false, false, false, false, false, false, false, false, false, false, false, false, false, false, false, false, false]) rfl rfl rfl rfl rfl rfl (by decide) hf (by kernel_rfl) (fun _ => hS) rfl fun a hf => ?_
        refine tkP (i := 9) (bs' := [true, true, true, true, true, true, true, true, true, true, false, false, false, false, false, false, false, false, false, false, false, false, false, false, false, false, false, false, false, false]) rfl rfl rfl (by decide) hf (by kernel_rfl) (fun _ => hS) (fun w => pOp_ok (tb := tab) tabOk hf rfl) rfl fun a hf => ?_
        refine tkP (i := 10) (bs' := [true, true, true, true, true, true, true, true, true, true, true, false, false, false, false, false, false, false, false, false, false, false, false, false, false, false, false, false, false, false]) rfl rfl rfl (by decide) hf (by kernel_rfl) (fun _ => hS) (fun w => pOp_ok (tb := tab) tabOk hf rfl) rfl fun a hf => ?_
        refine tkU (i := 11) (bs' := [true, true, true, true, true, true, true, true, true, true, true, true, false, false, false, false, false, false, false, false, false, false, false, false, false, false, false, false, false, false]) rfl rfl rfl rfl rfl rfl (by decide) hf (by kernel_rfl) (fun _ => hS) rfl fun a hf => ?_
        refine tkU (i := 12) (bs' := [true, true, true, true, true, true, true, true, true, true, true, true, true, false, false, false, false, false, false, false, false, false, false, false, false, false, false, false, false, false]) rfl rfl rfl rfl rfl rfl (by decide) hf (by kernel_rfl) (fun _ => hS) rfl fun a hf => ?_
        refine tkU (i := 13) (bs' := [true, true, true, true, true, true, true, true, true, true, true, true, true, true, false, false, false, false, false, false, false, false, false, false, false, false, false, false, false, false]) rfl rfl rfl rfl rfl rfl (by decide) hf (by kernel_rfl) (fun _ => hS) rfl fun a hf => ?_
        refine tkU (i := 14) (bs' := [true, true, true, true, true, true, true, true, true, true, true, true, true, true, true, false, false, false, false, false, false, false, false, false, false, false, false, false, false, false]) rfl rfl rfl rfl rfl rfl (by decide) hf (by kernel_rfl) (fun _ => hS) rfl fun a hf => ?_
        refine tkP (i := 15) (bs' := [true, true, true, true, true, true, true, true, true, true, true, true, true, true, true, true, false, false, false, false, false, false, false, false, false, false, false, false, false, false]) rfl rfl rfl (by decide) hf (by kernel_rfl) (fun _ => hS) (fun w => pOp_ok (tb := tab) tabOk hf rfl) rfl fun a hf => ?_
        refine tkP (i := 16) (bs' := [true, true, true, true, true, true, true, true, true, true, true, true, true, true, true, true, true, false, false, false, false, false, false, false, false, false, false, false, false, false]) rfl rfl rfl (by decide) hf (by kernel_rfl) (fun _ => hS) (fun w => pOp_ok (tb := tab) tabOk hf rfl) rfl fun a hf => ?_
        refine tkU (i := 17) (bs' := [true, true, true, true, true, true, true, true, true, true, true, true, true, true, true, true, true, true, false, false, false, false, false, false, false, false, false, false, false, false]) rfl rfl rfl rfl rfl rfl (by decide) hf (by kernel_rfl) (fun _ => hS) rfl fun a hf => ?_
        refine tkU (i := 18) (bs' := [true, true, true, true, true, true, true, true, true, true, true, true, true, true, true, true, true, true, true, false, false, false, false, false, false, false, false, false, false, false]) rfl rfl rfl rfl rfl rfl (by decide) hf (by kernel_rfl) (fun _ => hS) rfl fun a hf => ?_
        refine tkU (i := 19) (bs' := [true, true, true, true, true, true, true, true, true, true, true, true, true, true, true, true, true, true, true, true, false, false, false, false, false, false, false, false, false, false]) rfl rfl rfl rfl rfl rfl (by decide) hf (by kernel_rfl) (fun _ => hS) rfl fun a hf => ?_
        refine tkUU (i := 20) (bs' := [true, true, true, true, true, true, true, true, true, true, true, true, true, true, true, true, true, true, true, true, true, false, false, false, false, false, false, false, false, false]) rfl rfl rfl rfl rfl (by decide) hf (by kernel_rfl) (fun _ => hS) rfl fun a hf => ?_
        refine tkUU (i := 21) (bs' := [true, true, true, true, true, true, true, true, true, true, true, true, true, true, true, true, true, true, true, true, true, true, false, false, false, false, false, false, false, false]) rfl rfl rfl rfl rfl (by decide) hf (by kernel_rfl) (fun _ => hS) rfl fun a hf => ?_
        refine tkUU (i := 22) (bs' := [true, true, true, true, true, true, true, true, true, true, true, true, true, true, true, true, true, true, true, true, true, true, true, false, false, false, false, false, false, false]) rfl rfl rfl rfl rfl (by decide) hf (by kernel_rfl) (fun _ => hS) rfl fun a hf => ?_
        refine tkUU (i := 23) (bs' := [true, true, true, true, true, true, true, true, true, true, true, true, true, true, true, true, true, true, true, true, true, true, true, true, false, false, false, false, false, false]) rfl rfl rfl rfl rfl (by decide) hf (by kernel_rfl) (fun _ => hS) rfl fun a hf => ?_
        refine tkUU (i := 24) (bs' := [true, true, true, true, true, true, true, true, true, true, true, true, true, true, true, true, true, true, true, true, true, true, true, true, true, false, false, false, false, false]) rfl rfl rfl rfl rfl (by decide) hf (by kernel_rfl) (fun _ => hS) rfl fun a hf => ?_
        refine tkUU (i := 25) (bs' := [true, true, true, true, true, true, true, true, true, true, true, true, true, true, true, true, true, true, true, true, true, true, true, true, true, true, false, false, false, false]) rfl rfl rfl rfl rfl (by decide) hf (by kernel_rfl) (fun _ => hS) rfl fun a hf => ?_
        refine tkUU (i := 26) (bs' := [true, true, true, true, true, true, true, true, true, true, true, true, true, true, true, true, true, true, true, true, true, true, true, true, true, true, true, false, false, false]) rfl rfl rfl rfl rfl (by decide) hf (by kernel_rfl) (fun _ => hS) rfl fun a hf => ?_
        refine tkUU (i := 27) (bs' := [true, true, true, true, true, true, true, true, true, true, true, true, true, true, true, true, true, true, true, true, true, true, true, true, true, true, true, true, false, false]) rfl rfl rfl rfl rfl (by decide) hf (by kernel_rfl) (fun _ => hS) rfl fun a hf => ?_
        refine tkU (i := 28) (bs' := [true, true, true, true, true, true, true, true, true, true, true, true, true, true, true, true, true, true, true, true, true, true, true, true, true, true, true, true, true, false]) rfl rfl rfl rfl rfl rfl (by decide) hf (by kernel_rfl) (fun _ => hS) rfl fun a hf => ?_
        refine tkP (i := 29) (bs' := [true, true, true, true, true, true, true, true, true, true, true, true, true, true, true, true, true, true, true, true, true, true, true, true, true, true, true, true, true, true]) rfl rfl rfl (by decide) hf (by kernel_rfl) (fun _ => hS) (fun w => pOp_ok (tb := tab) tabOk hf rfl) rfl fun a hf => ?_
        refine dn (by kernel_rfl) ?_
        have hf := hf.prune [0, 3, 44] rfl
        refine then_n ?_
        refine cd_t hf rfl rfl ?_
        refine sq ?_
        refine reg ?_
        refine pRun_ok (tb := tab) (n := 48) tabOk 1 _ _ hf rfl rfl fun a hf => ?_
        refine wl_end ?_
        refine then_n ?_
        refine wp_ret (blk_r (then_r (then_r (blk_r (then_r (then_r (?_)))))))
        obtain rfl := Option.some.inj hR1
        replace hF := on_ret hF
        obtain rfl := Option.some.inj hF
        refine ret_1 (fn := Try.f112) (r := .tmp 2) hf rfl (rv_tmp hf rfl) ?_
        exact ⟨_, rfl, H.bel, mk_bool⟩
      · rw [if_neg (nt hc2)] at hR1
        have hf := hf.lit 19 rfl hc2
        refine tkPg (i := 5) (bs' := [true, true, true, true, true, true, false, false, false, false, false, false, false, false, false, false, false, false, false, false, false, false, false, false, false, false, false, false, false, false]) rfl rfl rfl rfl rfl (by decide) hf (by kernel_rfl) (fun _ => hS) (fun w => pOp_ok (tb := tab) tabOk hf rfl) rfl fun a hf => ?_
        refine tkSg (i := 6) (bs' := [true, true, true, true, true, true, true, false, false, false, false, false, false, false, false, false, false, false, false, false, false, false, false, false, false, false, false, false, false, false]) [] rfl rfl rfl rfl rfl (by decide) hf (by kernel_rfl) (by kernel_rfl) hS (fun w H => rq_loadB hf H TF.ls3 0 rfl rfl rfl) rfl fun a hf => ?_
        obtain ⟨y2, hy2, hR1⟩ := bind_some hR1
        refine on1g (i := 7) (bs' := [true, true, true, true, true, true, true, true, false, false, false, false, false, false, false, false, false, false, false, false, false, false, false, false, false, false, false, false, false, false]) (by kernel_rfl) rfl rfl rfl rfl hf rfl (op_call hf TF.cl97 rfl (by decide) (spec_l1In_ok (S := fun _ => True) mk_int mk_int mk_int hy2) fun v2 w a hp2 hf => ?_)
        obtain ⟨hb2, hp2⟩ := hp2
        obtain rfl := VR_bool hp2
        have H := H.keep hb2
        have hS : Mem ⟨w0, []⟩ S [⟨b', 119, [(.int .i64 e.Kind), (.int .i64 e.Node), (.int .i64 e.Count)]⟩] [] [] [(false, MP.cells ⟨p, o, none⟩ [(.int .i64 e.Kind), (.int .i64 e.Node), (.int .i64 e.Count)]), (false, MP.val [(.slice A bill.length c)] (bill : List Item))] w := H.let [true] [] [] [0, 1]
        refine ⟨fun _ => hS, ?_⟩
        refine tkPg (i := 8) (bs' := [true, true, true, true, true, true, true, true, true, false, false, false, false, false, false, false, false, false, false, false, false, false, false, false, false, false, false, false, false, false]) rfl rfl rfl rfl rfl (by decide) hf (by kernel_rfl) (fun _ => hS) (fun w => pOp_ok (tb := tab) tabOk hf rfl) rfl fun a hf => ?_
        refine tkP (i := 9) (bs' := [true, true, true, true, true, true, true, true, true, true, false, false, false, false, false, false, false, false, false, false, false, false, false, false, false, false, false, false, false, false]) rfl rfl rfl (by decide) hf (by kernel_rfl) (fun _ => hS) (fun w => pOp_ok (tb := tab) tabOk hf rfl) rfl fun a hf => ?_
        refine tkP (i := 10) (bs' := [true, true, true, true, true, true, true, true, true, true, true, false, false, false, false, false, false, false, false, false, false, false, false, false, false, false, false, false, false, false]) rfl rfl rfl (by decide) hf (by kernel_rfl) (fun _ => hS) (fun w => pOp_ok (tb := tab) tabOk hf rfl) rfl fun a hf => ?_
        refine (Bool.eq_false_or_eq_true (!y2)).elim (fun hc3 => ?_) (fun hc3 => ?_)
        · rw [if_pos hc3] at hR1
          have hf := hf.lit 25 rfl hc3
          refine tkU (i := 11) (bs' := [true, true, true, true, true, true, true, true, true, true, true, true, false, false, false, false, false, false, false, false, false, false, false, false, false, false, false, false, false, false]) rfl rfl rfl rfl rfl rfl (by decide) hf (by kernel_rfl) (fun _ => hS) rfl fun a hf => ?_
          refine tkU (i := 12) (bs' := [true, true, true, true, true, true, true, true, true, true, true, true, true, false, false, false, false, false, false, false, false, false, false, false, false, false, false, false, false, false]) rfl rfl rfl rfl rfl rfl (by decide) hf (by kernel_rfl) (fun _ => hS) rfl fun a hf => ?_
          refine tkU (i := 13) (bs' := [true, true, true, true, true, true, true, true, true, true, true, true, true, true, false, false, false, false, false, false, false, false, false, false, false, false, false, false, false, false]) rfl rfl rfl rfl rfl rfl (by decide) hf (by kernel_rfl) (fun _ => hS) rfl fun a hf => ?_
          refine tkU (i := 14) (bs' := [true, true, true, true, true, true, true, true, true, true, true, true, true, true, true, false, false, false, false, false, false, false, false, false, false, false, false, false, false, false]) rfl rfl rfl rfl rfl rfl (by decide) hf (by kernel_rfl) (fun _ => hS) rfl fun a hf => ?_
          refine tkP (i := 15) (bs' := [true, true, true, true, true, true, true, true, true, true, true, true, true, true, true, true, false, false, false, false, false, false, false, false, false, false, false, false, false, false]) rfl rfl rfl (by decide) hf (by kernel_rfl) (fun _ => hS) (fun w => pOp_ok (tb := tab) tabOk hf rfl) rfl fun a hf => ?_
          refine tkP (i := 16) (bs' := [true, true, true, true, true, true, true, true, true, true, true, true, true, true, true, true, true, false, false, false, false, false, false, false, false, false, false, false, false, false]) rfl rfl rfl (by decide) hf (by kernel_rfl) (fun _ => hS) (fun w => pOp_ok (tb := tab) tabOk hf rfl) rfl fun a hf => ?_
          refine tkU (i := 17) (bs' := [true, true, true, true, true, true, true, true, true, true, true, true, true, true, true, true, true, true, false, false, false, false, false, false, false, false, false, false, false, false]) rfl rfl rfl rfl rfl rfl (by decide) hf (by kernel_rfl) (fun _ => hS) rfl fun a hf => ?_
          refine tkU (i := 18) (bs' := [true, true, true, true, true, true, true, true, true, true, true, true, true, true, true, true, true, true, true, false, false, false, false, false, false, false, false, false, false, false]) rfl rfl rfl rfl rfl rfl (by decide) hf (by kernel_rfl) (fun _ => hS) rfl fun a hf => ?_
          refine tkU (i := 19) (bs' := [true, true, true, true, true, true, true, true, true, true, true, true, true, true, true, true, true, true, true, true, false, false, false, false, false, false, false, false, false, false]) rfl rfl rfl rfl rfl rfl (by decide) hf (by kernel_rfl) (fun _ => hS) rfl fun a hf => ?_
          refine tkUU (i := 20) (bs' := [true, true, true, true, true, true, true, true, true, true, true, true, true, true, true, true, true, true, true, true, true, false, false, false, false, false, false, false, false, false]) rfl rfl rfl rfl rfl (by decide) hf (by kernel_rfl) (fun _ => hS) rfl fun a hf => ?_
          refine tkUU (i := 21) (bs' := [true, true, true, true, true, true, true, true, true, true, true, true, true, true, true, true, true, true, true, true, true, true, false, false, false, false, false, false, false, false]) rfl rfl rfl rfl rfl (by decide) hf (by kernel_rfl) (fun _ => hS) rfl fun a hf => ?_
          refine tkUU (i := 22) (bs' := [true, true, true, true, true, true, true, true, true, true, true, true, true, true, true, true, true, true, true, true, true, true, true, false, false, false, false, false, false, false]) rfl rfl rfl rfl rfl (by decide) hf (by kernel_rfl) (fun _ => hS) rfl fun a hf => ?_
          refine tkUU (i := 23) (bs' := [true, true, true, true, true, true, true, true, true, true, true, true, true, true, true, true, true, true, true, true, true, true, true, true, false, false, false, false, false, false]) rfl rfl rfl rfl rfl (by decide) hf (by kernel_rfl) (fun _ => hS) rfl fun a hf => ?_
          refine tkUU (i := 24) (bs' := [true, true, true, true, true, true, true, true, true, true, true, true, true, true, true, true, true, true, true, true, true, true, true, true, true, false, false, false, false, false]) rfl rfl rfl rfl rfl (by decide) hf (by kernel_rfl) (fun _ => hS) rfl fun a hf => ?_
          refine tkUU (i := 25) (bs' := [true, true, true, true, true, true, true, true, true, true, true, true, true, true, true, true, true, true, true, true, true, true, true, true, true, true, false, false, false, false]) rfl rfl rfl rfl rfl (by decide) hf (by kernel_rfl) (fun _ => hS) rfl fun a hf => ?_
          refine tkUU (i := 26) (bs' := [true, true, true, true, true, true, true, true, true, true, true, true, true, true, true, true, true, true, true, true, true, true, true, true, true, true, true, false, false, false]) rfl rfl rfl rfl rfl (by decide) hf (by kernel_rfl) (fun _ => hS) rfl fun a hf => ?_
          refine tkUU (i := 27) (bs' := [true, true, true, true, true, true, true, true, true, true, true, true, true, true, true, true, true, true, true, true, true, true, true, true, true, true, true, true, false, false]) rfl rfl rfl rfl rfl (by decide) hf (by kernel_rfl) (fun _ => hS) rfl fun a hf => ?_
          refine tkU (i := 28) (bs' := [true, true, true, true, true, true, true, true, true, true, true, true, true, true, true, true, true, true, true, true, true, true, true, true, true, true, true, true, true, false]) rfl rfl rfl rfl rfl rfl (by decide) hf (by kernel_rfl) (fun _ => hS) rfl fun a hf => ?_
          refine tkP (i := 29) (bs' := [true, true, true, true, true, true, true, true, true, true, true, true, true, true, true, true, true, true, true, true, true, true, true, true, true, true, true, true, true, true]) rfl rfl rfl (by decide) hf (by kernel_rfl) (fun _ => hS) (fun w => pOp_ok (tb := tab) tabOk hf rfl) rfl fun a hf => ?_
          refine dn (by kernel_rfl) ?_
          have hf := hf.prune [0, 3, 20, 21, 22, 23, 44] rfl
          refine then_n ?_
          refine cd_t hf rfl rfl ?_
          refine sq ?_
          refine reg ?_
          refine pRun_ok (tb := tab) (n := 48) tabOk 1 _ _ hf rfl rfl fun a hf => ?_
          refine wl_end ?_
          refine then_n ?_
          refine wp_ret (blk_r (then_r (then_r (blk_r (then_r (then_r (?_)))))))
          obtain rfl := Option.some.inj hR1
          replace hF := on_ret hF
          obtain rfl := Option.some.inj hF
          refine ret_1 (fn := Try.f112) (r := .tmp 2) hf rfl (rv_tmp hf rfl) ?_
          exact ⟨_, rfl, H.bel, mk_bool⟩
        · rw [if_neg (nt hc3)] at hR1
          have hf := hf.lit 25 rfl hc3
          refine tkPg (i := 11) (bs' := [true, true, true, true, true, true, true, true, true, true, true, true, false, false, false, false, false, false, false, false, false, false, false, false, false, false, false, false, false, false]) rfl rfl rfl rfl rfl (by decide) hf (by kernel_rfl) (fun _ => hS) (fun w => pOp_ok (tb := tab) tabOk hf rfl) rfl fun a hf => ?_
          refine tkSg (i := 12) (bs' := [true, true, true, true, true, true, true, true, true, true, true, true, true, false, false, false, false, false, false, false, false, false, false, false, false, false, false, false, false, false]) [] rfl rfl rfl rfl rfl (by decide) hf (by kernel_rfl) (by kernel_rfl) hS (fun w H => rq_loadB hf H TF.ls3 0 rfl rfl rfl) rfl fun a hf => ?_
          obtain ⟨y3, hy3, hR1⟩ := bind_some hR1
          refine on1g (i := 13) (bs' := [true, true, true, true, true, true, true, true, true, true, true, true, true, true, false, false, false, false, false, false, false, false, false, false, false, false, false, false, false, false]) (by kernel_rfl) rfl rfl rfl rfl hf rfl (op_call hf TF.cl97 rfl (by decide) (spec_l1In_ok (S := fun _ => True) mk_int mk_int mk_int hy3) fun v3 w a hp3 hf => ?_)
          obtain ⟨hb3, hp3⟩ := hp3
          obtain rfl := VR_bool hp3
          have H := H.keep hb3
          have hS : Mem ⟨w0, []⟩ S [⟨b', 119, [(.int .i64 e.Kind), (.int .i64 e.Node), (.int .i64 e.Count)]⟩] [] [] [(false, MP.cells ⟨p, o, none⟩ [(.int .i64 e.Kind), (.int .i64 e.Node), (.int .i64 e.Count)]), (false, MP.val [(.slice A bill.length c)] (bill : List Item))] w := H.let [true] [] [] [0, 1]
          refine ⟨fun _ => hS, ?_⟩
          refine tkPg (i := 14) (bs' := [true, true, true, true, true, true, true, true, true, true, true, true, true, true, true, false, false, false, false, false, false, false, false, false, false, false, false, false, false, false]) rfl rfl rfl rfl rfl (by decide) hf (by kernel_rfl) (fun _ => hS) (fun w => pOp_ok (tb := tab) tabOk hf rfl) rfl fun a hf => ?_
          refine tkP (i := 15) (bs' := [true, true, true, true, true, true, true, true, true, true, true, true, true, true, true, true, false, false, false, false, false, false, false, false, false, false, false, false, false, false]) rfl rfl rfl (by decide) hf (by kernel_rfl) (fun _ => hS) (fun w => pOp_ok (tb := tab) tabOk hf rfl) rfl fun a hf => ?_
          refine tkP (i := 16) (bs' := [true, true, true, true, true, true, true, true, true, true, true, true, true, true, true, true, true, false, false, false, false, false, false, false, false, false, false, false, false, false]) rfl rfl rfl (by decide) hf (by kernel_rfl) (fun _ => hS) (fun w => pOp_ok (tb := tab) tabOk hf rfl) rfl fun a hf => ?_
          refine (Bool.eq_false_or_eq_true (!y3)).elim (fun hc4 => ?_) (fun hc4 => ?_)
          · rw [if_pos hc4] at hR1
            have hf := hf.lit 31 rfl hc4
            refine tkU (i := 17) (bs' := [true, true, true, true, true, true, true, true, true, true, true, true, true, true, true, true, true, true, false, false, false, false, false, false, false, false, false, false, false, false]) rfl rfl rfl rfl rfl rfl (by decide) hf (by kernel_rfl) (fun _ => hS) rfl fun a hf => ?_
            refine tkU (i := 18) (bs' := [true, true, true, true, true, true, true, true, true, true, true, true, true, true, true, true, true, true, true, false, false, false, false, false, false, false, false, false, false, false]) rfl rfl rfl rfl rfl rfl (by decide) hf (by kernel_rfl) (fun _ => hS) rfl fun a hf => ?_
            refine tkU (i := 19) (bs' := [true, true, true, true, true, true, true, true, true, true, true, true, true, true, true, true, true, true, true, true, false, false, false, false, false, false, false, false, false, false]) rfl rfl rfl rfl rfl rfl (by decide) hf (by kernel_rfl) (fun _ => hS) rfl fun a hf => ?_
            refine tkUU (i := 20) (bs' := [true, true, true, true, true, true, true, true, true, true, true, true, true, true, true, true, true, true, true, true, true, false, false, false, false, false, false, false, false, false]) rfl rfl rfl rfl rfl (by decide) hf (by kernel_rfl) (fun _ => hS) rfl fun a hf => ?_
            refine tkUU (i := 21) (bs' := [true, true, true, true, true, true, true, true, true, true, true, true, true, true, true, true, true, true, true, true, true, true, false, false, false, false, false, false, false, false]) rfl rfl rfl rfl rfl (by decide) hf (by kernel_rfl) (fun _ => hS) rfl fun a hf => ?_
            refine tkUU (i := 22) (bs' := [true, true, true, true, true, true, true, true, true, true, true, true, true, true, true, true, true, true, true, true, true, true, true, false, false, false, false, false, false, false]) rfl rfl rfl rfl rfl (by decide) hf (by kernel_rfl) (fun _ => hS) rfl fun a hf => ?_
            refine tkUU (i := 23) (bs' := [true, true, true, true, true, true, true, true, true, true, true, true, true, true, true, true, true, true, true, true, true, true, true, true, false, false, false, false, false, false]) rfl rfl rfl rfl rfl (by decide) hf (by kernel_rfl) (fun _ => hS) rfl fun a hf => ?_
            refine tkUU (i := 24) (bs' := [true, true, true, true, true, true, true, true, true, true, true, true, true, true, true, true, true, true, true, true, true, true, true, true, true, false, false, false, false, false]) rfl rfl rfl rfl rfl (by decide) hf (by kernel_rfl) (fun _ => hS) rfl fun a hf => ?_
            refine tkUU (i := 25) (bs' := [true, true, true, true, true, true, true, true, true, true, true, true, true, true, true, true, true, true, true, true, true, true, true, true, true, true, false, false, false, false]) rfl rfl rfl rfl rfl (by decide) hf (by kernel_rfl) (fun _ => hS) rfl fun a hf => ?_
            refine tkUU (i := 26) (bs' := [true, true, true, true, true, true, true, true, true, true, true, true, true, true, true, true, true, true, true, true, true, true, true, true, true, true, true, false, false, false]) rfl rfl rfl rfl rfl (by decide) hf (by kernel_rfl) (fun _ => hS) rfl fun a hf => ?_
            refine tkUU (i := 27) (bs' := [true, true, true, true, true, true, true, true, true, true, true, true, true, true, true, true, true, true, true, true, true, true, true, true, true, true, true, true, false, false]) rfl rfl rfl rfl rfl (by decide) hf (by kernel_rfl) (fun _ => hS) rfl fun a hf => ?_
            refine tkU (i := 28) (bs' := [true, true, true, true, true, true, true, true, true, true, true, true, true, true, true, true, true, true, true, true, true, true, true, true, true, true, true, true, true, false]) rfl rfl rfl rfl rfl rfl (by decide) hf (by kernel_rfl) (fun _ => hS) rfl fun a hf => ?_
            refine tkP (i := 29) (bs' := [true, true, true, true, true, true, true, true, true, true, true, true, true, true, true, true, true, true, true, true, true, true, true, true, true, true, true, true, true, true]) rfl rfl rfl (by decide) hf (by kernel_rfl) (fun _ => hS) (fun w => pOp_ok (tb := tab) tabOk hf rfl) rfl fun a hf => ?_
            refine dn (by kernel_rfl) ?_
            have hf := hf.prune [0, 3, 20, 21, 22, 23, 26, 27, 28, 29, 44] rfl
            refine then_n ?_
            refine cd_t hf rfl rfl ?_
            refine sq ?_
            refine reg ?_
            refine pRun_ok (tb := tab) (n := 48) tabOk 1 _ _ hf rfl rfl fun a hf => ?_
            refine wl_end ?_
            refine then_n ?_
            refine wp_ret (blk_r (then_r (then_r (blk_r (then_r (then_r (?_)))))))
            obtain rfl := Option.some.inj hR1
            replace hF := on_ret hF
            obtain rfl := Option.some.inj hF
            refine ret_1 (fn := Try.f112) (r := .tmp 2) hf rfl (rv_tmp hf rfl) ?_
            exact ⟨_, rfl, H.bel, mk_bool⟩
          · rw [if_neg (nt hc4)] at hR1
            have hf := hf.lit 31 rfl hc4
            refine tkPg (i := 17) (bs' := [true, true, true, true, true, true, true, true, true, true, true, true, true, true, true, true, true, true, false, false, false, false, false, false, false, false, false, false, false, false]) rfl rfl rfl rfl rfl (by decide) hf (by kernel_rfl) (fun _ => hS) (fun w => pOp_ok (tb := tab) tabOk hf rfl) rfl fun a hf => ?_
            refine tkPg (i := 18) (bs' := [true, true, true, true, true, true, true, true, true, true, true, true, true, true, true, true, true, true, true, false, false, false, false, false, false, false, false, false, false, false]) rfl rfl rfl rfl rfl (by decide) hf (by kernel_rfl) (fun _ => hS) (fun w => pOp_ok (tb := tab) tabOk hf rfl) rfl fun a hf => ?_
            refine tkPg (i := 19) (bs' := [true, true, true, true, true, true, true, true, true, true, true, true, true, true, true, true, true, true, true, true, false, false, false, false, false, false, false, false, false, false]) rfl rfl rfl rfl rfl (by decide) hf (by kernel_rfl) (fun _ => hS) (fun w => pOp_ok (tb := tab) tabOk hf rfl) rfl fun a hf => ?_
            refine (Bool.eq_false_or_eq_true (decide (i > 0))).elim (fun hc5 => ?_) (fun hc5 => ?_)
            · rw [if_pos hc5] at hR1
              have hf := hf.lit 34 rfl hc5
              refine tkPg (i := 20) (bs' := [true, true, true, true, true, true, true, true, true, true, true, true, true, true, true, true, true, true, true, true, true, false, false, false, false, false, false, false, false, false]) rfl rfl rfl rfl rfl (by decide) hf (by kernel_rfl) (fun _ => hS) (fun w => pOp_ok (tb := tab) tabOk hf rfl) rfl fun a hf => ?_
              refine tkPg (i := 21) (bs' := [true, true, true, true, true, true, true, true, true, true, true, true, true, true, true, true, true, true, true, true, true, true, false, false, false, false, false, false, false, false]) rfl rfl rfl rfl rfl (by decide) hf (by kernel_rfl) (fun _ => hS) (fun w => pOp_ok (tb := tab) tabOk hf rfl) rfl fun a hf => ?_
              refine tkPg (i := 22) (bs' := [true, true, true, true, true, true, true, true, true, true, true, true, true, true, true, true, true, true, true, true, true, true, true, false, false, false, false, false, false, false]) rfl rfl rfl rfl rfl (by decide) hf (by kernel_rfl) (fun _ => hS) (fun w => pOp_ok (tb := tab) tabOk hf rfl) rfl fun a hf => ?_
              obtain ⟨e2, he2, hR1⟩ := bind_some hR1
              obtain ⟨p2, o2, cs2, hx, hr2, H⟩ := pre_iaddr H Try.underlying53 TF.sz119 1 rfl he2
              refine tkPg (i := 23) (bs' := [true, true, true, true, true, true, true, true, true, true, true, true, true, true, true, true, true, true, true, true, true, true, true, true, false, false, false, false, false, false]) rfl rfl rfl rfl rfl (by decide) hf (by kernel_rfl) (fun _ => hS) (fun w => rq_iaddrE hf rfl rfl rfl hx w) rfl fun a hf => ?_
              obtain rfl := Item_cells hr2
              refine str (fun w => Mem ⟨w0, []⟩ S [⟨b', 119, [(.int .i64 e.Kind), (.int .i64 e.Node), (.int .i64 e.Count)]⟩] [] [] [(false, MP.cells ⟨p2, o2, none⟩ [(.int .i64 e2.Kind), (.int .i64 e2.Node), (.int .i64 e2.Count)]), (false, MP.cells ⟨p, o, none⟩ [(.int .i64 e.Kind), (.int .i64 e.Node), (.int .i64 e.Count)]), (false, MP.val [(.slice A bill.length c)] (bill : List Item))] w) (fun w H => H.let [true] [] [] [1, 2]) ?_
              have hS : Mem ⟨w0, []⟩ S [⟨b', 119, [(.int .i64 e.Kind), (.int .i64 e.Node), (.int .i64 e.Count)]⟩] [] [] [(false, MP.cells ⟨p2, o2, none⟩ [(.int .i64 e2.Kind), (.int .i64 e2.Node), (.int .i64 e2.Count)]), (false, MP.cells ⟨p, o, none⟩ [(.int .i64 e.Kind), (.int .i64 e.Node), (.int .i64 e.Count)]), (false, MP.val [(.slice A bill.length c)] (bill : List Item))] w := H.let [true] [] [] [0, 1, 2]
              refine tkSg (i := 24) (bs' := [true, true, true, true, true, true, true, true, true, true, true, true, true, true, true, true, true, true, true, true, true, true, true, true, true, false, false, false, false, false]) [] rfl rfl rfl rfl rfl (by decide) hf (by kernel_rfl) (by kernel_rfl) hS (fun w H => rq_loadIN hf H TF.la119 0 0 rfl rfl rfl rfl) rfl fun a hf => ?_
              refine tkSg (i := 25) (bs' := [true, true, true, true, true, true, true, true, true, true, true, true, true, true, true, true, true, true, true, true, true, true, true, true, true, true, false, false, false, false]) [] rfl rfl rfl rfl rfl (by decide) hf (by kernel_rfl) (by kernel_rfl) hS (fun w H => rq_loadBN hf H TF.la119 0 rfl rfl rfl rfl) rfl fun a hf => ?_
              obtain ⟨y4, hy4, hR1⟩ := bind_some hR1
              refine on1g (i := 26) (bs' := [true, true, true, true, true, true, true, true, true, true, true, true, true, true, true, true, true, true, true, true, true, true, true, true, true, true, true, false, false, false]) (by kernel_rfl) rfl rfl rfl rfl hf rfl (op_call hf TF.cl154 rfl (by decide) (spec_l19Before_ok (S := fun _ => True) Item_mkv Item_mkv hy4) fun v4 w a hp4 hf => ?_)
              obtain ⟨hb4, hp4⟩ := hp4
              obtain rfl := VR_bool hp4
              have H := H.keep hb4
              have hS : Mem ⟨w0, []⟩ S [⟨b', 119, [(.int .i64 e.Kind), (.int .i64 e.Node), (.int .i64 e.Count)]⟩] [] [] [(false, MP.cells ⟨p2, o2, none⟩ [(.int .i64 e2.Kind), (.int .i64 e2.Node), (.int .i64 e2.Count)]), (false, MP.cells ⟨p, o, none⟩ [(.int .i64 e.Kind), (.int .i64 e.Node), (.int .i64 e.Count)]), (false, MP.val [(.slice A bill.length c)] (bill : List Item))] w := H.let [true] [] [] [0, 1, 2]
              refine ⟨fun _ => hS, ?_⟩
              refine tkPg (i := 27) (bs' := [true, true, true, true, true, true, true, true, true, true, true, true, true, true, true, true, true, true, true, true, true, true, true, true, true, true, true, true, false, false]) rfl rfl rfl rfl rfl (by decide) hf (by kernel_rfl) (fun _ => hS) (fun w => pOp_ok (tb := tab) tabOk hf rfl) rfl fun a hf => ?_
              refine tkPg (i := 28) (bs' := [true, true, true, true, true, true, true, true, true, true, true, true, true, true, true, true, true, true, true, true, true, true, true, true, true, true, true, true, true, false]) rfl rfl rfl rfl rfl (by decide) hf (by kernel_rfl) (fun _ => hS) (fun w => pOp_ok (tb := tab) tabOk hf rfl) rfl fun a hf => ?_
              refine tkP (i := 29) (bs' := [true, true, true, true, true, true, true, true, true, true, true, true, true, true, true, true, true, true, true, true, true, true, true, true, true, true, true, true, true, true]) rfl rfl rfl (by decide) hf (by kernel_rfl) (fun _ => hS) (fun w => pOp_ok (tb := tab) tabOk hf rfl) rfl fun a hf => ?_
              refine dn (by kernel_rfl) ?_
              have hf := hf.prune [0, 3, 20, 21, 22, 23, 26, 27, 28, 29, 32, 33, 34, 35, 36, 37, 38, 39, 40, 41, 42, 43, 44] rfl
              refine then_n ?_
              refine (Bool.eq_false_or_eq_true (!y4)).elim (fun hc6 => ?_) (fun hc6 => ?_)
              · rw [if_pos hc6] at hR1
                refine cd_t hf rfl hc6 ?_
                refine sq ?_
                refine reg ?_
                refine pRun_ok (tb := tab) (n := 48) tabOk 1 _ _ hf rfl rfl fun a hf => ?_
                have hf := hf.prune [2] rfl
                refine wl_end ?_
                refine then_n ?_
                refine wp_ret (blk_r (then_r (then_r (blk_r (then_r (then_r (?_)))))))
                obtain rfl := Option.some.inj hR1
                replace hF := on_ret hF
                obtain rfl := Option.some.inj hF
                refine ret_1 (fn := Try.f112) (r := .tmp 2) hf rfl (rv_tmp hf rfl) ?_
                exact ⟨_, rfl, H.bel, mk_bool⟩
              · rw [if_neg (nt hc6)] at hR1
                refine cd_f hf rfl hc6 ?_
                refine wp_skip ?_
                refine blk_n ?_
                refine then_n ?_
                refine reg ?_
                refine pRun_ok (tb := tab) (n := 48) tabOk 3 _ _ hf rfl rfl fun a hf => ?_
                refine wl_end ?_
                have hf := hf.prune [0, 3] rfl
                have H := H.let [false] [] [] [2]
                exact then_n ⟨w64 (i + 1), hR1, hf, H⟩
            · rw [if_neg (nt hc5)] at hR1
              have hf := hf.lit 34 rfl hc5
              refine tkU (i := 20) (bs' := [true, true, true, true, true, true, true, true, true, true, true, true, true, true, true, true, true, true, true, true, true, false, false, false, false, false, false, false, false, false]) rfl rfl rfl rfl rfl rfl (by decide) hf (by kernel_rfl) (fun _ => hS) rfl fun a hf => ?_
              refine tkU (i := 21) (bs' := [true, true, true, true, true, true, true, true, true, true, true, true, true, true, true, true, true, true, true, true, true, true, false, false, false, false, false, false, false, false]) rfl rfl rfl rfl rfl rfl (by decide) hf (by kernel_rfl) (fun _ => hS) rfl fun a hf => ?_
              refine tkU (i := 22) (bs' := [true, true, true, true, true, true, true, true, true, true, true, true, true, true, true, true, true, true, true, true, true, true, true, false, false, false, false, false, false, false]) rfl rfl rfl rfl rfl rfl (by decide) hf (by kernel_rfl) (fun _ => hS) rfl fun a hf => ?_
              refine tkU (i := 23) (bs' := [true, true, true, true, true, true, true, true, true, true, true, true, true, true, true, true, true, true, true, true, true, true, true, true, false, false, false, false, false, false]) rfl rfl rfl rfl rfl rfl (by decide) hf (by kernel_rfl) (fun _ => hS) rfl fun a hf => ?_
              refine tkU (i := 24) (bs' := [true, true, true, true, true, true, true, true, true, true, true, true, true, true, true, true, true, true, true, true, true, true, true, true, true, false, false, false, false, false]) rfl rfl rfl rfl rfl rfl (by decide) hf (by kernel_rfl) (fun _ => hS) rfl fun a hf => ?_
              refine tkU (i := 25) (bs' := [true, true, true, true, true, true, true, true, true, true, true, true, true, true, true, true, true, true, true, true, true, true, true, true, true, true, false, false, false, false]) rfl rfl rfl rfl rfl rfl (by decide) hf (by kernel_rfl) (fun _ => hS) rfl fun a hf => ?_
              refine tkU (i := 26) (bs' := [true, true, true, true, true, true, true, true, true, true, true, true, true, true, true, true, true, true, true, true, true, true, true, true, true, true, true, false, false, false]) rfl rfl rfl rfl rfl rfl (by decide) hf (by kernel_rfl) (fun _ => hS) rfl fun a hf => ?_
              refine tkU (i := 27) (bs' := [true, true, true, true, true, true, true, true, true, true, true, true, true, true, true, true, true, true, true, true, true, true, true, true, true, true, true, true, false, false]) rfl rfl rfl rfl rfl rfl (by decide) hf (by kernel_rfl) (fun _ => hS) rfl fun a hf => ?_
              refine tkPg (i := 28) (bs' := [true, true, true, true, true, true, true, true, true, true, true, true, true, true, true, true, true, true, true, true, true, true, true, true, true, true, true, true, true, false]) rfl rfl rfl rfl rfl (by decide) hf (by kernel_rfl) (fun _ => hS) (fun w => pOp_ok (tb := tab) tabOk hf rfl) rfl fun a hf => ?_
              refine tkP (i := 29) (bs' := [true, true, true, true, true, true, true, true, true, true, true, true, true, true, true, true, true, true, true, true, true, true, true, true, true, true, true, true, true, true]) rfl rfl rfl (by decide) hf (by kernel_rfl) (fun _ => hS) (fun w => pOp_ok (tb := tab) tabOk hf rfl) rfl fun a hf => ?_
              refine dn (by kernel_rfl) ?_
              have hf := hf.prune [0, 3, 20, 21, 22, 23, 26, 27, 28, 29, 32, 33, 34, 43, 44] rfl
              refine then_n ?_
              refine cd_f hf rfl rfl ?_
              refine wp_skip ?_
              refine blk_n ?_
              refine then_n ?_
              refine reg ?_
              refine pRun_ok (tb := tab) (n := 48) tabOk 3 _ _ hf rfl rfl fun a hf => ?_
              refine wl_end ?_
              have hf := hf.prune [0, 3] rfl
              have H := H.let [false] [] [] [1]
              exact then_n ⟨w64 (i + 1), hR1, hf, H⟩
    · rw [if_neg (nt hc)] at hR1
      refine cd_f hf rfl hc ?_
      refine wp_exit (then_x (then_x (blk_e (?_))))
      have hf := hf.prune [0, 3] rfl
      have H := H.let [] [] [] [0]
      exact ⟨i, (Option.some.inj hR1).symm, hf, H⟩
  rintro a w ⟨i2, rfl, hf, H⟩
  replace hF := on_next hF
  refine then_n ?_
  refine sq ?_
  refine reg ?_
  refine pRun_ok (tb := tab) (n := 48) tabOk 4 _ _ hf rfl rfl fun a hf => ?_
  refine wl_end ?_
  refine then_n ?_
  refine wp_ret (?_)
  obtain rfl := Option.some.inj hF
  refine ret_1 (fn := Try.f112) (r := .tmp 2) hf rfl (rv_tmp hf rfl) ?_
  exact ⟨_, rfl, H.bel, mk_bool⟩

/- loop.example/g00897/spec.CostOf -/
set_option maxHeartbeats 1000000 in
theorem spec_CostOf_ok {fu : Nat} {w0 : World} {S : Nat → Prop} {v0_ : Value} {v1_ : Value} {bill : List Item} {prices : List Int} {r : Int × Bool} (h0 : VR w0 S v0_ bill) (h1 : VR w0 S v1_ prices) (hF : spec_CostOf fu bill prices = some r) :
    Calls Try.prog 47 [v0_, v1_].toArray w0 fun e w' => ∃ v, e = .returned v ∧ (Below w0.heap.size w0 w' ∧ ∃ u0 u1, v = .tuple #[u0, u1] ∧ VR w' (St ⟨w0, []⟩ S [] [] [] true) u0 r.1 ∧ VR w' (St ⟨w0, []⟩ S [] [] [] true) u1 r.2) := by
  obtain ⟨A, c, rfl, hl⟩ := VR_list h0
  obtain ⟨A2, c2, rfl, hl2⟩ := VR_list h1
  have H := Mem.start ⟨w0, []⟩ S
  have H := H.pushArg (MP.val [(.slice A bill.length c)] bill) hl
  have H := H.pushArg (MP.val [(.slice A2 prices.length c2)] prices) hl2
  refine enter Try.func47 rfl rfl (nle rfl) rfl fun a hf => ?_
  rw [spec_CostOf] at hF
  refine sq ?_
  refine reg ?_
  refine pRun_ok (tb := tab) (n := 51) tabOk 2 _ _ hf rfl rfl fun a hf => ?_
  refine wl_end ?_
  refine then_n ?_
  refine sq ?_
  refine sq ?_
  obtain ⟨c3, hGc3, hF⟩ := bind_some hF
  refine mid (fun a w => Fr a 51 [(0, (.slice A bill.length c)), (1, (.slice A2 prices.length c2)), (16, (.bool c3))] ∧ Mem ⟨w0, []⟩ S [] [] [] [(false, MP.val [(.slice A2 prices.length c2)] (prices : List Int)), (false, MP.val [(.slice A bill.length c)] (bill : List Item))] w) ?_ ?_
  · refine reg ?_
    refine pRun_ok (tb := tab) (n := 51) tabOk 1 _ _ hf rfl rfl fun a hf => ?_
    obtain ⟨y, hy, hGc3⟩ := bind_some hGc3
    refine wl0 rfl (op_call hf TF.cl112 rfl (by decide) (spec_l19Bill_ok (S := fun _ => True) (mk_list (rep_true (α := List Item) (H.get 1 rfl))) hy) fun v w a hp hf => ?_)
    obtain ⟨hb, hp⟩ := hp
    obtain rfl := VR_bool hp
    have H := H.keep hb
    refine pRun_ok (tb := tab) (n := 51) tabOk 2 _ _ hf rfl rfl fun a hf => ?_
    refine (Bool.eq_false_or_eq_true (!y)).elim (fun hc => ?_) (fun hc => ?_)
    · rw [if_pos hc] at hGc3
      have hf := hf.lit 12 rfl hc
      refine pRun_ok (tb := tab) (n := 51) tabOk 4 _ _ hf rfl rfl fun a hf => ?_
      obtain rfl := Option.some.inj hGc3
      have hf := hf.prune [0, 1, 16] rfl
      have H := H.let [] [] [] [0, 1]
      exact wl_end ⟨hf, H⟩
    · rw [if_neg (nt hc)] at hGc3
      have hf := hf.lit 12 rfl hc
      refine pRun_ok (tb := tab) (n := 51) tabOk 4 _ _ hf rfl rfl fun a hf => ?_
      obtain rfl := Option.some.inj hGc3
      have hf := hf.prune [0, 1, 16] rfl
      have H := H.let [] [] [] [0, 1]
      exact wl_end ⟨hf, H⟩
  rintro a w ⟨hf, H⟩
  refine then_n ?_
  refine (Bool.eq_false_or_eq_true (c3)).elim (fun hc2 => ?_) (fun hc2 => ?_)
  · rw [if_pos hc2] at hF
    refine cd_t hf rfl hc2 ?_
    refine sq ?_
    refine reg ?_
    refine pRun_ok (tb := tab) (n := 51) tabOk 2 _ _ hf rfl rfl fun a hf => ?_
    refine wl_end ?_
    refine then_n ?_
    refine wp_ret (then_r (?_))
    obtain rfl := Option.some.inj hF
    refine ret_2 (fn := Try.f47) (r := .tmp 4) (s := .tmp 5) hf rfl (rv_tmp hf rfl) (rv_tmp hf rfl) ?_
    exact ⟨_, rfl, H.bel, _, _, rfl, mk_int, mk_bool⟩
  · rw [if_neg (nt hc2)] at hF
    refine cd_f hf rfl hc2 ?_
    refine wp_skip ?_
    refine then_n ?_
    refine sq ?_
    refine sq ?_
    refine reg ?_
    refine pRun_ok (tb := tab) (n := 51) tabOk 1 _ _ hf rfl rfl fun a hf => ?_
    refine wl_end ?_
    refine then_n ?_
    obtain ⟨out', hB1, hF⟩ := bind_some hF
    have hf := hf.prune [0, 1, 6] rfl
    have H := H.let [] [] [] [0, 1]
    have hI : (fun (s : Int) (a : Act) (w : World) => match s with | i => Fr a 51 [(0, (.slice A bill.length c)), (1, (.slice A2 prices.length c2)), (6, (.int .i64 i))] ∧ Mem ⟨w0, []⟩ S [] [] [] [(false, MP.val [(.slice A2 prices.length c2)] (prices : List Int)), (false, MP.val [(.slice A bill.length c)] (bill : List Item))] w) 0 a w := ⟨hf, H⟩
    refine mid (fun a w => ∃ s : Int, out' = Out.next s ∧ (fun (s : Int) (a : Act) (w : World) => match s with | i => Fr a 51 [(0, (.slice A bill.length c)), (1, (.slice A2 prices.length c2)), (6, (.int .i64 i))] ∧ Mem ⟨w0, []⟩ S [] [] [] [(false, MP.val [(.slice A2 prices.length c2)] (prices : List Int)), (false, MP.val [(.slice A bill.length c)] (bill : List Item))] w) s a w) ?_ ?_
    · refine wp_block ?_
      refine loop_rule (fun k (s : Int) => spec_CostOf_L1 fu prices k s = some out') (fun (s : Int) (a : Act) (w : World) => match s with | i => Fr a 51 [(0, (.slice A bill.length c)), (1, (.slice A2 prices.length c2)), (6, (.int .i64 i))] ∧ Mem ⟨w0, []⟩ S [] [] [] [(false, MP.val [(.slice A2 prices.length c2)] (prices : List Int)), (false, MP.val [(.slice A bill.length c)] (bill : List Item))] w) (fun s h => by cases h) ?_ fu 0 a w hB1 hI
      rintro fk i a w hR1 hI
      replace hR1 : spec_CostOf_L1 fu prices (fk + 1) i = some out' := hR1
      rw [spec_CostOf_L1] at hR1
      obtain ⟨hf, H⟩ := hI
      refine sq ?_
      refine sq ?_
      refine reg ?_
      refine pRun_ok (tb := tab) (n := 51) tabOk 2 _ _ hf rfl rfl fun a hf => ?_
      refine wl_end ?_
      refine then_n ?_
      refine (Bool.eq_false_or_eq_true (decide (i < 4))).elim (fun hc3 => ?_) (fun hc3 => ?_)
      · rw [if_pos hc3] at hR1
        refine cd_t hf rfl hc3 ?_
        refine wp_skip ?_
        refine then_n ?_
        refine sq ?_
        refine wp_block ?_
        refine sq ?_
        refine reg ?_
        refine pRun_ok (tb := tab) (n := 51) tabOk 2 _ _ hf rfl rfl fun a hf => ?_
        obtain ⟨e, he, hR1⟩ := bind_some hR1
        refine wl0 rfl (op_iaddr hf H Try.underlying35 TF.sz3 0 rfl rfl rfl he (by decide) fun p o cs a hf hr H => ?_)
        obtain rfl := hr
        refine wl0 rfl (op_q hf (rq_loadI hf H TF.ls3 0 0 rfl rfl rfl) rfl (by decide) fun a hf => ?_)
        obtain ⟨y2, hy2, hR1⟩ := bind_some hR1
        refine wl0 rfl (op_call hf TF.cl97 rfl (by decide) (spec_l1In_ok (S := fun _ => True) mk_int mk_int mk_int hy2) fun v2 w a hp2 hf => ?_)
        obtain ⟨hb2, hp2⟩ := hp2
        obtain rfl := VR_bool hp2
        have H := H.keep hb2
        refine pRun_ok (tb := tab) (n := 51) tabOk 1 _ _ hf rfl rfl fun a hf => ?_
        refine wl_end ?_
        refine then_n ?_
        refine (Bool.eq_false_or_eq_true (!y2)).elim (fun hc4 => ?_) (fun hc4 => ?_)
        · rw [if_pos hc4] at hR1
          refine cd_t hf rfl hc4 ?_
          refine sq ?_
          refine reg ?_
          refine pRun_ok (tb := tab) (n := 51) tabOk 2 _ _ hf rfl rfl fun a hf => ?_
          refine wl_end ?_
          refine then_n ?_
          refine wp_ret (blk_r (then_r (then_r (blk_r (then_r (then_r (?_)))))))
          obtain rfl := Option.some.inj hR1
          replace hF := on_ret hF
          obtain rfl := Option.some.inj hF
          refine ret_2 (fn := Try.f47) (r := .tmp 4) (s := .tmp 5) hf rfl (rv_tmp hf rfl) (rv_tmp hf rfl) ?_
          exact ⟨_, rfl, H.bel, _, _, rfl, mk_int, mk_bool⟩
        · rw [if_neg (nt hc4)] at hR1
          refine cd_f hf rfl hc4 ?_
          refine wp_skip ?_
          refine blk_n ?_
          refine then_n ?_
          refine reg ?_
          refine pRun_ok (tb := tab) (n := 51) tabOk 3 _ _ hf rfl rfl fun a hf => ?_
          refine wl_end ?_
          have hf := hf.prune [0, 1, 6] rfl
          have H := H.let [] [] [] [1, 2]
          exact then_n ⟨w64 (i + 1), hR1, hf, H⟩
      · rw [if_neg (nt hc3)] at hR1
        refine cd_f hf rfl hc3 ?_
        refine wp_exit (then_x (then_x (blk_e (?_))))
        have hf := hf.prune [0, 1, 6] rfl
        have H := H.let [] [] [] [0, 1]
        exact ⟨i, (Option.some.inj hR1).symm, hf, H⟩
    rintro a w ⟨i2, rfl, hf, H⟩
    replace hF := on_next hF
    refine then_n ?_
    refine sq ?_
    refine reg ?_
    refine pRun_ok (tb := tab) (n := 51) tabOk 1 _ _ hf rfl rfl fun a hf => ?_
    refine wl_end ?_
    refine then_n ?_
    refine sq ?_
    refine sq ?_
    refine reg ?_
    refine pRun_ok (tb := tab) (n := 51) tabOk 1 _ _ hf rfl rfl fun a hf => ?_
    refine wl_end ?_
    refine then_n ?_
    obtain ⟨out2, hB1, hF⟩ := bind_some hF
    have hf := hf.prune [0, 1, 7, 8] rfl
    have H := H.let [] [] [] [0, 1]
    have hI : (fun (s : Int × Int) (a : Act) (w : World) => match s with | (sum, i3) => Fr a 51 [(0, (.slice A bill.length c)), (1, (.slice A2 prices.length c2)), (7, (.int .i64 sum)), (8, (.int .i64 i3))] ∧ Mem ⟨w0, []⟩ S [] [] [] [(false, MP.val [(.slice A2 prices.length c2)] (prices : List Int)), (false, MP.val [(.slice A bill.length c)] (bill : List Item))] w) (0, 0) a w := ⟨hf, H⟩
    refine mid (fun a w => ∃ s : Int × Int, out2 = s ∧ (fun (s : Int × Int) (a : Act) (w : World) => match s with | (sum, i3) => Fr a 51 [(0, (.slice A bill.length c)), (1, (.slice A2 prices.length c2)), (7, (.int .i64 sum)), (8, (.int .i64 i3))] ∧ Mem ⟨w0, []⟩ S [] [] [] [(false, MP.val [(.slice A2 prices.length c2)] (prices : List Int)), (false, MP.val [(.slice A bill.length c)] (bill : List Item))] w) s a w) ?_ ?_
    · refine wp_block ?_
      refine loop_rule (fun k (s : Int × Int) => spec_CostOf_L2 fu bill prices k s.1 s.2 = some out2) (fun (s : Int × Int) (a : Act) (w : World) => match s with | (sum, i3) => Fr a 51 [(0, (.slice A bill.length c)), (1, (.slice A2 prices.length c2)), (7, (.int .i64 sum)), (8, (.int .i64 i3))] ∧ Mem ⟨w0, []⟩ S [] [] [] [(false, MP.val [(.slice A2 prices.length c2)] (prices : List Int)), (false, MP.val [(.slice A bill.length c)] (bill : List Item))] w) (fun s h => by cases h) ?_ fu (0, 0) a w hB1 hI
      rintro fk ⟨sum, i3⟩ a w hR1 hI
      replace hR1 : spec_CostOf_L2 fu bill prices (fk + 1) sum i3 = some out2 := hR1
      rw [spec_CostOf_L2] at hR1
      obtain ⟨hf, H⟩ := hI
      refine sq ?_
      refine sq ?_
      refine reg ?_
      refine pRun_ok (tb := tab) (n := 51) tabOk 4 _ _ hf rfl rfl fun a hf => ?_
      refine wl_end ?_
      refine then_n ?_
      refine (Bool.eq_false_or_eq_true (decide (i3 < (bill.length : Int)))).elim (fun hc5 => ?_) (fun hc5 => ?_)
      · rw [if_pos hc5] at hR1
        refine cd_t hf rfl hc5 ?_
        refine wp_skip ?_
        refine then_n ?_
        refine sq ?_
        refine wp_block ?_
        refine drawn [] (bs := [false, false, false, false, false, false, false, false, false, false, false, false, false, false, false, false, false, false]) (fuel := 18) (Checked.mixed Try.checked) rfl rfl fun w hb => ?_
        have H := H.keep hb
        refine tkP (i := 0) (bs' := [true, false, false, false, false, false, false, false, false, false, false, false, false, false, false, false, false, false]) rfl rfl rfl (by decide) hf (by kernel_rfl) (fun _ => trivial) (fun w => pOp_ok (tb := tab) tabOk hf rfl) rfl fun a hf => ?_
        refine tkP (i := 1) (bs' := [true, true, false, false, false, false, false, false, false, false, false, false, false, false, false, false, false, false]) rfl rfl rfl (by decide) hf (by kernel_rfl) (fun _ => trivial) (fun w => pOp_ok (tb := tab) tabOk hf rfl) rfl fun a hf => ?_
        refine tkP (i := 2) (bs' := [true, true, true, false, false, false, false, false, false, false, false, false, false, false, false, false, false, false]) rfl rfl rfl (by decide) hf (by kernel_rfl) (fun _ => trivial) (fun w => pOp_ok (tb := tab) tabOk hf rfl) rfl fun a hf => ?_
        obtain ⟨e2, he2, hR1⟩ := bind_some hR1
        obtain ⟨p2, o2, cs2, hx, hr2, H⟩ := pre_iaddr H Try.underlying53 TF.sz119 1 rfl he2
        refine tkP (i := 3) (bs' := [true, true, true, true, false, false, false, false, false, false, false, false, false, false, false, false, false, false]) rfl rfl rfl (by decide) hf (by kernel_rfl) (fun _ => trivial) (fun w => rq_iaddrE hf rfl rfl rfl hx w) rfl fun a hf => ?_
        obtain rfl := Item_cells hr2
        refine tkP (i := 4) (bs' := [true, true, true, true, true, false, false, false, false, false, false, false, false, false, false, false, false, false]) rfl rfl rfl (by decide) hf (by kernel_rfl) (fun _ => trivial) (fun w => pOp_ok (tb := tab) tabOk hf rfl) rfl fun a hf => ?_
        refine str (fun w => Mem ⟨w0, []⟩ S [] [] [] [(false, MP.cells ⟨p2, o2, none⟩ [(.int .i64 e2.Kind), (.int .i64 e2.Node), (.int .i64 e2.Count)]), (false, MP.val [(.slice A2 prices.length c2)] (prices : List Int)), (false, MP.val [(.slice A bill.length c)] (bill : List Item))] w) (fun w H => trivial) ?_
        have hS : Mem ⟨w0, []⟩ S [] [] [] [(false, MP.cells ⟨p2, o2, none⟩ [(.int .i64 e2.Kind), (.int .i64 e2.Node), (.int .i64 e2.Count)]), (false, MP.val [(.slice A2 prices.length c2)] (prices : List Int)), (false, MP.val [(.slice A bill.length c)] (bill : List Item))] w := H.let [] [] [] [0, 1, 2]
        refine tkS (i := 5) (bs' := [true, true, true, true, true, true, false, false, false, false, false, false, false, false, false, false, false, false]) [] rfl rfl rfl (by decide) hf (by kernel_rfl) (by kernel_rfl) hS (fun w H => rq_loadI hf H TF.ls3 0 2 rfl rfl rfl) rfl fun a hf => ?_
        refine tkP (i := 6) (bs' := [true, true, true, true, true, true, true, false, false, false, false, false, false, false, false, false, false, false]) rfl rfl rfl (by decide) hf (by kernel_rfl) (fun _ => hS) (fun w => pOp_ok (tb := tab) tabOk hf rfl) rfl fun a hf => ?_
        refine tkP (i := 7) (bs' := [true, true, true, true, true, true, true, true, false, false, false, false, false, false, false, false, false, false]) rfl rfl rfl (by decide) hf (by kernel_rfl) (fun _ => hS) (fun w => pOp_ok (tb := tab) tabOk hf rfl) rfl fun a hf => ?_
        refine tkP (i := 8) (bs' := [true, true, true, true, true, true, true, true, true, false, false, false, false, false, false, false, false, false]) rfl rfl rfl (by decide) hf (by kernel_rfl) (fun _ => hS) (fun w => pOp_ok (tb := tab) tabOk hf rfl) rfl fun a hf => ?_
        obtain ⟨e3, he3, hR1⟩ := bind_some hR1
        obtain ⟨p3, o3, cs3, hx2, hr3, H⟩ := pre_iaddr H Try.underlying53 TF.sz119 2 rfl he3
        refine tkP (i := 9) (bs' := [true, true, true, true, true, true, true, true, true, true, false, false, false, false, false, false, false, false]) rfl rfl rfl (by decide) hf (by kernel_rfl) (fun _ => hS) (fun w => rq_iaddrE hf rfl rfl rfl hx2 w) rfl fun a hf => ?_
        obtain rfl := Item_cells hr3
        refine tkP (i := 10) (bs' := [true, true, true, true, true, true, true, true, true, true, true, false, false, false, false, false, false, false]) rfl rfl rfl (by decide) hf (by kernel_rfl) (fun _ => hS) (fun w => pOp_ok (tb := tab) tabOk hf rfl) rfl fun a hf => ?_
        refine str (fun w => Mem ⟨w0, []⟩ S [] [] [] [(false, MP.cells ⟨p3, o3, none⟩ [(.int .i64 e3.Kind), (.int .i64 e3.Node), (.int .i64 e3.Count)]), (false, MP.cells ⟨p2, o2, none⟩ [(.int .i64 e2.Kind), (.int .i64 e2.Node), (.int .i64 e2.Count)]), (false, MP.val [(.slice A2 prices.length c2)] (prices : List Int)), (false, MP.val [(.slice A bill.length c)] (bill : List Item))] w) (fun w H => H.let [] [] [] [1, 2, 3]) ?_
        have hS : Mem ⟨w0, []⟩ S [] [] [] [(false, MP.cells ⟨p3, o3, none⟩ [(.int .i64 e3.Kind), (.int .i64 e3.Node), (.int .i64 e3.Count)]), (false, MP.cells ⟨p2, o2, none⟩ [(.int .i64 e2.Kind), (.int .i64 e2.Node), (.int .i64 e2.Count)]), (false, MP.val [(.slice A2 prices.length c2)] (prices : List Int)), (false, MP.val [(.slice A bill.length c)] (bill : List Item))] w := H.let [] [] [] [0, 1, 2, 3]
        refine tkS (i := 11) (bs' := [true, true, true, true, true, true, true, true, true, true, true, true, false, false, false, false, false, false]) [] rfl rfl rfl (by decide) hf (by kernel_rfl) (by kernel_rfl) hS (fun w H => rq_loadI hf H TF.ls3 0 0 rfl rfl rfl) rfl fun a hf => ?_
        refine tkP (i := 12) (bs' := [true, true, true, true, true, true, true, true, true, true, true, true, true, false, false, false, false, false]) rfl rfl rfl (by decide) hf (by kernel_rfl) (fun _ => hS) (fun w => pOp_ok (tb := tab) tabOk hf rfl) rfl fun a hf => ?_
        obtain ⟨e4, he4, hR1⟩ := bind_some hR1
        obtain ⟨p4, o4, cs4, hx3, hr4, H⟩ := pre_iaddr H Try.underlying35 TF.sz3 2 rfl he4
        refine tkP (i := 13) (bs' := [true, true, true, true, true, true, true, true, true, true, true, true, true, true, false, false, false, false]) rfl rfl rfl (by decide) hf (by kernel_rfl) (fun _ => hS) (fun w => rq_iaddrE hf rfl rfl rfl hx3 w) rfl fun a hf => ?_
        obtain rfl := hr4
        refine str (fun w => Mem ⟨w0, []⟩ S [] [] [] [(false, MP.cells ⟨p4, o4, none⟩ [(.int .i64 e4)]), (false, MP.cells ⟨p3, o3, none⟩ [(.int .i64 e3.Kind), (.int .i64 e3.Node), (.int .i64 e3.Count)]), (false, MP.cells ⟨p2, o2, none⟩ [(.int .i64 e2.Kind), (.int .i64 e2.Node), (.int .i64 e2.Count)]), (false, MP.val [(.slice A2 prices.length c2)] (prices : List Int)), (false, MP.val [(.slice A bill.length c)] (bill : List Item))] w) (fun w H => H.let [] [] [] [1, 2, 3, 4]) ?_
        have hS : Mem ⟨w0, []⟩ S [] [] [] [(false, MP.cells ⟨p4, o4, none⟩ [(.int .i64 e4)]), (false, MP.cells ⟨p3, o3, none⟩ [(.int .i64 e3.Kind), (.int .i64 e3.Node), (.int .i64 e3.Count)]), (false, MP.cells ⟨p2, o2, none⟩ [(.int .i64 e2.Kind), (.int .i64 e2.Node), (.int .i64 e2.Count)]), (false, MP.val [(.slice A2 prices.length c2)] (prices : List Int)), (false, MP.val [(.slice A bill.length c)] (bill : List Item))] w := H.let [] [] [] [0, 1, 2, 3, 4]
        refine tkS (i := 14) (bs' := [true, true, true, true, true, true, true, true, true, true, true, true, true, true, true, false, false, false]) [] rfl rfl rfl (by decide) hf (by kernel_rfl) (by kernel_rfl) hS (fun w H => rq_loadI hf H TF.ls3 0 0 rfl rfl rfl) rfl fun a hf => ?_
        refine tkP (i := 15) (bs' := [true, true, true, true, true, true, true, true, true, true, true, true, true, true, true, true, false, false]) rfl rfl rfl (by decide) hf (by kernel_rfl) (fun _ => hS) (fun w => pOp_ok (tb := tab) tabOk hf rfl) rfl fun a hf => ?_
        refine tkP (i := 16) (bs' := [true, true, true, true, true, true, true, true, true, true, true, true, true, true, true, true, true, false]) rfl rfl rfl (by decide) hf (by kernel_rfl) (fun _ => hS) (fun w => pOp_ok (tb := tab) tabOk hf rfl) rfl fun a hf => ?_
        refine tkP (i := 17) (bs' := [true, true, true, true, true, true, true, true, true, true, true, true, true, true, true, true, true, true]) rfl rfl rfl (by decide) hf (by kernel_rfl) (fun _ => hS) (fun w => pOp_ok (tb := tab) tabOk hf rfl) rfl fun a hf => ?_
        refine dn (by kernel_rfl) ?_
        have hf := hf.prune [0, 1, 7, 8] rfl
        refine blk_n ?_
        refine then_n ?_
        refine reg ?_
        refine pRun_ok (tb := tab) (n := 51) tabOk 3 _ _ hf rfl rfl fun a hf => ?_
        refine wl_end ?_
        have hf := hf.prune [0, 1, 7, 8] rfl
        have H := H.let [] [] [] [3, 4]
        exact then_n ⟨(w64 (sum + (w64 (e2.Count * e4))), w64 (i3 + 1)), hR1, hf, H⟩
      · rw [if_neg (nt hc5)] at hR1
        refine cd_f hf rfl hc5 ?_
        refine wp_exit (then_x (then_x (blk_e (?_))))
        have hf := hf.prune [0, 1, 7, 8] rfl
        have H := H.let [] [] [] [0, 1]
        exact ⟨(sum, i3), (Option.some.inj hR1).symm, hf, H⟩
    rintro a w ⟨⟨sum2, i4⟩, rfl, hf, H⟩
    dsimp only at hF
    refine then_n ?_
    refine sq ?_
    refine reg ?_
    refine pRun_ok (tb := tab) (n := 51) tabOk 3 _ _ hf rfl rfl fun a hf => ?_
    refine wl_end ?_
    refine then_n ?_
    refine wp_ret (?_)
    obtain rfl := Option.some.inj hF
    refine ret_2 (fn := Try.f47) (r := .tmp 4) (s := .tmp 5) hf rfl (rv_tmp hf rfl) (rv_tmp hf rfl) ?_
    exact ⟨_, rfl, H.bel, _, _, rfl, mk_int, mk_bool⟩

/- loop.example/g00897/impl.within -/
set_option maxHeartbeats 1000000 in
theorem impl_within_ok {fu : Nat} {w0 : World} {S : Nat → Prop} {v0_ : Value} {v1_ : Value} {v2_ : Value} {n' : Int} {low : Int} {high : Int} {r : Bool} (h0 : VR w0 S v0_ n') (h1 : VR w0 S v1_ low) (h2 : VR w0 S v2_ high) (hF : impl_within fu n' low high = some r) :
    Calls Try.prog 98 [v0_, v1_, v2_].toArray w0 fun e w' => ∃ v, e = .returned v ∧ (Below w0.heap.size w0 w' ∧ VR w' (St ⟨w0, []⟩ S [] [] [] true) v r) := by
  obtain rfl := VR_int h0
  obtain rfl := VR_int h1
  obtain rfl := VR_int h2
  have H := Mem.start ⟨w0, []⟩ S
  refine enter Try.func98 rfl rfl (nle rfl) rfl fun a hf => ?_
  rw [impl_within] at hF
  refine sq ?_
  refine reg ?_
  refine pRun_ok (tb := tab) (n := 15) tabOk 1 _ _ hf rfl rfl fun a hf => ?_
  refine wl_end ?_
  refine then_n ?_
  refine sq ?_
  obtain ⟨c, hGc, hF⟩ := bind_some hF
  refine mid (fun a w => Fr a 15 [(6, (.bool c))] ∧ Mem ⟨w0, []⟩ S [] [] [] [] w) ?_ ?_
  · refine reg ?_
    refine pRun_ok (tb := tab) (n := 15) tabOk 4 _ _ hf rfl rfl fun a hf => ?_
    refine (Bool.eq_false_or_eq_true (decide (low ≤ n'))).elim (fun hc => ?_) (fun hc => ?_)
    · rw [if_pos hc] at hGc
      have hf := hf.lit 10 rfl hc
      refine pRun_ok (tb := tab) (n := 15) tabOk 5 _ _ hf rfl rfl fun a hf => ?_
      obtain rfl := Option.some.inj hGc
      have hf := hf.prune [6] rfl
      have H := H.let [] [] [] []
      exact wl_end ⟨hf, H⟩
    · rw [if_neg (nt hc)] at hGc
      have hf := hf.lit 10 rfl hc
      refine pRun_ok (tb := tab) (n := 15) tabOk 5 _ _ hf rfl rfl fun a hf => ?_
      obtain rfl := Option.some.inj hGc
      have hf := hf.prune [6] rfl
      have H := H.let [] [] [] []
      exact wl_end ⟨hf, H⟩
  rintro a w ⟨hf, H⟩
  refine then_n ?_
  refine wp_ret (?_)
  obtain rfl := Option.some.inj hF
  refine ret_1 (fn := Try.f98) (r := .tmp 6) hf rfl (rv_tmp hf rfl) ?_
  exact ⟨_, rfl, H.bel, mk_bool⟩

/- loop.example/g00897/impl.isBill -/
set_option maxHeartbeats 1000000 in
theorem impl_isBill_ok {fu : Nat} {w0 : World} {S : Nat → Prop} {v0_ : Value} {bill : List Item} {r : Bool} (h0 : VR w0 S v0_ bill) (hF : impl_isBill fu bill = some r) :
    Calls Try.prog 114 [v0_].toArray w0 fun e w' => ∃ v, e = .returned v ∧ (Below w0.heap.size w0 w' ∧ VR w' (St ⟨w0, []⟩ S [] [] [] true) v r) := by
  obtain ⟨A, c, rfl, hl⟩ := VR_list h0
  have H := Mem.start ⟨w0, []⟩ S
  have H := H.pushArg (MP.val [(.slice A bill.length c)] bill) hl
  refine enter Try.func114 rfl rfl (nle rfl) rfl fun a hf => ?_
  rw [impl_isBill] at hF
  refine sq ?_
  refine reg ?_
  refine pRun_ok (tb := tab) (n := 57) tabOk 1 _ _ hf rfl rfl fun a hf => ?_
  refine wl_end ?_
  refine then_n ?_
  refine sq ?_
  refine sq ?_
  refine reg ?_
  refine pRun_ok (tb := tab) (n := 57) tabOk 3 _ _ hf rfl rfl fun a hf => ?_
  refine wl_end ?_
  refine then_n ?_
  obtain ⟨out', hB1, hF⟩ := bind_some hF
  have hf := hf.prune [0, 5, 6, 7] rfl
  have H := H.let [] [] [] [0]
  have hI : (fun (s : Int) (a : Act) (w : World) => match s with | i => Fr a 57 [(0, (.slice A bill.length c)), (5, (.slice A bill.length c)), (6, (.int .i64 (bill.length : Int))), (7, (.int .i64 i))] ∧ Mem ⟨w0, []⟩ S [] [] [] [(false, MP.val [(.slice A bill.length c)] (bill : List Item))] w) 0 a w0 := ⟨hf, H⟩
  refine mid (fun a w => ∃ s : Int, out' = Out.next s ∧ (fun (s : Int) (a : Act) (w : World) => match s with | i => Fr a 57 [(0, (.slice A bill.length c)), (5, (.slice A bill.length c)), (6, (.int .i64 (bill.length : Int))), (7, (.int .i64 i))] ∧ Mem ⟨w0, []⟩ S [] [] [] [(false, MP.val [(.slice A bill.length c)] (bill : List Item))] w) s a w) ?_ ?_
  · refine wp_block ?_
    refine loop_rule (fun k (s : Int) => impl_isBill_L1 fu bill k s = some out') (fun (s : Int) (a : Act) (w : World) => match s with | i => Fr a 57 [(0, (.slice A bill.length c)), (5, (.slice A bill.length c)), (6, (.int .i64 (bill.length : Int))), (7, (.int .i64 i))] ∧ Mem ⟨w0, []⟩ S [] [] [] [(false, MP.val [(.slice A bill.length c)] (bill : List Item))] w) (fun s h => by cases h) ?_ fu 0 a w0 hB1 hI
    rintro fk i a w hR1 hI
    replace hR1 : impl_isBill_L1 fu bill (fk + 1) i = some out' := hR1
    rw [impl_isBill_L1] at hR1
    obtain ⟨hf, H⟩ := hI
    refine sq ?_
    refine reg ?_
    refine pRun_ok (tb := tab) (n := 57) tabOk 1 _ _ hf rfl rfl fun a hf => ?_
    refine wl_end ?_
    refine then_n ?_
    refine sq ?_
    refine (Bool.eq_false_or_eq_true (decide (i < (bill.length : Int)))).elim (fun hc => ?_) (fun hc => ?_)
    · rw [if_pos hc] at hR1
      refine cd_t hf rfl hc ?_
      refine wp_skip ?_
      refine then_n ?_
      refine sq ?_
      refine wp_block ?_
      refine sq ?_
      refine reg ?_
      refine pRun_ok (tb := tab) (n := 57) tabOk 1 _ _ hf rfl rfl fun a hf => ?_
      obtain ⟨e, he, hR1⟩ := bind_some hR1
      refine wl0 rfl (op_iaddr hf H Try.underlying53 TF.sz119 0 rfl rfl rfl he (by decide) fun p o cs a hf hr H => ?_)
      obtain rfl := Item_cells hr
      refine wl0 rfl (op_q hf (rq_loadIN hf H TF.la119 0 0 rfl rfl rfl rfl) rfl (by decide) fun a hf => ?_)
      refine wl0 rfl (op_alloc hf H TF.zv119 rfl (by decide) fun b' a w hf H => ?_)
      refine pRun_ok (tb := tab) (n := 57) tabOk 1 _ _ hf rfl rfl fun a hf => ?_
      refine wl0 rfl (op_storeB hf H 0 TF.sz119 rfl rfl rfl rfl rfl rfl (nle rfl) fun w H => ?_)
      refine wl_end ?_
      refine then_n ?_
      refine sq ?_
      refine sq ?_
      obtain ⟨c2, hGc2, hR1⟩ := bind_some hR1
      refine mid (fun a w => Fr a 57 [(0, (.slice A bill.length c)), (3, (.int .i64 i)), (4, (.pointer (some ⟨b', 0, none⟩))), (5, (.slice A bill.length c)), (6, (.int .i64 (bill.length : Int))), (7, (.int .i64 i)), (27, (.bool c2))] ∧ Mem ⟨w0, []⟩ S [⟨b', 119, [(.int .i64 e.Kind), (.int .i64 e.Node), (.int .i64 e.Count)]⟩] [] [] [(false, MP.val [(.slice A bill.length c)] (bill : List Item))] w) ?_ ?_
      · refine reg ?_
        refine pRun_ok (tb := tab) (n := 57) tabOk 1 _ _ hf rfl rfl fun a hf => ?_
        refine wl0 rfl (op_q hf (rq_loadB hf H TF.ls3 0 rfl rfl rfl) rfl (by decide) fun a hf => ?_)
        obtain ⟨y, hy, hGc2⟩ := bind_some hGc2
        refine wl0 rfl (op_call hf TF.cl98 rfl (by decide) (impl_within_ok (S := fun _ => True) mk_int mk_int mk_int hy) fun v w a hp hf => ?_)
        obtain ⟨hb, hp⟩ := hp
        obtain rfl := VR_bool hp
        have H := H.keep hb
        refine pRun_ok (tb := tab) (n := 57) tabOk 2 _ _ hf rfl rfl fun a hf => ?_
        refine (Bool.eq_false_or_eq_true (!y)).elim (fun hc2 => ?_) (fun hc2 => ?_)
        · rw [if_pos hc2] at hGc2
          have hf := hf.lit 16 rfl hc2
          refine pRun_ok (tb := tab) (n := 57) tabOk 11 _ _ hf rfl rfl fun a hf => ?_
          obtain rfl := Option.some.inj hGc2
          have hf := hf.prune [0, 3, 4, 5, 6, 7, 27] rfl
          have H := H.let [true] [] [] [1]
          exact wl_end ⟨hf, H⟩
        · rw [if_neg (nt hc2)] at hGc2
          have hf := hf.lit 16 rfl hc2
          refine pRun_ok (tb := tab) (n := 57) tabOk 1 _ _ hf rfl rfl fun a hf => ?_
          refine wlg hf rfl rfl rfl (op_q hf (rq_loadB hf H TF.ls3 0 rfl rfl rfl) rfl (by decide) fun a hf => ?_)
          obtain ⟨y2, hy2, hGc2⟩ := bind_some hGc2
          refine wlg hf rfl rfl rfl (op_call hf TF.cl98 rfl (by decide) (impl_within_ok (S := fun _ => True) mk_int mk_int mk_int hy2) fun v2 w a hp2 hf => ?_)
          obtain ⟨hb2, hp2⟩ := hp2
          obtain rfl := VR_bool hp2
          have H := H.keep hb2
          refine pRun_ok (tb := tab) (n := 57) tabOk 3 _ _ hf rfl rfl fun a hf => ?_
          refine (Bool.eq_false_or_eq_true (!y2)).elim (fun hc3 => ?_) (fun hc3 => ?_)
          · rw [if_pos hc3] at hGc2
            have hf := hf.lit 22 rfl hc3
            refine pRun_ok (tb := tab) (n := 57) tabOk 5 _ _ hf rfl rfl fun a hf => ?_
            obtain rfl := Option.some.inj hGc2
            have hf := hf.prune [0, 3, 4, 5, 6, 7, 27] rfl
            have H := H.let [true] [] [] [1]
            exact wl_end ⟨hf, H⟩
          · rw [if_neg (nt hc3)] at hGc2
            have hf := hf.lit 22 rfl hc3
            refine pRun_ok (tb := tab) (n := 57) tabOk 1 _ _ hf rfl rfl fun a hf => ?_
            refine wlg hf rfl rfl rfl (op_q hf (rq_loadB hf H TF.ls3 0 rfl rfl rfl) rfl (by decide) fun a hf => ?_)
            obtain ⟨y3, hy3, hGc2⟩ := bind_some hGc2
            refine wlg hf rfl rfl rfl (op_call hf TF.cl98 rfl (by decide) (impl_within_ok (S := fun _ => True) mk_int mk_int mk_int hy3) fun v3 w a hp3 hf => ?_)
            obtain ⟨hb3, hp3⟩ := hp3
            obtain rfl := VR_bool hp3
            have H := H.keep hb3
            refine pRun_ok (tb := tab) (n := 57) tabOk 2 _ _ hf rfl rfl fun a hf => ?_
            obtain rfl := Option.some.inj hGc2
            have hf := hf.prune [0, 3, 4, 5, 6, 7, 27] rfl
            have H := H.let [true] [] [] [1]
            exact wl_end ⟨hf, H⟩
      rintro a w ⟨hf, H⟩
      refine then_n ?_
      refine (Bool.eq_false_or_eq_true (c2)).elim (fun hc4 => ?_) (fun hc4 => ?_)
      · rw [if_pos hc4] at hR1
        refine cd_t hf rfl hc4 ?_
        refine sq ?_
        refine reg ?_
        refine pRun_ok (tb := tab) (n := 57) tabOk 1 _ _ hf rfl rfl fun a hf => ?_
        refine wl_end ?_
        refine then_n ?_
        refine wp_ret (then_r (blk_r (then_r (then_r (blk_r (then_r (then_r (?_))))))))
        obtain rfl := Option.some.inj hR1
        replace hF := on_ret hF
        obtain rfl := Option.some.inj hF
        refine ret_1 (fn := Try.f114) (r := .tmp 2) hf rfl (rv_tmp hf rfl) ?_
        exact ⟨_, rfl, H.bel, mk_bool⟩
      · rw [if_neg (nt hc4)] at hR1
        refine cd_f hf rfl hc4 ?_
        refine wp_skip ?_
        refine then_n ?_
        refine sq ?_
        refine drawn [] (bs := [false, false, false, false, false, false, false, false, false, false, false, false, false, false, false, false, false, false, false, false, false, false, false, false, false]) (fuel := 25) (Checked.mixed Try.checked) rfl rfl fun w hb => ?_
        have H := H.keep hb
        refine tkP (i := 0) (bs' := [true, false, false, false, false, false, false, false, false, false, false, false, false, false, false, false, false, false, false, false, false, false, false, false, false]) rfl rfl rfl (by decide) hf (by kernel_rfl) (fun _ => trivial) (fun w => pOp_ok (tb := tab) tabOk hf rfl) rfl fun a hf => ?_
        refine tkP (i := 1) (bs' := [true, true, false, false, false, false, false, false, false, false, false, false, false, false, false, false, false, false, false, false, false, false, false, false, false]) rfl rfl rfl (by decide) hf (by kernel_rfl) (fun _ => trivial) (fun w => pOp_ok (tb := tab) tabOk hf rfl) rfl fun a hf => ?_
        refine tkP (i := 2) (bs' := [true, true, true, false, false, false, false, false, false, false, false, false, false, false, false, false, false, false, false, false, false, false, false, false, false]) rfl rfl rfl (by decide) hf (by kernel_rfl) (fun _ => trivial) (fun w => pOp_ok (tb := tab) tabOk hf rfl) rfl fun a hf => ?_
        refine (Bool.eq_false_or_eq_true (decide (i > 0))).elim (fun hc5 => ?_) (fun hc5 => ?_)
        · rw [if_pos hc5] at hR1
          have hf := hf.lit 30 rfl hc5
          refine tkPg (i := 3) (bs' := [true, true, true, true, false, false, false, false, false, false, false, false, false, false, false, false, false, false, false, false, false, false, false, false, false]) rfl rfl rfl rfl rfl (by decide) hf (by kernel_rfl) (fun _ => trivial) (fun w => pOp_ok (tb := tab) tabOk hf rfl) rfl fun a hf => ?_
          refine tkPg (i := 4) (bs' := [true, true, true, true, true, false, false, false, false, false, false, false, false, false, false, false, false, false, false, false, false, false, false, false, false]) rfl rfl rfl rfl rfl (by decide) hf (by kernel_rfl) (fun _ => trivial) (fun w => pOp_ok (tb := tab) tabOk hf rfl) rfl fun a hf => ?_
          refine tkPg (i := 5) (bs' := [true, true, true, true, true, true, false, false, false, false, false, false, false, false, false, false, false, false, false, false, false, false, false, false, false]) rfl rfl rfl rfl rfl (by decide) hf (by kernel_rfl) (fun _ => trivial) (fun w => pOp_ok (tb := tab) tabOk hf rfl) rfl fun a hf => ?_
          obtain ⟨e2, he2, hR1⟩ := bind_some hR1
          obtain ⟨p2, o2, cs2, hx, hr2, H⟩ := pre_iaddr H Try.underlying53 TF.sz119 0 rfl he2
          refine tkPg (i := 6) (bs' := [true, true, true, true, true, true, true, false, false, false, false, false, false, false, false, false, false, false, false, false, false, false, false, false, false]) rfl rfl rfl rfl rfl (by decide) hf (by kernel_rfl) (fun _ => trivial) (fun w => rq_iaddrE hf rfl rfl rfl hx w) rfl fun a hf => ?_
          obtain rfl := Item_cells hr2
          refine tkPg (i := 7) (bs' := [true, true, true, true, true, true, true, true, false, false, false, false, false, false, false, false, false, false, false, false, false, false, false, false, false]) rfl rfl rfl rfl rfl (by decide) hf (by kernel_rfl) (fun _ => trivial) (fun w => pOp_ok (tb := tab) tabOk hf rfl) rfl fun a hf => ?_
          refine str (fun w => Mem ⟨w0, []⟩ S [⟨b', 119, [(.int .i64 e.Kind), (.int .i64 e.Node), (.int .i64 e.Count)]⟩] [] [] [(false, MP.cells ⟨p2, o2, none⟩ [(.int .i64 e2.Kind), (.int .i64 e2.Node), (.int .i64 e2.Count)]), (false, MP.val [(.slice A bill.length c)] (bill : List Item))] w) (fun w H => trivial) ?_
          have hS : Mem ⟨w0, []⟩ S [⟨b', 119, [(.int .i64 e.Kind), (.int .i64 e.Node), (.int .i64 e.Count)]⟩] [] [] [(false, MP.cells ⟨p2, o2, none⟩ [(.int .i64 e2.Kind), (.int .i64 e2.Node), (.int .i64 e2.Count)]), (false, MP.val [(.slice A bill.length c)] (bill : List Item))] w := H.let [true] [] [] [0, 1]
          refine tkSg (i := 8) (bs' := [true, true, true, true, true, true, true, true, true, false, false, false, false, false, false, false, false, false, false, false, false, false, false, false, false]) [] rfl rfl rfl rfl rfl (by decide) hf (by kernel_rfl) (by kernel_rfl) hS (fun w H => rq_loadI hf H TF.ls3 0 0 rfl rfl rfl) rfl fun a hf => ?_
          refine tkPg (i := 9) (bs' := [true, true, true, true, true, true, true, true, true, true, false, false, false, false, false, false, false, false, false, false, false, false, false, false, false]) rfl rfl rfl rfl rfl (by decide) hf (by kernel_rfl) (fun _ => hS) (fun w => pOp_ok (tb := tab) tabOk hf rfl) rfl fun a hf => ?_
          refine tkPg (i := 10) (bs' := [true, true, true, true, true, true, true, true, true, true, true, false, false, false, false, false, false, false, false, false, false, false, false, false, false]) rfl rfl rfl rfl rfl (by decide) hf (by kernel_rfl) (fun _ => hS) (fun w => pOp_ok (tb := tab) tabOk hf rfl) rfl fun a hf => ?_
          refine tkPg (i := 11) (bs' := [true, true, true, true, true, true, true, true, true, true, true, true, false, false, false, false, false, false, false, false, false, false, false, false, false]) rfl rfl rfl rfl rfl (by decide) hf (by kernel_rfl) (fun _ => hS) (fun w => pOp_ok (tb := tab) tabOk hf rfl) rfl fun a hf => ?_
          refine tkPg (i := 12) (bs' := [true, true, true, true, true, true, true, true, true, true, true, true, true, false, false, false, false, false, false, false, false, false, false, false, false]) rfl rfl rfl rfl rfl (by decide) hf (by kernel_rfl) (fun _ => hS) (fun w => pOp_ok (tb := tab) tabOk hf rfl) rfl fun a hf => ?_
          obtain ⟨e3, he3, hR1⟩ := bind_some hR1
          obtain ⟨p3, o3, cs3, hx2, hr3, H⟩ := pre_iaddr H Try.underlying53 TF.sz119 1 rfl he3
          refine tkPg (i := 13) (bs' := [true, true, true, true, true, true, true, true, true, true, true, true, true, true, false, false, false, false, false, false, false, false, false, false, false]) rfl rfl rfl rfl rfl (by decide) hf (by kernel_rfl) (fun _ => hS) (fun w => rq_iaddrE hf rfl rfl rfl hx2 w) rfl fun a hf => ?_
          obtain rfl := Item_cells hr3
          refine tkPg (i := 14) (bs' := [true, true, true, true, true, true, true, true, true, true, true, true, true, true, true, false, false, false, false, false, false, false, false, false, false]) rfl rfl rfl rfl rfl (by decide) hf (by kernel_rfl) (fun _ => hS) (fun w => pOp_ok (tb := tab) tabOk hf rfl) rfl fun a hf => ?_
          refine str (fun w => Mem ⟨w0, []⟩ S [⟨b', 119, [(.int .i64 e.Kind), (.int .i64 e.Node), (.int .i64 e.Count)]⟩] [] [] [(false, MP.cells ⟨p3, o3, none⟩ [(.int .i64 e3.Kind), (.int .i64 e3.Node), (.int .i64 e3.Count)]), (false, MP.cells ⟨p2, o2, none⟩ [(.int .i64 e2.Kind), (.int .i64 e2.Node), (.int .i64 e2.Count)]), (false, MP.val [(.slice A bill.length c)] (bill : List Item))] w) (fun w H => H.let [true] [] [] [1, 2]) ?_
          have hS : Mem ⟨w0, []⟩ S [⟨b', 119, [(.int .i64 e.Kind), (.int .i64 e.Node), (.int .i64 e.Count)]⟩] [] [] [(false, MP.cells ⟨p3, o3, none⟩ [(.int .i64 e3.Kind), (.int .i64 e3.Node), (.int .i64 e3.Count)]), (false, MP.cells ⟨p2, o2, none⟩ [(.int .i64 e2.Kind), (.int .i64 e2.Node), (.int .i64 e2.Count)]), (false, MP.val [(.slice A bill.length c)] (bill : List Item))] w := H.let [true] [] [] [0, 1, 2]
          refine tkSg (i := 15) (bs' := [true, true, true, true, true, true, true, true, true, true, true, true, true, true, true, true, false, false, false, false, false, false, false, false, false]) [] rfl rfl rfl rfl rfl (by decide) hf (by kernel_rfl) (by kernel_rfl) hS (fun w H => rq_loadI hf H TF.ls3 0 1 rfl rfl rfl) rfl fun a hf => ?_
          refine tkPg (i := 16) (bs' := [true, true, true, true, true, true, true, true, true, true, true, true, true, true, true, true, true, false, false, false, false, false, false, false, false]) rfl rfl rfl rfl rfl (by decide) hf (by kernel_rfl) (fun _ => hS) (fun w => pOp_ok (tb := tab) tabOk hf rfl) rfl fun a hf => ?_
          refine tkPg (i := 17) (bs' := [true, true, true, true, true, true, true, true, true, true, true, true, true, true, true, true, true, true, false, false, false, false, false, false, false]) rfl rfl rfl rfl rfl (by decide) hf (by kernel_rfl) (fun _ => hS) (fun w => pOp_ok (tb := tab) tabOk hf rfl) rfl fun a hf => ?_
          refine tkSg (i := 18) (bs' := [true, true, true, true, true, true, true, true, true, true, true, true, true, true, true, true, true, true, true, false, false, false, false, false, false]) [] rfl rfl rfl rfl rfl (by decide) hf (by kernel_rfl) (by kernel_rfl) hS (fun w H => rq_loadB hf H TF.ls3 0 rfl rfl rfl) rfl fun a hf => ?_
          refine tkPg (i := 19) (bs' := [true, true, true, true, true, true, true, true, true, true, true, true, true, true, true, true, true, true, true, true, false, false, false, false, false]) rfl rfl rfl rfl rfl (by decide) hf (by kernel_rfl) (fun _ => hS) (fun w => pOp_ok (tb := tab) tabOk hf rfl) rfl fun a hf => ?_
          refine tkPg (i := 20) (bs' := [true, true, true, true, true, true, true, true, true, true, true, true, true, true, true, true, true, true, true, true, true, false, false, false, false]) rfl rfl rfl rfl rfl (by decide) hf (by kernel_rfl) (fun _ => hS) (fun w => pOp_ok (tb := tab) tabOk hf rfl) rfl fun a hf => ?_
          refine tkSg (i := 21) (bs' := [true, true, true, true, true, true, true, true, true, true, true, true, true, true, true, true, true, true, true, true, true, true, false, false, false]) [] rfl rfl rfl rfl rfl (by decide) hf (by kernel_rfl) (by kernel_rfl) hS (fun w H => rq_loadB hf H TF.ls3 0 rfl rfl rfl) rfl fun a hf => ?_
          refine tkPg (i := 22) (bs' := [true, true, true, true, true, true, true, true, true, true, true, true, true, true, true, true, true, true, true, true, true, true, true, false, false]) rfl rfl rfl rfl rfl (by decide) hf (by kernel_rfl) (fun _ => hS) (fun w => pOp_ok (tb := tab) tabOk hf rfl) rfl fun a hf => ?_
          refine tkPg (i := 23) (bs' := [true, true, true, true, true, true, true, true, true, true, true, true, true, true, true, true, true, true, true, true, true, true, true, true, false]) rfl rfl rfl rfl rfl (by decide) hf (by kernel_rfl) (fun _ => hS) (fun w => pOp_ok (tb := tab) tabOk hf rfl) rfl fun a hf => ?_
          refine tkP (i := 24) (bs' := [true, true, true, true, true, true, true, true, true, true, true, true, true, true, true, true, true, true, true, true, true, true, true, true, true]) rfl rfl rfl (by decide) hf (by kernel_rfl) (fun _ => hS) (fun w => pOp_ok (tb := tab) tabOk hf rfl) rfl fun a hf => ?_
          refine dn (by kernel_rfl) ?_
          refine then_n ?_
          refine (Bool.eq_false_or_eq_true (decide ((w64 ((w64 (e2.Kind * 8)) + e3.Node)) ≥ (w64 ((w64 (e.Kind * 8)) + e.Node))))).elim (fun hc6 => ?_) (fun hc6 => ?_)
          · rw [if_pos hc6] at hR1
            refine cd_t hf rfl hc6 ?_
            refine sq ?_
            refine reg ?_
            refine pRun_ok (tb := tab) (n := 57) tabOk 1 _ _ hf rfl rfl fun a hf => ?_
            have hf := hf.prune [2] rfl
            refine wl_end ?_
            refine then_n ?_
            refine wp_ret (blk_r (then_r (then_r (blk_r (then_r (then_r (?_)))))))
            obtain rfl := Option.some.inj hR1
            replace hF := on_ret hF
            obtain rfl := Option.some.inj hF
            refine ret_1 (fn := Try.f114) (r := .tmp 2) hf rfl (rv_tmp hf rfl) ?_
            exact ⟨_, rfl, H.bel, mk_bool⟩
          · rw [if_neg (nt hc6)] at hR1
            refine cd_f hf rfl hc6 ?_
            refine wp_skip ?_
            refine blk_n ?_
            refine then_n ?_
            refine reg ?_
            refine pRun_ok (tb := tab) (n := 57) tabOk 2 _ _ hf rfl rfl fun a hf => ?_
            refine wl_end ?_
            have hf := hf.prune [0, 5, 6, 7] rfl
            have H := H.let [false] [] [] [2]
            exact then_n ⟨w64 (i + 1), hR1, hf, H⟩
        · rw [if_neg (nt hc5)] at hR1
          have hf := hf.lit 30 rfl hc5
          refine tkU (i := 3) (bs' := [true, true, true, true, false, false, false, false, false, false, false, false, false, false, false, false, false, false, false, false, false, false, false, false, false]) rfl rfl rfl rfl rfl rfl (by decide) hf (by kernel_rfl) (fun _ => trivial) rfl fun a hf => ?_
          refine tkU (i := 4) (bs' := [true, true, true, true, true, false, false, false, false, false, false, false, false, false, false, false, false, false, false, false, false, false, false, false, false]) rfl rfl rfl rfl rfl rfl (by decide) hf (by kernel_rfl) (fun _ => trivial) rfl fun a hf => ?_
          refine tkU (i := 5) (bs' := [true, true, true, true, true, true, false, false, false, false, false, false, false, false, false, false, false, false, false, false, false, false, false, false, false]) rfl rfl rfl rfl rfl rfl (by decide) hf (by kernel_rfl) (fun _ => trivial) rfl fun a hf => ?_
          refine tkU (i := 6) (bs' := [true, true, true, true, true, true, true, false, false, false, false, false, false, false, false, false, false, false, false, false, false, false, false, false, false]) rfl rfl rfl rfl rfl rfl (by decide) hf (by kernel_rfl) (fun _ => trivial) rfl fun a hf => ?_
          refine tkU (i := 7) (bs' := [true, true, true, true, true, true, true, true, false, false, false, false, false, false, false, false, false, false, false, false, false, false, false, false, false]) rfl rfl rfl rfl rfl rfl (by decide) hf (by kernel_rfl) (fun _ => trivial) rfl fun a hf => ?_
          refine tkU (i := 8) (bs' := [true, true, true, true, true, true, true, true, true, false, false, false, false, false, false, false, false, false, false, false, false, false, false, false, false]) rfl rfl rfl rfl rfl rfl (by decide) hf (by kernel_rfl) (fun _ => trivial) rfl fun a hf => ?_
          refine tkU (i := 9) (bs' := [true, true, true, true, true, true, true, true, true, true, false, false, false, false, false, false, false, false, false, false, false, false, false, false, false]) rfl rfl rfl rfl rfl rfl (by decide) hf (by kernel_rfl) (fun _ => trivial) rfl fun a hf => ?_
          refine tkU (i := 10) (bs' := [true, true, true, true, true, true, true, true, true, true, true, false, false, false, false, false, false, false, false, false, false, false, false, false, false]) rfl rfl rfl rfl rfl rfl (by decide) hf (by kernel_rfl) (fun _ => trivial) rfl fun a hf => ?_
          refine tkU (i := 11) (bs' := [true, true, true, true, true, true, true, true, true, true, true, true, false, false, false, false, false, false, false, false, false, false, false, false, false]) rfl rfl rfl rfl rfl rfl (by decide) hf (by kernel_rfl) (fun _ => trivial) rfl fun a hf => ?_
          refine tkU (i := 12) (bs' := [true, true, true, true, true, true, true, true, true, true, true, true, true, false, false, false, false, false, false, false, false, false, false, false, false]) rfl rfl rfl rfl rfl rfl (by decide) hf (by kernel_rfl) (fun _ => trivial) rfl fun a hf => ?_
          refine tkU (i := 13) (bs' := [true, true, true, true, true, true, true, true, true, true, true, true, true, true, false, false, false, false, false, false, false, false, false, false, false]) rfl rfl rfl rfl rfl rfl (by decide) hf (by kernel_rfl) (fun _ => trivial) rfl fun a hf => ?_
          refine tkU (i := 14) (bs' := [true, true, true, true, true, true, true, true, true, true, true, true, true, true, true, false, false, false, false, false, false, false, false, false, false]) rfl rfl rfl rfl rfl rfl (by decide) hf (by kernel_rfl) (fun _ => trivial) rfl fun a hf => ?_
          refine tkU (i := 15) (bs' := [true, true, true, true, true, true, true, true, true, true, true, true, true, true, true, true, false, false, false, false, false, false, false, false, false]) rfl rfl rfl rfl rfl rfl (by decide) hf (by kernel_rfl) (fun _ => trivial) rfl fun a hf => ?_
          refine tkU (i := 16) (bs' := [true, true, true, true, true, true, true, true, true, true, true, true, true, true, true, true, true, false, false, false, false, false, false, false, false]) rfl rfl rfl rfl rfl rfl (by decide) hf (by kernel_rfl) (fun _ => trivial) rfl fun a hf => ?_
          refine tkU (i := 17) (bs' := [true, true, true, true, true, true, true, true, true, true, true, true, true, true, true, true, true, true, false, false, false, false, false, false, false]) rfl rfl rfl rfl rfl rfl (by decide) hf (by kernel_rfl) (fun _ => trivial) rfl fun a hf => ?_
          refine tkU (i := 18) (bs' := [true, true, true, true, true, true, true, true, true, true, true, true, true, true, true, true, true, true, true, false, false, false, false, false, false]) rfl rfl rfl rfl rfl rfl (by decide) hf (by kernel_rfl) (fun _ => trivial) rfl fun a hf => ?_
          refine tkU (i := 19) (bs' := [true, true, true, true, true, true, true, true, true, true, true, true, true, true, true, true, true, true, true, true, false, false, false, false, false]) rfl rfl rfl rfl rfl rfl (by decide) hf (by kernel_rfl) (fun _ => trivial) rfl fun a hf => ?_
          refine tkU (i := 20) (bs' := [true, true, true, true, true, true, true, true, true, true, true, true, true, true, true, true, true, true, true, true, true, false, false, false, false]) rfl rfl rfl rfl rfl rfl (by decide) hf (by kernel_rfl) (fun _ => trivial) rfl fun a hf => ?_
          refine tkU (i := 21) (bs' := [true, true, true, true, true, true, true, true, true, true, true, true, true, true, true, true, true, true, true, true, true, true, false, false, false]) rfl rfl rfl rfl rfl rfl (by decide) hf (by kernel_rfl) (fun _ => trivial) rfl fun a hf => ?_
          refine tkU (i := 22) (bs' := [true, true, true, true, true, true, true, true, true, true, true, true, true, true, true, true, true, true, true, true, true, true, true, false, false]) rfl rfl rfl rfl rfl rfl (by decide) hf (by kernel_rfl) (fun _ => trivial) rfl fun a hf => ?_
          refine tkU (i := 23) (bs' := [true, true, true, true, true, true, true, true, true, true, true, true, true, true, true, true, true, true, true, true, true, true, true, true, false]) rfl rfl rfl rfl rfl rfl (by decide) hf (by kernel_rfl) (fun _ => trivial) rfl fun a hf => ?_
          refine tkP (i := 24) (bs' := [true, true, true, true, true, true, true, true, true, true, true, true, true, true, true, true, true, true, true, true, true, true, true, true, true]) rfl rfl rfl (by decide) hf (by kernel_rfl) (fun _ => trivial) (fun w => pOp_ok (tb := tab) tabOk hf rfl) rfl fun a hf => ?_
          refine dn (by kernel_rfl) ?_
          have hf := hf.prune [0, 5, 6, 7, 52] rfl
          refine then_n ?_
          refine cd_f hf rfl rfl ?_
          refine wp_skip ?_
          refine blk_n ?_
          refine then_n ?_
          refine reg ?_
          refine pRun_ok (tb := tab) (n := 57) tabOk 2 _ _ hf rfl rfl fun a hf => ?_
          refine wl_end ?_
          have hf := hf.prune [0, 5, 6, 7] rfl
          have H := H.let [false] [] [] [0]
          exact then_n ⟨w64 (i + 1), hR1, hf, H⟩
    · rw [if_neg (nt hc)] at hR1
      refine cd_f hf rfl hc ?_
      refine wp_exit (then_x (then_x (blk_e (?_))))
      have hf := hf.prune [0, 5, 6, 7] rfl
      have H := H.let [] [] [] [0]
      exact ⟨i, (Option.some.inj hR1).symm, hf, H⟩
  rintro a w ⟨i2, rfl, hf, H⟩
  replace hF := on_next hF
  refine then_n ?_
  refine sq ?_
  refine reg ?_
  refine pRun_ok (tb := tab) (n := 57) tabOk 4 _ _ hf rfl rfl fun a hf => ?_
  refine wl_end ?_
  refine then_n ?_
  refine wp_ret (?_)
  obtain rfl := Option.some.inj hF
  refine ret_1 (fn := Try.f114) (r := .tmp 2) hf rfl (rv_tmp hf rfl) ?_
  exact ⟨_, rfl, H.bel, mk_bool⟩

/- loop.example/g00897/impl.CostOf$1 -/
set_option maxHeartbeats 1000000 in
theorem impl_CostOf_c1_ok {fu : Nat} {w0 : World} {S : Nat → Prop} {v0_ : Value} {price : Int} {r : Bool} (h0 : VR w0 S v0_ price) (hF : impl_CostOf_c1 fu price = some r) :
    Calls Try.prog 116 [v0_].toArray w0 fun e w' => ∃ v, e = .returned v ∧ (Below w0.heap.size w0 w' ∧ VR w' (St ⟨w0, []⟩ S [] [] [] true) v r) := by
  obtain rfl := VR_int h0
  have H := Mem.start ⟨w0, []⟩ S
  refine enter Try.func116 rfl rfl (nle rfl) rfl fun a hf => ?_
  rw [impl_CostOf_c1] at hF
  refine sq ?_
  refine reg ?_
  refine pRun_ok (tb := tab) (n := 6) tabOk 1 _ _ hf rfl rfl fun a hf => ?_
  refine wl_end ?_
  refine then_n ?_
  refine sq ?_
  refine reg ?_
  refine pRun_ok (tb := tab) (n := 6) tabOk 1 _ _ hf rfl rfl fun a hf => ?_
  obtain ⟨y, hy, hF⟩ := bind_some hF
  refine wl0 rfl (op_call hf TF.cl98 rfl (by decide) (impl_within_ok (S := fun _ => True) mk_int mk_int mk_int hy) fun v w a hp hf => ?_)
  obtain ⟨hb, hp⟩ := hp
  obtain rfl := VR_bool hp
  have H := H.keep hb
  refine pRun_ok (tb := tab) (n := 6) tabOk 2 _ _ hf rfl rfl fun a hf => ?_
  refine wl_end ?_
  refine then_n ?_
  refine wp_ret (?_)
  obtain rfl := Option.some.inj hF
  refine ret_1 (fn := Try.f116) (r := .tmp 2) hf rfl (rv_tmp hf rfl) ?_
  exact ⟨_, rfl, H.bel, mk_bool⟩

/- slices.IndexFunc[[]int,int] -/
set_option maxHeartbeats 1000000 in
theorem slices_IndexFunc_int_int_of_CostOf_c1_ok {fu : Nat} {w0 : World} {S : Nat → Prop} {v0_ : Value} {s' : List Int} {r : Int} (h0 : VR w0 S v0_ s') (hF : slices_IndexFunc_int_int_of_CostOf_c1 fu s' = some r) :
    Calls Try.prog 155 [v0_, (.func (.func 116) #[] #[])].toArray w0 fun e w' => ∃ v, e = .returned v ∧ (Below w0.heap.size w0 w' ∧ VR w' (St ⟨w0, []⟩ S [] [] [] true) v r) := by
  obtain ⟨A, c, rfl, hl⟩ := VR_list h0
  have H := Mem.start ⟨w0, []⟩ S
  have H := H.pushArg (MP.val [(.slice A s'.length c)] s') hl
  refine enter Try.func155 rfl rfl (nle rfl) rfl fun a hf => ?_
  rw [slices_IndexFunc_int_int_of_CostOf_c1] at hF
  refine sq ?_
  refine reg ?_
  refine pRun_ok (tb := tab) (n := 19) tabOk 1 _ _ hf rfl rfl fun a hf => ?_
  refine wl_end ?_
  refine then_n ?_
  refine sq ?_
  refine sq ?_
  refine reg ?_
  refine pRun_ok (tb := tab) (n := 19) tabOk 3 _ _ hf rfl rfl fun a hf => ?_
  refine wl_end ?_
  refine then_n ?_
  obtain ⟨out', hB1, hF⟩ := bind_some hF
  have hf := hf.prune [0, 1, 7, 8] rfl
  have H := H.let [] [] [] [0]
  have hI : (fun (s : Int) (a : Act) (w : World) => match s with | i => Fr a 19 [(0, (.slice A s'.length c)), (1, (.func (.func 116) #[] #[])), (7, (.int .i64 (s'.length : Int))), (8, (.int .i64 i))] ∧ Mem ⟨w0, []⟩ S [] [] [] [(false, MP.val [(.slice A s'.length c)] (s' : List Int))] w) 0 a w0 := ⟨hf, H⟩
  refine mid (fun a w => ∃ s : Int, out' = Out.next s ∧ (fun (s : Int) (a : Act) (w : World) => match s with | i => Fr a 19 [(0, (.slice A s'.length c)), (1, (.func (.func 116) #[] #[])), (7, (.int .i64 (s'.length : Int))), (8, (.int .i64 i))] ∧ Mem ⟨w0, []⟩ S [] [] [] [(false, MP.val [(.slice A s'.length c)] (s' : List Int))] w) s a w) ?_ ?_
  · refine wp_block ?_
    refine loop_rule (fun k (s : Int) => slices_IndexFunc_int_int_of_CostOf_c1_L1 fu s' k s = some out') (fun (s : Int) (a : Act) (w : World) => match s with | i => Fr a 19 [(0, (.slice A s'.length c)), (1, (.func (.func 116) #[] #[])), (7, (.int .i64 (s'.length : Int))), (8, (.int .i64 i))] ∧ Mem ⟨w0, []⟩ S [] [] [] [(false, MP.val [(.slice A s'.length c)] (s' : List Int))] w) (fun s h => by cases h) ?_ fu 0 a w0 hB1 hI
    rintro fk i a w hR1 hI
    replace hR1 : slices_IndexFunc_int_int_of_CostOf_c1_L1 fu s' (fk + 1) i = some out' := hR1
    rw [slices_IndexFunc_int_int_of_CostOf_c1_L1] at hR1
    obtain ⟨hf, H⟩ := hI
    refine sq ?_
    refine reg ?_
    refine pRun_ok (tb := tab) (n := 19) tabOk 1 _ _ hf rfl rfl fun a hf => ?_
    refine wl_end ?_
    refine then_n ?_
    refine sq ?_
    refine (Bool.eq_false_or_eq_true (decide (i < (s'.length : Int)))).elim (fun hc => ?_) (fun hc => ?_)
    · rw [if_pos hc] at hR1
      refine cd_t hf rfl hc ?_
      refine wp_skip ?_
      refine then_n ?_
      refine sq ?_
      refine wp_block ?_
      refine sq ?_
      refine reg ?_
      refine pRun_ok (tb := tab) (n := 19) tabOk 2 _ _ hf rfl rfl fun a hf => ?_
      refine wl_end ?_
      refine then_n ?_
      refine sq ?_
      refine reg ?_
      refine pRun_ok (tb := tab) (n := 19) tabOk 3 _ _ hf rfl rfl fun a hf => ?_
      obtain ⟨e, he, hR1⟩ := bind_some hR1
      refine wl0 rfl (op_iaddr hf H Try.underlying35 TF.sz3 0 rfl rfl rfl he (by decide) fun p o cs a hf hr H => ?_)
      obtain rfl := hr
      refine wl0 rfl (op_q hf (rq_loadI hf H TF.ls3 0 0 rfl rfl rfl) rfl (by decide) fun a hf => ?_)
      obtain ⟨y, hy, hR1⟩ := bind_some hR1
      refine wl0 rfl (op_callV hf TF.cl116 rfl rfl (by decide) (impl_CostOf_c1_ok (S := fun _ => True) mk_int hy) fun v w a hp hf => ?_)
      obtain ⟨hb, hp⟩ := hp
      obtain rfl := VR_bool hp
      have H := H.keep hb
      refine wl_end ?_
      refine then_n ?_
      refine (Bool.eq_false_or_eq_true (y)).elim (fun hc2 => ?_) (fun hc2 => ?_)
      · rw [if_pos hc2] at hR1
        refine cd_t hf rfl hc2 ?_
        refine sq ?_
        refine reg ?_
        refine pRun_ok (tb := tab) (n := 19) tabOk 2 _ _ hf rfl rfl fun a hf => ?_
        have hf := hf.prune [4] rfl
        refine wl_end ?_
        refine then_n ?_
        refine wp_ret (blk_r (then_r (then_r (blk_r (then_r (then_r (?_)))))))
        obtain rfl := Option.some.inj hR1
        replace hF := on_ret hF
        obtain rfl := Option.some.inj hF
        refine ret_1 (fn := Try.f155) (r := .tmp 4) hf rfl (rv_tmp hf rfl) ?_
        exact ⟨_, rfl, H.bel, mk_int⟩
      · rw [if_neg (nt hc2)] at hR1
        refine cd_f hf rfl hc2 ?_
        refine wp_skip ?_
        refine blk_n ?_
        refine then_n ?_
        refine reg ?_
        refine pRun_ok (tb := tab) (n := 19) tabOk 2 _ _ hf rfl rfl fun a hf => ?_
        refine wl_end ?_
        have hf := hf.prune [0, 1, 7, 8] rfl
        have H := H.let [] [] [] [1]
        exact then_n ⟨w64 (i + 1), hR1, hf, H⟩
    · rw [if_neg (nt hc)] at hR1
      refine cd_f hf rfl hc ?_
      refine wp_exit (then_x (then_x (blk_e (?_))))
      have hf := hf.prune [0, 1, 7, 8] rfl
      have H := H.let [] [] [] [0]
      exact ⟨i, (Option.some.inj hR1).symm, hf, H⟩
  rintro a w ⟨i2, rfl, hf, H⟩
  replace hF := on_next hF
  refine then_n ?_
  refine sq ?_
  refine reg ?_
  refine pRun_ok (tb := tab) (n := 19) tabOk 1 _ _ hf rfl rfl fun a hf => ?_
  refine wl_end ?_
  refine then_n ?_
  refine wp_ret (?_)
  obtain rfl := Option.some.inj hF
  refine ret_1 (fn := Try.f155) (r := .tmp 4) hf rfl (rv_tmp hf rfl) ?_
  exact ⟨_, rfl, H.bel, mk_int⟩

/- slices.ContainsFunc[[]int,int] -/
set_option maxHeartbeats 1000000 in
theorem slices_ContainsFunc_int_int_of_CostOf_c1_ok {fu : Nat} {w0 : World} {S : Nat → Prop} {v0_ : Value} {s' : List Int} {r : Bool} (h0 : VR w0 S v0_ s') (hF : slices_ContainsFunc_int_int_of_CostOf_c1 fu s' = some r) :
    Calls Try.prog 115 [v0_, (.func (.func 116) #[] #[])].toArray w0 fun e w' => ∃ v, e = .returned v ∧ (Below w0.heap.size w0 w' ∧ VR w' (St ⟨w0, []⟩ S [] [] [] true) v r) := by
  obtain ⟨A, c, rfl, hl⟩ := VR_list h0
  have H := Mem.start ⟨w0, []⟩ S
  have H := H.pushArg (MP.val [(.slice A s'.length c)] s') hl
  refine enter Try.func115 rfl rfl (nle rfl) rfl fun a hf => ?_
  rw [slices_ContainsFunc_int_int_of_CostOf_c1] at hF
  refine sq ?_
  refine reg ?_
  refine pRun_ok (tb := tab) (n := 9) tabOk 1 _ _ hf rfl rfl fun a hf => ?_
  refine wl_end ?_
  refine then_n ?_
  refine sq ?_
  refine reg ?_
  refine pRun_ok (tb := tab) (n := 9) tabOk 2 _ _ hf rfl rfl fun a hf => ?_
  obtain ⟨y, hy, hF⟩ := bind_some hF
  refine wl0 rfl (op_call hf TF.cl155 rfl (by decide) (slices_IndexFunc_int_int_of_CostOf_c1_ok (S := fun _ => True) (mk_list (rep_true (α := List Int) (H.get 0 rfl))) hy) fun v w a hp hf => ?_)
  obtain ⟨hb, hp⟩ := hp
  obtain rfl := VR_int hp
  have H := H.keep hb
  refine pRun_ok (tb := tab) (n := 9) tabOk 2 _ _ hf rfl rfl fun a hf => ?_
  refine wl_end ?_
  refine then_n ?_
  refine wp_ret (?_)
  obtain rfl := Option.some.inj hF
  refine ret_1 (fn := Try.f115) (r := .tmp 4) hf rfl (rv_tmp hf rfl) ?_
  exact ⟨_, rfl, H.bel, mk_bool⟩

/- loop.example/g00897/impl.CostOf -/
set_option maxHeartbeats 1000000 in
theorem impl_CostOf_ok {fu : Nat} {w0 : World} {S : Nat → Prop} {v0_ : Value} {v1_ : Value} {bill : List Item} {prices : List Int} {r : Int × Bool} (h0 : VR w0 S v0_ bill) (h1 : VR w0 S v1_ prices) (hF : impl_CostOf fu bill prices = some r) :
    Calls Try.prog 49 [v0_, v1_].toArray w0 fun e w' => ∃ v, e = .returned v ∧ (Below w0.heap.size w0 w' ∧ ∃ u0 u1, v = .tuple #[u0, u1] ∧ VR w' (St ⟨w0, []⟩ S [] [] [] true) u0 r.1 ∧ VR w' (St ⟨w0, []⟩ S [] [] [] true) u1 r.2) := by
  obtain ⟨A, c, rfl, hl⟩ := VR_list h0
  obtain ⟨A2, c2, rfl, hl2⟩ := VR_list h1
  have H := Mem.start ⟨w0, []⟩ S
  have H := H.pushArg (MP.val [(.slice A bill.length c)] bill) hl
  have H := H.pushArg (MP.val [(.slice A2 prices.length c2)] prices) hl2
  refine enter Try.func49 rfl rfl (nle rfl) rfl fun a hf => ?_
  rw [impl_CostOf] at hF
  refine sq ?_
  refine reg ?_
  refine pRun_ok (tb := tab) (n := 40) tabOk 2 _ _ hf rfl rfl fun a hf => ?_
  refine wl_end ?_
  refine then_n ?_
  refine sq ?_
  refine sq ?_
  obtain ⟨c3, hGc3, hF⟩ := bind_some hF
  refine mid (fun a w => Fr a 40 [(0, (.slice A bill.length c)), (1, (.slice A2 prices.length c2)), (20, (.bool c3))] ∧ Mem ⟨w0, []⟩ S [] [] [] [(false, MP.val [(.slice A2 prices.length c2)] (prices : List Int)), (false, MP.val [(.slice A bill.length c)] (bill : List Item))] w) ?_ ?_
  · refine reg ?_
    refine pRun_ok (tb := tab) (n := 40) tabOk 1 _ _ hf rfl rfl fun a hf => ?_
    obtain ⟨y, hy, hGc3⟩ := bind_some hGc3
    refine wl0 rfl (op_call hf TF.cl114 rfl (by decide) (impl_isBill_ok (S := fun _ => True) (mk_list (rep_true (α := List Item) (H.get 1 rfl))) hy) fun v w a hp hf => ?_)
    obtain ⟨hb, hp⟩ := hp
    obtain rfl := VR_bool hp
    have H := H.keep hb
    refine pRun_ok (tb := tab) (n := 40) tabOk 2 _ _ hf rfl rfl fun a hf => ?_
    refine (Bool.eq_false_or_eq_true (!y)).elim (fun hc => ?_) (fun hc => ?_)
    · rw [if_pos hc] at hGc3
      have hf := hf.lit 12 rfl hc
      refine pRun_ok (tb := tab) (n := 40) tabOk 8 _ _ hf rfl rfl fun a hf => ?_
      obtain rfl := Option.some.inj hGc3
      have hf := hf.prune [0, 1, 20] rfl
      have H := H.let [] [] [] [0, 1]
      exact wl_end ⟨hf, H⟩
    · rw [if_neg (nt hc)] at hGc3
      have hf := hf.lit 12 rfl hc
      refine pRun_ok (tb := tab) (n := 40) tabOk 5 _ _ hf rfl rfl fun a hf => ?_
      refine (Bool.eq_false_or_eq_true ((prices.length : Int) != 4)).elim (fun hc2 => ?_) (fun hc2 => ?_)
      · rw [if_pos hc2] at hGc3
        have hf := hf.lit 17 rfl hc2
        refine pRun_ok (tb := tab) (n := 40) tabOk 3 _ _ hf rfl rfl fun a hf => ?_
        obtain rfl := Option.some.inj hGc3
        have hf := hf.prune [0, 1, 20] rfl
        have H := H.let [] [] [] [0, 1]
        exact wl_end ⟨hf, H⟩
      · rw [if_neg (nt hc2)] at hGc3
        have hf := hf.lit 17 rfl hc2
        refine pRun_ok (tb := tab) (n := 40) tabOk 1 _ _ hf rfl rfl fun a hf => ?_
        obtain ⟨y2, hy2, hGc3⟩ := bind_some hGc3
        refine wlg hf rfl rfl rfl (op_call hf TF.cl115 rfl (by decide) (slices_ContainsFunc_int_int_of_CostOf_c1_ok (S := fun _ => True) (mk_list (rep_true (α := List Int) (H.get 0 rfl))) hy2) fun v2 w a hp2 hf => ?_)
        obtain ⟨hb2, hp2⟩ := hp2
        obtain rfl := VR_bool hp2
        have H := H.keep hb2
        refine pRun_ok (tb := tab) (n := 40) tabOk 1 _ _ hf rfl rfl fun a hf => ?_
        obtain rfl := Option.some.inj hGc3
        have hf := hf.prune [0, 1, 20] rfl
        have H := H.let [] [] [] [0, 1]
        exact wl_end ⟨hf, H⟩
  rintro a w ⟨hf, H⟩
  refine then_n ?_
  refine (Bool.eq_false_or_eq_true (c3)).elim (fun hc3 => ?_) (fun hc3 => ?_)
  · rw [if_pos hc3] at hF
    refine cd_t hf rfl hc3 ?_
    refine sq ?_
    refine reg ?_
    refine pRun_ok (tb := tab) (n := 40) tabOk 2 _ _ hf rfl rfl fun a hf => ?_
    refine wl_end ?_
    refine then_n ?_
    refine wp_ret (then_r (?_))
    obtain rfl := Option.some.inj hF
    refine ret_2 (fn := Try.f49) (r := .tmp 4) (s := .tmp 5) hf rfl (rv_tmp hf rfl) (rv_tmp hf rfl) ?_
    exact ⟨_, rfl, H.bel, _, _, rfl, mk_int, mk_bool⟩
  · rw [if_neg (nt hc3)] at hF
    refine cd_f hf rfl hc3 ?_
    refine wp_skip ?_
    refine then_n ?_
    refine sq ?_
    refine reg ?_
    refine pRun_ok (tb := tab) (n := 40) tabOk 1 _ _ hf rfl rfl fun a hf => ?_
    refine wl_end ?_
    refine then_n ?_
    refine sq ?_
    refine sq ?_
    refine reg ?_
    refine pRun_ok (tb := tab) (n := 40) tabOk 3 _ _ hf rfl rfl fun a hf => ?_
    refine wl_end ?_
    refine then_n ?_
    obtain ⟨out', hB1, hF⟩ := bind_some hF
    have hf := hf.prune [1, 6, 21, 22, 23] rfl
    have H := H.let [] [] [] [0, 1]
    have hI : (fun (s : Int × Int) (a : Act) (w : World) => match s with | (sum, i) => Fr a 40 [(1, (.slice A2 prices.length c2)), (6, (.int .i64 sum)), (21, (.slice A bill.length c)), (22, (.int .i64 (bill.length : Int))), (23, (.int .i64 i))] ∧ Mem ⟨w0, []⟩ S [] [] [] [(false, MP.val [(.slice A2 prices.length c2)] (prices : List Int)), (false, MP.val [(.slice A bill.length c)] (bill : List Item))] w) (0, 0) a w := ⟨hf, H⟩
    refine mid (fun a w => ∃ s : Int × Int, out' = s ∧ (fun (s : Int × Int) (a : Act) (w : World) => match s with | (sum, i) => Fr a 40 [(1, (.slice A2 prices.length c2)), (6, (.int .i64 sum)), (21, (.slice A bill.length c)), (22, (.int .i64 (bill.length : Int))), (23, (.int .i64 i))] ∧ Mem ⟨w0, []⟩ S [] [] [] [(false, MP.val [(.slice A2 prices.length c2)] (prices : List Int)), (false, MP.val [(.slice A bill.length c)] (bill : List Item))] w) s a w) ?_ ?_
    · refine wp_block ?_
      refine loop_rule (fun k (s : Int × Int) => impl_CostOf_L1 fu bill prices k s.1 s.2 = some out') (fun (s : Int × Int) (a : Act) (w : World) => match s with | (sum, i) => Fr a 40 [(1, (.slice A2 prices.length c2)), (6, (.int .i64 sum)), (21, (.slice A bill.length c)), (22, (.int .i64 (bill.length : Int))), (23, (.int .i64 i))] ∧ Mem ⟨w0, []⟩ S [] [] [] [(false, MP.val [(.slice A2 prices.length c2)] (prices : List Int)), (false, MP.val [(.slice A bill.length c)] (bill : List Item))] w) (fun s h => by cases h) ?_ fu (0, 0) a w hB1 hI
      rintro fk ⟨sum, i⟩ a w hR1 hI
      replace hR1 : impl_CostOf_L1 fu bill prices (fk + 1) sum i = some out' := hR1
      rw [impl_CostOf_L1] at hR1
      obtain ⟨hf, H⟩ := hI
      refine sq ?_
      refine reg ?_
      refine pRun_ok (tb := tab) (n := 40) tabOk 1 _ _ hf rfl rfl fun a hf => ?_
      refine wl_end ?_
      refine then_n ?_
      refine sq ?_
      refine (Bool.eq_false_or_eq_true (decide (i < (bill.length : Int)))).elim (fun hc4 => ?_) (fun hc4 => ?_)
      · rw [if_pos hc4] at hR1
        refine cd_t hf rfl hc4 ?_
        refine wp_skip ?_
        refine then_n ?_
        refine sq ?_
        refine wp_block ?_
        refine sq ?_
        refine reg ?_
        obtain ⟨e, he, hR1⟩ := bind_some hR1
        refine wl0 rfl (op_iaddr hf H Try.underlying53 TF.sz119 1 rfl rfl rfl he (by decide) fun p o cs a hf hr H => ?_)
        obtain rfl := Item_cells hr
        refine wl0 rfl (op_q hf (rq_loadIN hf H TF.la119 0 0 rfl rfl rfl rfl) rfl (by decide) fun a hf => ?_)
        refine wl0 rfl (op_alloc hf H TF.zv119 rfl (by decide) fun b' a w hf H => ?_)
        refine wl0 rfl (op_storeB hf H 0 TF.sz119 rfl rfl rfl rfl rfl rfl (nle rfl) fun w H => ?_)
        refine wl_end ?_
        refine then_n ?_
        refine drawn [] (bs := [false, false, false, false, false, false, false, false, false, false, false, false]) (fuel := 12) (Checked.mixed Try.checked) rfl rfl fun w hb => ?_
        have H := H.keep hb
        refine tkP (i := 0) (bs' := [true, false, false, false, false, false, false, false, false, false, false, false]) rfl rfl rfl (by decide) hf (by kernel_rfl) (fun _ => trivial) (fun w => pOp_ok (tb := tab) tabOk hf rfl) rfl fun a hf => ?_
        refine tkP (i := 1) (bs' := [true, true, false, false, false, false, false, false, false, false, false, false]) rfl rfl rfl (by decide) hf (by kernel_rfl) (fun _ => trivial) (fun w => pOp_ok (tb := tab) tabOk hf rfl) rfl fun a hf => ?_
        refine str (fun w => Mem ⟨w0, []⟩ S [⟨b', 119, [(.int .i64 e.Kind), (.int .i64 e.Node), (.int .i64 e.Count)]⟩] [] [] [(false, MP.cells ⟨p, o, none⟩ [(.int .i64 e.Kind), (.int .i64 e.Node), (.int .i64 e.Count)]), (false, MP.val [(.slice A2 prices.length c2)] (prices : List Int)), (false, MP.val [(.slice A bill.length c)] (bill : List Item))] w) (fun w H => trivial) ?_
        have hS : Mem ⟨w0, []⟩ S [⟨b', 119, [(.int .i64 e.Kind), (.int .i64 e.Node), (.int .i64 e.Count)]⟩] [] [] [(false, MP.cells ⟨p, o, none⟩ [(.int .i64 e.Kind), (.int .i64 e.Node), (.int .i64 e.Count)]), (false, MP.val [(.slice A2 prices.length c2)] (prices : List Int)), (false, MP.val [(.slice A bill.length c)] (bill : List Item))] w := H.let [true] [] [] [0, 1, 2]
        refine tkS (i := 2) (bs' := [true, true, true, false, false, false, false, false, false, false, false, false]) [] rfl rfl rfl (by decide) hf (by kernel_rfl) (by kernel_rfl) hS (fun w H => rq_loadB hf H TF.ls3 0 rfl rfl rfl) rfl fun a hf => ?_
        refine tkP (i := 3) (bs' := [true, true, true, true, false, false, false, false, false, false, false, false]) rfl rfl rfl (by decide) hf (by kernel_rfl) (fun _ => hS) (fun w => pOp_ok (tb := tab) tabOk hf rfl) rfl fun a hf => ?_
        refine tkP (i := 4) (bs' := [true, true, true, true, true, false, false, false, false, false, false, false]) rfl rfl rfl (by decide) hf (by kernel_rfl) (fun _ => hS) (fun w => pOp_ok (tb := tab) tabOk hf rfl) rfl fun a hf => ?_
        refine tkS (i := 5) (bs' := [true, true, true, true, true, true, false, false, false, false, false, false]) [] rfl rfl rfl (by decide) hf (by kernel_rfl) (by kernel_rfl) hS (fun w H => rq_loadB hf H TF.ls3 0 rfl rfl rfl) rfl fun a hf => ?_
        refine tkP (i := 6) (bs' := [true, true, true, true, true, true, true, false, false, false, false, false]) rfl rfl rfl (by decide) hf (by kernel_rfl) (fun _ => hS) (fun w => pOp_ok (tb := tab) tabOk hf rfl) rfl fun a hf => ?_
        obtain ⟨e2, he2, hR1⟩ := bind_some hR1
        obtain ⟨p2, o2, cs2, hx, hr2, H⟩ := pre_iaddr H Try.underlying35 TF.sz3 1 rfl he2
        refine tkP (i := 7) (bs' := [true, true, true, true, true, true, true, true, false, false, false, false]) rfl rfl rfl (by decide) hf (by kernel_rfl) (fun _ => hS) (fun w => rq_iaddrE hf rfl rfl rfl hx w) rfl fun a hf => ?_
        obtain rfl := hr2
        refine str (fun w => Mem ⟨w0, []⟩ S [⟨b', 119, [(.int .i64 e.Kind), (.int .i64 e.Node), (.int .i64 e.Count)]⟩] [] [] [(false, MP.cells ⟨p2, o2, none⟩ [(.int .i64 e2)]), (false, MP.cells ⟨p, o, none⟩ [(.int .i64 e.Kind), (.int .i64 e.Node), (.int .i64 e.Count)]), (false, MP.val [(.slice A2 prices.length c2)] (prices : List Int)), (false, MP.val [(.slice A bill.length c)] (bill : List Item))] w) (fun w H => H.let [true] [] [] [1, 2, 3]) ?_
        have hS : Mem ⟨w0, []⟩ S [⟨b', 119, [(.int .i64 e.Kind), (.int .i64 e.Node), (.int .i64 e.Count)]⟩] [] [] [(false, MP.cells ⟨p2, o2, none⟩ [(.int .i64 e2)]), (false, MP.cells ⟨p, o, none⟩ [(.int .i64 e.Kind), (.int .i64 e.Node), (.int .i64 e.Count)]), (false, MP.val [(.slice A2 prices.length c2)] (prices : List Int)), (false, MP.val [(.slice A bill.length c)] (bill : List Item))] w := H.let [true] [] [] [0, 1, 2, 3]
        refine tkS (i := 8) (bs' := [true, true, true, true, true, true, true, true, true, false, false, false]) [] rfl rfl rfl (by decide) hf (by kernel_rfl) (by kernel_rfl) hS (fun w H => rq_loadI hf H TF.ls3 0 0 rfl rfl rfl) rfl fun a hf => ?_
        refine tkP (i := 9) (bs' := [true, true, true, true, true, true, true, true, true, true, false, false]) rfl rfl rfl (by decide) hf (by kernel_rfl) (fun _ => hS) (fun w => pOp_ok (tb := tab) tabOk hf rfl) rfl fun a hf => ?_
        refine tkP (i := 10) (bs' := [true, true, true, true, true, true, true, true, true, true, true, false]) rfl rfl rfl (by decide) hf (by kernel_rfl) (fun _ => hS) (fun w => pOp_ok (tb := tab) tabOk hf rfl) rfl fun a hf => ?_
        refine tkP (i := 11) (bs' := [true, true, true, true, true, true, true, true, true, true, true, true]) rfl rfl rfl (by decide) hf (by kernel_rfl) (fun _ => hS) (fun w => pOp_ok (tb := tab) tabOk hf rfl) rfl fun a hf => ?_
        refine dn (by kernel_rfl) ?_
        have hf := hf.prune [1, 6, 21, 22, 23] rfl
        refine blk_n ?_
        refine then_n ?_
        refine reg ?_
        refine pRun_ok (tb := tab) (n := 40) tabOk 2 _ _ hf rfl rfl fun a hf => ?_
        refine wl_end ?_
        have hf := hf.prune [1, 6, 21, 22, 23] rfl
        have H := H.let [false] [] [] [2, 3]
        exact then_n ⟨(w64 (sum + (w64 (e.Count * e2))), w64 (i + 1)), hR1, hf, H⟩
      · rw [if_neg (nt hc4)] at hR1
        refine cd_f hf rfl hc4 ?_
        refine wp_exit (then_x (then_x (blk_e (?_))))
        have hf := hf.prune [1, 6, 21, 22, 23] rfl
        have H := H.let [] [] [] [0, 1]
        exact ⟨(sum, i), (Option.some.inj hR1).symm, hf, H⟩
    rintro a w ⟨⟨sum2, i2⟩, rfl, hf, H⟩
    dsimp only at hF
    refine then_n ?_
    refine sq ?_
    refine reg ?_
    refine pRun_ok (tb := tab) (n := 40) tabOk 3 _ _ hf rfl rfl fun a hf => ?_
    refine wl_end ?_
    refine then_n ?_
    refine wp_ret (?_)
    obtain rfl := Option.some.inj hF
    refine ret_2 (fn := Try.f49) (r := .tmp 4) (s := .tmp 5) hf rfl (rv_tmp hf rfl) (rv_tmp hf rfl) ?_
    exact ⟨_, rfl, H.bel, _, _, rfl, mk_int, mk_bool⟩

/- loop.example/g00897/laws.eqItem -/
set_option maxHeartbeats 1000000 in
theorem laws_eqItem_ok {fu : Nat} {w0 : World} {S : Nat → Prop} {v0_ : Value} {v1_ : Value} {a' : Item} {b' : Item} {r : Bool} (h0 : VR w0 S v0_ a') (h1 : VR w0 S v1_ b') (hF : laws_eqItem fu a' b' = some r) :
    Calls Try.prog 117 [v0_, v1_].toArray w0 fun e w' => ∃ v, e = .returned v ∧ (Below w0.heap.size w0 w' ∧ VR w' (St ⟨w0, []⟩ S [] [] [] true) v r) := by
  obtain rfl := Item_open h0
  obtain rfl := Item_open h1
  have H := Mem.start ⟨w0, []⟩ S
  refine enter Try.func117 rfl rfl (nle rfl) rfl fun a hf => ?_
  rw [laws_eqItem] at hF
  refine sq ?_
  refine reg ?_
  refine wl0 rfl (op_box hf H rfl rfl (by decide) fun b2 a w hf H => ?_)
  refine wl0 rfl (op_box hf H rfl rfl (by decide) fun b3 a w hf H => ?_)
  refine pRun_ok (tb := tab) (n := 20) tabOk 1 _ _ hf rfl rfl fun a hf => ?_
  refine wl_end ?_
  refine then_n ?_
  refine sq ?_
  refine sq ?_
  refine reg ?_
  refine pRun_ok (tb := tab) (n := 20) tabOk 1 _ _ hf rfl rfl fun a hf => ?_
  refine wl0 rfl (op_q hf (rq_loadB hf H TF.ls3 1 rfl rfl rfl) rfl (by decide) fun a hf => ?_)
  refine pRun_ok (tb := tab) (n := 20) tabOk 1 _ _ hf rfl rfl fun a hf => ?_
  refine wl0 rfl (op_q hf (rq_loadB hf H TF.ls3 0 rfl rfl rfl) rfl (by decide) fun a hf => ?_)
  refine pRun_ok (tb := tab) (n := 20) tabOk 1 _ _ hf rfl rfl fun a hf => ?_
  refine wl_end ?_
  refine then_n ?_
  refine (Bool.eq_false_or_eq_true (a'.Kind != b'.Kind)).elim (fun hc => ?_) (fun hc => ?_)
  · rw [if_pos hc] at hF
    refine cd_t hf rfl hc ?_
    refine sq ?_
    refine reg ?_
    refine pRun_ok (tb := tab) (n := 20) tabOk 1 _ _ hf rfl rfl fun a hf => ?_
    refine wl_end ?_
    refine then_n ?_
    refine wp_ret (then_r (?_))
    obtain rfl := Option.some.inj hF
    refine ret_1 (fn := Try.f117) (r := .tmp 4) hf rfl (rv_tmp hf rfl) ?_
    exact ⟨_, rfl, H.bel, mk_bool⟩
  · rw [if_neg (nt hc)] at hF
    refine cd_f hf rfl hc ?_
    refine wp_skip ?_
    refine then_n ?_
    refine sq ?_
    refine sq ?_
    refine reg ?_
    refine pRun_ok (tb := tab) (n := 20) tabOk 1 _ _ hf rfl rfl fun a hf => ?_
    refine wl0 rfl (op_q hf (rq_loadB hf H TF.ls3 1 rfl rfl rfl) rfl (by decide) fun a hf => ?_)
    refine pRun_ok (tb := tab) (n := 20) tabOk 1 _ _ hf rfl rfl fun a hf => ?_
    refine wl0 rfl (op_q hf (rq_loadB hf H TF.ls3 0 rfl rfl rfl) rfl (by decide) fun a hf => ?_)
    refine pRun_ok (tb := tab) (n := 20) tabOk 1 _ _ hf rfl rfl fun a hf => ?_
    refine wl_end ?_
    refine then_n ?_
    refine (Bool.eq_false_or_eq_true (a'.Node != b'.Node)).elim (fun hc2 => ?_) (fun hc2 => ?_)
    · rw [if_pos hc2] at hF
      refine cd_t hf rfl hc2 ?_
      refine sq ?_
      refine reg ?_
      refine pRun_ok (tb := tab) (n := 20) tabOk 1 _ _ hf rfl rfl fun a hf => ?_
      have hf := hf.prune [4] rfl
      refine wl_end ?_
      refine then_n ?_
      refine wp_ret (then_r (?_))
      obtain rfl := Option.some.inj hF
      refine ret_1 (fn := Try.f117) (r := .tmp 4) hf rfl (rv_tmp hf rfl) ?_
      exact ⟨_, rfl, H.bel, mk_bool⟩
    · rw [if_neg (nt hc2)] at hF
      refine cd_f hf rfl hc2 ?_
      refine wp_skip ?_
      refine then_n ?_
      refine sq ?_
      refine sq ?_
      refine reg ?_
      refine pRun_ok (tb := tab) (n := 20) tabOk 1 _ _ hf rfl rfl fun a hf => ?_
      refine wl0 rfl (op_q hf (rq_loadB hf H TF.ls3 1 rfl rfl rfl) rfl (by decide) fun a hf => ?_)
      refine pRun_ok (tb := tab) (n := 20) tabOk 1 _ _ hf rfl rfl fun a hf => ?_
      refine wl0 rfl (op_q hf (rq_loadB hf H TF.ls3 0 rfl rfl rfl) rfl (by decide) fun a hf => ?_)
      refine pRun_ok (tb := tab) (n := 20) tabOk 1 _ _ hf rfl rfl fun a hf => ?_
      have hf := hf.prune [19] rfl
      refine wl_end ?_
      refine then_n ?_
      refine (Bool.eq_false_or_eq_true (a'.Count != b'.Count)).elim (fun hc3 => ?_) (fun hc3 => ?_)
      · rw [if_pos hc3] at hF
        refine cd_t hf rfl hc3 ?_
        refine sq ?_
        refine reg ?_
        refine pRun_ok (tb := tab) (n := 20) tabOk 1 _ _ hf rfl rfl fun a hf => ?_
        refine wl_end ?_
        refine then_n ?_
        refine wp_ret (then_r (?_))
        obtain rfl := Option.some.inj hF
        refine ret_1 (fn := Try.f117) (r := .tmp 4) hf rfl (rv_tmp hf rfl) ?_
        exact ⟨_, rfl, H.bel, mk_bool⟩
      · rw [if_neg (nt hc3)] at hF
        refine cd_f hf rfl hc3 ?_
        refine wp_skip ?_
        refine then_n ?_
        refine sq ?_
        refine reg ?_
        refine pRun_ok (tb := tab) (n := 20) tabOk 1 _ _ hf rfl rfl fun a hf => ?_
        refine wl_end ?_
        refine then_n ?_
        refine wp_ret (?_)
        obtain rfl := Option.some.inj hF
        refine ret_1 (fn := Try.f117) (r := .tmp 4) hf rfl (rv_tmp hf rfl) ?_
        exact ⟨_, rfl, H.bel, mk_bool⟩

/- loop.example/g00897/laws.eqItemS -/
set_option maxHeartbeats 1000000 in
theorem laws_eqItemS_ok {fu : Nat} {w0 : World} {S : Nat → Prop} {v0_ : Value} {v1_ : Value} {a' : List Item} {b' : List Item} {r : Bool} (h0 : VR w0 S v0_ a') (h1 : VR w0 S v1_ b') (hF : laws_eqItemS fu a' b' = some r) :
    Calls Try.prog 50 [v0_, v1_].toArray w0 fun e w' => ∃ v, e = .returned v ∧ (Below w0.heap.size w0 w' ∧ VR w' (St ⟨w0, []⟩ S [] [] [] true) v r) := by
  obtain ⟨A, c, rfl, hl⟩ := VR_list h0
  obtain ⟨A2, c2, rfl, hl2⟩ := VR_list h1
  have H := Mem.start ⟨w0, []⟩ S
  have H := H.pushArg (MP.val [(.slice A a'.length c)] a') hl
  have H := H.pushArg (MP.val [(.slice A2 b'.length c2)] b') hl2
  refine enter Try.func50 rfl rfl (nle rfl) rfl fun a hf => ?_
  rw [laws_eqItemS] at hF
  refine sq ?_
  refine reg ?_
  refine pRun_ok (tb := tab) (n := 27) tabOk 1 _ _ hf rfl rfl fun a hf => ?_
  refine wl_end ?_
  refine then_n ?_
  refine sq ?_
  refine sq ?_
  refine reg ?_
  refine pRun_ok (tb := tab) (n := 27) tabOk 5 _ _ hf rfl rfl fun a hf => ?_
  refine wl_end ?_
  refine then_n ?_
  refine (Bool.eq_false_or_eq_true ((a'.length : Int) != (b'.length : Int))).elim (fun hc => ?_) (fun hc => ?_)
  · rw [if_pos hc] at hF
    refine cd_t hf rfl hc ?_
    refine sq ?_
    refine reg ?_
    refine pRun_ok (tb := tab) (n := 27) tabOk 1 _ _ hf rfl rfl fun a hf => ?_
    refine wl_end ?_
    refine then_n ?_
    refine wp_ret (then_r (?_))
    obtain rfl := Option.some.inj hF
    refine ret_1 (fn := Try.f50) (r := .tmp 4) hf rfl (rv_tmp hf rfl) ?_
    exact ⟨_, rfl, H.bel, mk_bool⟩
  · rw [if_neg (nt hc)] at hF
    refine cd_f hf rfl hc ?_
    refine wp_skip ?_
    refine then_n ?_
    refine sq ?_
    refine sq ?_
    refine reg ?_
    refine pRun_ok (tb := tab) (n := 27) tabOk 1 _ _ hf rfl rfl fun a hf => ?_
    refine wl_end ?_
    refine then_n ?_
    obtain ⟨out', hB1, hF⟩ := bind_some hF
    have hf := hf.prune [0, 1, 5] rfl
    have H := H.let [] [] [] [0, 1]
    have hI : (fun (s : Int) (a : Act) (w : World) => match s with | i => Fr a 27 [(0, (.slice A a'.length c)), (1, (.slice A2 b'.length c2)), (5, (.int .i64 i))] ∧ Mem ⟨w0, []⟩ S [] [] [] [(false, MP.val [(.slice A2 b'.length c2)] (b' : List Item)), (false, MP.val [(.slice A a'.length c)] (a' : List Item))] w) 0 a w0 := ⟨hf, H⟩
    refine mid (fun a w => ∃ s : Int, out' = Out.next s ∧ (fun (s : Int) (a : Act) (w : World) => match s with | i => Fr a 27 [(0, (.slice A a'.length c)), (1, (.slice A2 b'.length c2)), (5, (.int .i64 i))] ∧ Mem ⟨w0, []⟩ S [] [] [] [(false, MP.val [(.slice A2 b'.length c2)] (b' : List Item)), (false, MP.val [(.slice A a'.length c)] (a' : List Item))] w) s a w) ?_ ?_
    · refine wp_block ?_
      refine loop_rule (fun k (s : Int) => laws_eqItemS_L1 fu a' b' k s = some out') (fun (s : Int) (a : Act) (w : World) => match s with | i => Fr a 27 [(0, (.slice A a'.length c)), (1, (.slice A2 b'.length c2)), (5, (.int .i64 i))] ∧ Mem ⟨w0, []⟩ S [] [] [] [(false, MP.val [(.slice A2 b'.length c2)] (b' : List Item)), (false, MP.val [(.slice A a'.length c)] (a' : List Item))] w) (fun s h => by cases h) ?_ fu 0 a w0 hB1 hI
      rintro fk i a w hR1 hI
      replace hR1 : laws_eqItemS_L1 fu a' b' (fk + 1) i = some out' := hR1
      rw [laws_eqItemS_L1] at hR1
      obtain ⟨hf, H⟩ := hI
      refine sq ?_
      refine sq ?_
      refine reg ?_
      refine pRun_ok (tb := tab) (n := 27) tabOk 4 _ _ hf rfl rfl fun a hf => ?_
      refine wl_end ?_
      refine then_n ?_
      refine (Bool.eq_false_or_eq_true (decide (i < (a'.length : Int)))).elim (fun hc2 => ?_) (fun hc2 => ?_)
      · rw [if_pos hc2] at hR1
        refine cd_t hf rfl hc2 ?_
        refine wp_skip ?_
        refine then_n ?_
        refine sq ?_
        refine wp_block ?_
        refine sq ?_
        refine drawn [] (bs := [false, false, false, false, false, false, false, false, false, false]) (fuel := 10) (Checked.mixed Try.checked) rfl rfl fun w hb => ?_
        have H := H.keep hb
        refine tkP (i := 0) (bs' := [true, false, false, false, false, false, false, false, false, false]) rfl rfl rfl (by decide) hf (by kernel_rfl) (fun _ => trivial) (fun w => pOp_ok (tb := tab) tabOk hf rfl) rfl fun a hf => ?_
        refine tkP (i := 1) (bs' := [true, true, false, false, false, false, false, false, false, false]) rfl rfl rfl (by decide) hf (by kernel_rfl) (fun _ => trivial) (fun w => pOp_ok (tb := tab) tabOk hf rfl) rfl fun a hf => ?_
        obtain ⟨e, he, hR1⟩ := bind_some hR1
        obtain ⟨p, o, cs, hx, hr, H⟩ := pre_iaddr H Try.underlying53 TF.sz119 1 rfl he
        refine tkP (i := 2) (bs' := [true, true, true, false, false, false, false, false, false, false]) rfl rfl rfl (by decide) hf (by kernel_rfl) (fun _ => trivial) (fun w => rq_iaddrE hf rfl rfl rfl hx w) rfl fun a hf => ?_
        obtain rfl := Item_cells hr
        refine str (fun w => Mem ⟨w0, []⟩ S [] [] [] [(false, MP.cells ⟨p, o, none⟩ [(.int .i64 e.Kind), (.int .i64 e.Node), (.int .i64 e.Count)]), (false, MP.val [(.slice A2 b'.length c2)] (b' : List Item)), (false, MP.val [(.slice A a'.length c)] (a' : List Item))] w) (fun w H => trivial) ?_
        have hS : Mem ⟨w0, []⟩ S [] [] [] [(false, MP.cells ⟨p, o, none⟩ [(.int .i64 e.Kind), (.int .i64 e.Node), (.int .i64 e.Count)]), (false, MP.val [(.slice A2 b'.length c2)] (b' : List Item)), (false, MP.val [(.slice A a'.length c)] (a' : List Item))] w := H.let [] [] [] [0, 1, 2]
        refine tkS (i := 3) (bs' := [true, true, true, true, false, false, false, false, false, false]) [] rfl rfl rfl (by decide) hf (by kernel_rfl) (by kernel_rfl) hS (fun w H => rq_loadIN hf H TF.la119 0 0 rfl rfl rfl rfl) rfl fun a hf => ?_
        refine tkP (i := 4) (bs' := [true, true, true, true, true, false, false, false, false, false]) rfl rfl rfl (by decide) hf (by kernel_rfl) (fun _ => hS) (fun w => pOp_ok (tb := tab) tabOk hf rfl) rfl fun a hf => ?_
        refine tkP (i := 5) (bs' := [true, true, true, true, true, true, false, false, false, false]) rfl rfl rfl (by decide) hf (by kernel_rfl) (fun _ => hS) (fun w => pOp_ok (tb := tab) tabOk hf rfl) rfl fun a hf => ?_
        obtain ⟨e2, he2, hR1⟩ := bind_some hR1
        obtain ⟨p2, o2, cs2, hx2, hr2, H⟩ := pre_iaddr H Try.underlying53 TF.sz119 1 rfl he2
        refine tkP (i := 6) (bs' := [true, true, true, true, true, true, true, false, false, false]) rfl rfl rfl (by decide) hf (by kernel_rfl) (fun _ => hS) (fun w => rq_iaddrE hf rfl rfl rfl hx2 w) rfl fun a hf => ?_
        obtain rfl := Item_cells hr2
        refine str (fun w => Mem ⟨w0, []⟩ S [] [] [] [(false, MP.cells ⟨p2, o2, none⟩ [(.int .i64 e2.Kind), (.int .i64 e2.Node), (.int .i64 e2.Count)]), (false, MP.cells ⟨p, o, none⟩ [(.int .i64 e.Kind), (.int .i64 e.Node), (.int .i64 e.Count)]), (false, MP.val [(.slice A2 b'.length c2)] (b' : List Item)), (false, MP.val [(.slice A a'.length c)] (a' : List Item))] w) (fun w H => H.let [] [] [] [1, 2, 3]) ?_
        have hS : Mem ⟨w0, []⟩ S [] [] [] [(false, MP.cells ⟨p2, o2, none⟩ [(.int .i64 e2.Kind), (.int .i64 e2.Node), (.int .i64 e2.Count)]), (false, MP.cells ⟨p, o, none⟩ [(.int .i64 e.Kind), (.int .i64 e.Node), (.int .i64 e.Count)]), (false, MP.val [(.slice A2 b'.length c2)] (b' : List Item)), (false, MP.val [(.slice A a'.length c)] (a' : List Item))] w := H.let [] [] [] [0, 1, 2, 3]
        refine tkS (i := 7) (bs' := [true, true, true, true, true, true, true, true, false, false]) [] rfl rfl rfl (by decide) hf (by kernel_rfl) (by kernel_rfl) hS (fun w H => rq_loadIN hf H TF.la119 0 0 rfl rfl rfl rfl) rfl fun a hf => ?_
        obtain ⟨y, hy, hR1⟩ := bind_some hR1
        refine on1 (i := 8) (bs' := [true, true, true, true, true, true, true, true, true, false]) (by kernel_rfl) rfl rfl rfl (op_call hf TF.cl117 rfl (by decide) (laws_eqItem_ok (S := fun _ => True) Item_mkv Item_mkv hy) fun v w a hp hf => ?_)
        obtain ⟨hb, hp⟩ := hp
        obtain rfl := VR_bool hp
        have H := H.keep hb
        have hS : Mem ⟨w0, []⟩ S [] [] [] [(false, MP.cells ⟨p2, o2, none⟩ [(.int .i64 e2.Kind), (.int .i64 e2.Node), (.int .i64 e2.Count)]), (false, MP.cells ⟨p, o, none⟩ [(.int .i64 e.Kind), (.int .i64 e.Node), (.int .i64 e.Count)]), (false, MP.val [(.slice A2 b'.length c2)] (b' : List Item)), (false, MP.val [(.slice A a'.length c)] (a' : List Item))] w := H.let [] [] [] [0, 1, 2, 3]
        refine ⟨fun _ => hS, ?_⟩
        refine tkP (i := 9) (bs' := [true, true, true, true, true, true, true, true, true, true]) rfl rfl rfl (by decide) hf (by kernel_rfl) (fun _ => hS) (fun w => pOp_ok (tb := tab) tabOk hf rfl) rfl fun a hf => ?_
        refine dn (by kernel_rfl) ?_
        have hf := hf.prune [0, 1, 5, 26] rfl
        refine then_n ?_
        refine (Bool.eq_false_or_eq_true (!y)).elim (fun hc3 => ?_) (fun hc3 => ?_)
        · rw [if_pos hc3] at hR1
          refine cd_t hf rfl hc3 ?_
          refine sq ?_
          refine reg ?_
          refine pRun_ok (tb := tab) (n := 27) tabOk 1 _ _ hf rfl rfl fun a hf => ?_
          refine wl_end ?_
          refine then_n ?_
          refine wp_ret (blk_r (then_r (then_r (blk_r (then_r (then_r (?_)))))))
          obtain rfl := Option.some.inj hR1
          replace hF := on_ret hF
          obtain rfl := Option.some.inj hF
          refine ret_1 (fn := Try.f50) (r := .tmp 4) hf rfl (rv_tmp hf rfl) ?_
          exact ⟨_, rfl, H.bel, mk_bool⟩
        · rw [if_neg (nt hc3)] at hR1
          refine cd_f hf rfl hc3 ?_
          refine wp_skip ?_
          refine blk_n ?_
          refine then_n ?_
          refine reg ?_
          refine pRun_ok (tb := tab) (n := 27) tabOk 3 _ _ hf rfl rfl fun a hf => ?_
          refine wl_end ?_
          have hf := hf.prune [0, 1, 5] rfl
          have H := H.let [] [] [] [2, 3]
          exact then_n ⟨w64 (i + 1), hR1, hf, H⟩
      · rw [if_neg (nt hc2)] at hR1
        refine cd_f hf rfl hc2 ?_
        refine wp_exit (then_x (then_x (blk_e (?_))))
        have hf := hf.prune [0, 1, 5] rfl
        have H := H.let [] [] [] [0, 1]
        exact ⟨i, (Option.some.inj hR1).symm, hf, H⟩
    rintro a w ⟨i2, rfl, hf, H⟩
    replace hF := on_next hF
    refine then_n ?_
    refine sq ?_
    refine reg ?_
    refine pRun_ok (tb := tab) (n := 27) tabOk 1 _ _ hf rfl rfl fun a hf => ?_
    refine wl_end ?_
    refine then_n ?_
    refine wp_ret (?_)
    obtain rfl := Option.some.inj hF
    refine ret_1 (fn := Try.f50) (r := .tmp 4) hf rfl (rv_tmp hf rfl) ?_
    exact ⟨_, rfl, H.bel, mk_bool⟩

/- loop.example/g00897/laws.eqIntS -/
set_option maxHeartbeats 1000000 in
theorem laws_eqIntS_ok {fu : Nat} {w0 : World} {S : Nat → Prop} {v0_ : Value} {v1_ : Value} {a' : List Int} {b' : List Int} {r : Bool} (h0 : VR w0 S v0_ a') (h1 : VR w0 S v1_ b') (hF : laws_eqIntS fu a' b' = some r) :
    Calls Try.prog 43 [v0_, v1_].toArray w0 fun e w' => ∃ v, e = .returned v ∧ (Below w0.heap.size w0 w' ∧ VR w' (St ⟨w0, []⟩ S [] [] [] true) v r) := by
  obtain ⟨A, c, rfl, hl⟩ := VR_list h0
  obtain ⟨A2, c2, rfl, hl2⟩ := VR_list h1
  have H := Mem.start ⟨w0, []⟩ S
  have H := H.pushArg (MP.val [(.slice A a'.length c)] a') hl
  have H := H.pushArg (MP.val [(.slice A2 b'.length c2)] b') hl2
  refine enter Try.func43 rfl rfl (nle rfl) rfl fun a hf => ?_
  rw [laws_eqIntS] at hF
  refine sq ?_
  refine reg ?_
  refine pRun_ok (tb := tab) (n := 26) tabOk 1 _ _ hf rfl rfl fun a hf => ?_
  refine wl_end ?_
  refine then_n ?_
  refine sq ?_
  refine sq ?_
  refine reg ?_
  refine pRun_ok (tb := tab) (n := 26) tabOk 5 _ _ hf rfl rfl fun a hf => ?_
  refine wl_end ?_
  refine then_n ?_
  refine (Bool.eq_false_or_eq_true ((a'.length : Int) != (b'.length : Int))).elim (fun hc => ?_) (fun hc => ?_)
  · rw [if_pos hc] at hF
    refine cd_t hf rfl hc ?_
    refine sq ?_
    refine reg ?_
    refine pRun_ok (tb := tab) (n := 26) tabOk 1 _ _ hf rfl rfl fun a hf => ?_
    refine wl_end ?_
    refine then_n ?_
    refine wp_ret (then_r (?_))
    obtain rfl := Option.some.inj hF
    refine ret_1 (fn := Try.f43) (r := .tmp 4) hf rfl (rv_tmp hf rfl) ?_
    exact ⟨_, rfl, H.bel, mk_bool⟩
  · rw [if_neg (nt hc)] at hF
    refine cd_f hf rfl hc ?_
    refine wp_skip ?_
    refine then_n ?_
    refine sq ?_
    refine sq ?_
    refine reg ?_
    refine pRun_ok (tb := tab) (n := 26) tabOk 1 _ _ hf rfl rfl fun a hf => ?_
    refine wl_end ?_
    refine then_n ?_
    obtain ⟨out', hB1, hF⟩ := bind_some hF
    have hf := hf.prune [0, 1, 5] rfl
    have H := H.let [] [] [] [0, 1]
    have hI : (fun (s : Int) (a : Act) (w : World) => match s with | i => Fr a 26 [(0, (.slice A a'.length c)), (1, (.slice A2 b'.length c2)), (5, (.int .i64 i))] ∧ Mem ⟨w0, []⟩ S [] [] [] [(false, MP.val [(.slice A2 b'.length c2)] (b' : List Int)), (false, MP.val [(.slice A a'.length c)] (a' : List Int))] w) 0 a w0 := ⟨hf, H⟩
    refine mid (fun a w => ∃ s : Int, out' = Out.next s ∧ (fun (s : Int) (a : Act) (w : World) => match s with | i => Fr a 26 [(0, (.slice A a'.length c)), (1, (.slice A2 b'.length c2)), (5, (.int .i64 i))] ∧ Mem ⟨w0, []⟩ S [] [] [] [(false, MP.val [(.slice A2 b'.length c2)] (b' : List Int)), (false, MP.val [(.slice A a'.length c)] (a' : List Int))] w) s a w) ?_ ?_
    · refine wp_block ?_
      refine loop_rule (fun k (s : Int) => laws_eqIntS_L1 fu a' b' k s = some out') (fun (s : Int) (a : Act) (w : World) => match s with | i => Fr a 26 [(0, (.slice A a'.length c)), (1, (.slice A2 b'.length c2)), (5, (.int .i64 i))] ∧ Mem ⟨w0, []⟩ S [] [] [] [(false, MP.val [(.slice A2 b'.length c2)] (b' : List Int)), (false, MP.val [(.slice A a'.length c)] (a' : List Int))] w) (fun s h => by cases h) ?_ fu 0 a w0 hB1 hI
      rintro fk i a w hR1 hI
      replace hR1 : laws_eqIntS_L1 fu a' b' (fk + 1) i = some out' := hR1
      rw [laws_eqIntS_L1] at hR1
      obtain ⟨hf, H⟩ := hI
      refine sq ?_
      refine sq ?_
      refine reg ?_
      refine pRun_ok (tb := tab) (n := 26) tabOk 4 _ _ hf rfl rfl fun a hf => ?_
      refine wl_end ?_
      refine then_n ?_
      refine (Bool.eq_false_or_eq_true (decide (i < (a'.length : Int)))).elim (fun hc2 => ?_) (fun hc2 => ?_)
      · rw [if_pos hc2] at hR1
        refine cd_t hf rfl hc2 ?_
        refine wp_skip ?_
        refine then_n ?_
        refine sq ?_
        refine wp_block ?_
        refine sq ?_
        refine drawn [] (bs := [false, false, false, false, false, false, false, false, false]) (fuel := 9) (Checked.mixed Try.checked) rfl rfl fun w hb => ?_
        have H := H.keep hb
        refine tkP (i := 0) (bs' := [true, false, false, false, false, false, false, false, false]) rfl rfl rfl (by decide) hf (by kernel_rfl) (fun _ => trivial) (fun w => pOp_ok (tb := tab) tabOk hf rfl) rfl fun a hf => ?_
        refine tkP (i := 1) (bs' := [true, true, false, false, false, false, false, false, false]) rfl rfl rfl (by decide) hf (by kernel_rfl) (fun _ => trivial) (fun w => pOp_ok (tb := tab) tabOk hf rfl) rfl fun a hf => ?_
        obtain ⟨e, he, hR1⟩ := bind_some hR1
        obtain ⟨p, o, cs, hx, hr, H⟩ := pre_iaddr H Try.underlying35 TF.sz3 1 rfl he
        refine tkP (i := 2) (bs' := [true, true, true, false, false, false, false, false, false]) rfl rfl rfl (by decide) hf (by kernel_rfl) (fun _ => trivial) (fun w => rq_iaddrE hf rfl rfl rfl hx w) rfl fun a hf => ?_
        obtain rfl := hr
        refine str (fun w => Mem ⟨w0, []⟩ S [] [] [] [(false, MP.cells ⟨p, o, none⟩ [(.int .i64 e)]), (false, MP.val [(.slice A2 b'.length c2)] (b' : List Int)), (false, MP.val [(.slice A a'.length c)] (a' : List Int))] w) (fun w H => trivial) ?_
        have hS : Mem ⟨w0, []⟩ S [] [] [] [(false, MP.cells ⟨p, o, none⟩ [(.int .i64 e)]), (false, MP.val [(.slice A2 b'.length c2)] (b' : List Int)), (false, MP.val [(.slice A a'.length c)] (a' : List Int))] w := H.let [] [] [] [0, 1, 2]
        refine tkS (i := 3) (bs' := [true, true, true, true, false, false, false, false, false]) [] rfl rfl rfl (by decide) hf (by kernel_rfl) (by kernel_rfl) hS (fun w H => rq_loadI hf H TF.ls3 0 0 rfl rfl rfl) rfl fun a hf => ?_
        refine tkP (i := 4) (bs' := [true, true, true, true, true, false, false, false, false]) rfl rfl rfl (by decide) hf (by kernel_rfl) (fun _ => hS) (fun w => pOp_ok (tb := tab) tabOk hf rfl) rfl fun a hf => ?_
        refine tkP (i := 5) (bs' := [true, true, true, true, true, true, false, false, false]) rfl rfl rfl (by decide) hf (by kernel_rfl) (fun _ => hS) (fun w => pOp_ok (tb := tab) tabOk hf rfl) rfl fun a hf => ?_
        obtain ⟨e2, he2, hR1⟩ := bind_some hR1
        obtain ⟨p2, o2, cs2, hx2, hr2, H⟩ := pre_iaddr H Try.underlying35 TF.sz3 1 rfl he2
        refine tkP (i := 6) (bs' := [true, true, true, true, true, true, true, false, false]) rfl rfl rfl (by decide) hf (by kernel_rfl) (fun _ => hS) (fun w => rq_iaddrE hf rfl rfl rfl hx2 w) rfl fun a hf => ?_
        obtain rfl := hr2
        refine str (fun w => Mem ⟨w0, []⟩ S [] [] [] [(false, MP.cells ⟨p2, o2, none⟩ [(.int .i64 e2)]), (false, MP.cells ⟨p, o, none⟩ [(.int .i64 e)]), (false, MP.val [(.slice A2 b'.length c2)] (b' : List Int)), (false, MP.val [(.slice A a'.length c)] (a' : List Int))] w) (fun w H => H.let [] [] [] [1, 2, 3]) ?_
        have hS : Mem ⟨w0, []⟩ S [] [] [] [(false, MP.cells ⟨p2, o2, none⟩ [(.int .i64 e2)]), (false, MP.cells ⟨p, o, none⟩ [(.int .i64 e)]), (false, MP.val [(.slice A2 b'.length c2)] (b' : List Int)), (false, MP.val [(.slice A a'.length c)] (a' : List Int))] w := H.let [] [] [] [0, 1, 2, 3]
        refine tkS (i := 7) (bs' := [true, true, true, true, true, true, true, true, false]) [] rfl rfl rfl (by decide) hf (by kernel_rfl) (by kernel_rfl) hS (fun w H => rq_loadI hf H TF.ls3 0 0 rfl rfl rfl) rfl fun a hf => ?_
        refine tkP (i := 8) (bs' := [true, true, true, true, true, true, true, true, true]) rfl rfl rfl (by decide) hf (by kernel_rfl) (fun _ => hS) (fun w => pOp_ok (tb := tab) tabOk hf rfl) rfl fun a hf => ?_
        refine dn (by kernel_rfl) ?_
        refine then_n ?_
        refine (Bool.eq_false_or_eq_true (e != e2)).elim (fun hc3 => ?_) (fun hc3 => ?_)
        · rw [if_pos hc3] at hR1
          refine cd_t hf rfl hc3 ?_
          refine sq ?_
          refine reg ?_
          refine pRun_ok (tb := tab) (n := 26) tabOk 1 _ _ hf rfl rfl fun a hf => ?_
          have hf := hf.prune [4] rfl
          refine wl_end ?_
          refine then_n ?_
          refine wp_ret (blk_r (then_r (then_r (blk_r (then_r (then_r (?_)))))))
          obtain rfl := Option.some.inj hR1
          replace hF := on_ret hF
          obtain rfl := Option.some.inj hF
          refine ret_1 (fn := Try.f43) (r := .tmp 4) hf rfl (rv_tmp hf rfl) ?_
          exact ⟨_, rfl, H.bel, mk_bool⟩
        · rw [if_neg (nt hc3)] at hR1
          refine cd_f hf rfl hc3 ?_
          refine wp_skip ?_
          refine blk_n ?_
          refine then_n ?_
          refine reg ?_
          refine pRun_ok (tb := tab) (n := 26) tabOk 3 _ _ hf rfl rfl fun a hf => ?_
          have hf := hf.prune [0, 1, 5] rfl
          refine wl_end ?_
          have hf := hf.prune [0, 1, 5] rfl
          have H := H.let [] [] [] [2, 3]
          exact then_n ⟨w64 (i + 1), hR1, hf, H⟩
      · rw [if_neg (nt hc2)] at hR1
        refine cd_f hf rfl hc2 ?_
        refine wp_exit (then_x (then_x (blk_e (?_))))
        have hf := hf.prune [0, 1, 5] rfl
        have H := H.let [] [] [] [0, 1]
        exact ⟨i, (Option.some.inj hR1).symm, hf, H⟩
    rintro a w ⟨i2, rfl, hf, H⟩
    replace hF := on_next hF
    refine then_n ?_
    refine sq ?_
    refine reg ?_
    refine pRun_ok (tb := tab) (n := 26) tabOk 1 _ _ hf rfl rfl fun a hf => ?_
    refine wl_end ?_
    refine then_n ?_
    refine wp_ret (?_)
    obtain rfl := Option.some.inj hF
    refine ret_1 (fn := Try.f43) (r := .tmp 4) hf rfl (rv_tmp hf rfl) ?_
    exact ⟨_, rfl, H.bel, mk_bool⟩

/- loop.example/g00897/laws.FnExactCostOf -/
set_option maxHeartbeats 1000000 in
theorem laws_FnExactCostOf_ok {fu : Nat} {w0 : World} {S : Nat → Prop} {v0_ : Value} {v1_ : Value} {aBill : List Item} {aPrices : List Int} {r : Bool} (h0 : VR w0 S v0_ aBill) (h1 : VR w0 S v1_ aPrices) (hF : laws_FnExactCostOf fu aBill aPrices = some r) :
    Calls Try.prog 10 [v0_, v1_].toArray w0 fun e w' => ∃ v, e = .returned v ∧ (Below w0.heap.size w0 w' ∧ VR w' (St ⟨w0, []⟩ S [] [] [] true) v r) := by
  obtain ⟨A, c, rfl, hl⟩ := VR_list h0
  obtain ⟨A2, c2, rfl, hl2⟩ := VR_list h1
  have H := Mem.start ⟨w0, []⟩ S
  have H := H.pushArg (MP.val [(.slice A aBill.length c)] aBill) hl
  have H := H.pushArg (MP.val [(.slice A2 aPrices.length c2)] aPrices) hl2
  refine enter Try.func10 rfl rfl (nle rfl) rfl fun a hf => ?_
  rw [laws_FnExactCostOf] at hF
  refine sq ?_
  refine reg ?_
  refine pRun_ok (tb := tab) (n := 56) tabOk 1 _ _ hf rfl rfl fun a hf => ?_
  refine wl_end ?_
  refine then_n ?_
  refine sq ?_
  refine sq ?_
  refine reg ?_
  refine pRun_ok (tb := tab) (n := 56) tabOk 3 _ _ hf rfl rfl fun a hf => ?_
  refine wl_end ?_
  refine then_n ?_
  refine (Bool.eq_false_or_eq_true (decide ((aPrices.length : Int) > 1048576))).elim (fun hc => ?_) (fun hc => ?_)
  · rw [if_pos hc] at hF
    refine cd_t hf rfl hc ?_
    refine sq ?_
    refine reg ?_
    refine pRun_ok (tb := tab) (n := 56) tabOk 1 _ _ hf rfl rfl fun a hf => ?_
    refine wl_end ?_
    refine then_n ?_
    refine wp_ret (then_r (?_))
    obtain rfl := Option.some.inj hF
    refine ret_1 (fn := Try.f10) (r := .tmp 4) hf rfl (rv_tmp hf rfl) ?_
    exact ⟨_, rfl, H.bel, mk_bool⟩
  · rw [if_neg (nt hc)] at hF
    refine cd_f hf rfl hc ?_
    refine wp_skip ?_
    refine then_n ?_
    refine sq ?_
    refine reg ?_
    refine pRun_ok (tb := tab) (n := 56) tabOk 1 _ _ hf rfl rfl fun a hf => ?_
    refine wl_end ?_
    refine then_n ?_
    refine sq ?_
    refine reg ?_
    refine pRun_ok (tb := tab) (n := 56) tabOk 2 _ _ hf rfl rfl fun a hf => ?_
    obtain ⟨y, hy, hF⟩ := bind_some hF
    refine wl0 rfl (op_call hf TF.cl46 rfl (by decide) (laws_szItemS_ok (S := fun _ => True) (mk_list (rep_true (α := List Item) (H.get 1 rfl))) mk_int hy) fun v w a hp hf => ?_)
    obtain ⟨hb, hp⟩ := hp
    obtain rfl := VR_int hp
    have H := H.keep hb
    refine pRun_ok (tb := tab) (n := 56) tabOk 1 _ _ hf rfl rfl fun a hf => ?_
    refine wl_end ?_
    refine then_n ?_
    refine sq ?_
    refine sq ?_
    refine reg ?_
    refine pRun_ok (tb := tab) (n := 56) tabOk 2 _ _ hf rfl rfl fun a hf => ?_
    refine wl_end ?_
    refine then_n ?_
    refine (Bool.eq_false_or_eq_true (decide (y < 0))).elim (fun hc2 => ?_) (fun hc2 => ?_)
    · rw [if_pos hc2] at hF
      refine cd_t hf rfl hc2 ?_
      refine sq ?_
      refine reg ?_
      refine pRun_ok (tb := tab) (n := 56) tabOk 1 _ _ hf rfl rfl fun a hf => ?_
      refine wl_end ?_
      refine then_n ?_
      refine wp_ret (then_r (?_))
      obtain rfl := Option.some.inj hF
      refine ret_1 (fn := Try.f10) (r := .tmp 4) hf rfl (rv_tmp hf rfl) ?_
      exact ⟨_, rfl, H.bel, mk_bool⟩
    · rw [if_neg (nt hc2)] at hF
      refine cd_f hf rfl hc2 ?_
      refine wp_skip ?_
      refine then_n ?_
      refine sq ?_
      refine reg ?_
      refine pRun_ok (tb := tab) (n := 56) tabOk 1 _ _ hf rfl rfl fun a hf => ?_
      obtain ⟨y2, hy2, hF⟩ := bind_some hF
      refine wl0 rfl (op_call hf TF.cl48 rfl (by decide) (laws_toItemS_ok (S := fun _ => True) (mk_list (rep_true (α := List Item) (H.get 1 rfl))) hy2) fun v2 w a hp2 hf => ?_)
      obtain ⟨hb2, F, hp3, hN⟩ := hp2
      obtain ⟨A3, c3, rfl, hl3⟩ := VO_list hp3
      have H := H.addOwn hb2 (X := [(⟨F, MP.own F [(.slice A3 y2.length c3)] (y2 : List Item)⟩ : DI)]) (by simpa using hN.1) (ps1 hl3 ps0) (by simpa using hN.2)
      have H := H.lend 0 rfl
      refine pRun_ok (tb := tab) (n := 56) tabOk 1 _ _ hf rfl rfl fun a hf => ?_
      obtain ⟨y3, hy3, hF⟩ := bind_some hF
      refine wl0 rfl (op_call hf TF.cl41 rfl (by decide) (laws_toIntS_ok (S := fun _ => True) (mk_list (rep_true (α := List Int) (H.get 1 rfl))) hy3) fun v3 w a hp4 hf => ?_)
      obtain ⟨hb3, F3, hp5, hN2⟩ := hp4
      obtain ⟨A4, c4, rfl, hl4⟩ := VO_list hp5
      have H := H.addOwn hb3 (X := [(⟨F3, MP.own F3 [(.slice A4 y3.length c4)] (y3 : List Int)⟩ : DI)]) (by simpa using hN2.1) (ps1 hl4 ps0) (by simpa using hN2.2)
      have H := H.lend 0 rfl
      obtain ⟨y4, hy4, hF⟩ := bind_some hF
      refine wl0 rfl (op_call hf TF.cl47 rfl (by decide) (spec_CostOf_ok (S := fun _ => True) (mk_list (rep_true (α := List Item) (H.get 1 rfl))) (mk_list (rep_true (α := List Int) (H.get 0 rfl))) hy4) fun v4 w a hp6 hf => ?_)
      obtain ⟨hb4, v5, v6, rfl, hp7, hp8⟩ := hp6
      obtain rfl := VR_int hp7
      obtain rfl := VR_bool hp8
      have H := H.keep hb4
      refine pRun_ok (tb := tab) (n := 56) tabOk 5 _ _ hf rfl rfl fun a hf => ?_
      have hf := hf.prune [0, 1, 6, 7] rfl
      refine wl_end ?_
      refine then_n ?_
      refine sq ?_
      refine reg ?_
      refine pRun_ok (tb := tab) (n := 56) tabOk 1 _ _ hf rfl rfl fun a hf => ?_
      obtain ⟨y5, hy5, hF⟩ := bind_some hF
      refine wl0 rfl (op_call hf TF.cl48 rfl (by decide) (laws_toItemS_ok (S := fun _ => True) (mk_list (rep_true (α := List Item) (H.get 3 rfl))) hy5) fun v7 w a hp9 hf => ?_)
      obtain ⟨hb5, F5, hp10, hN3⟩ := hp9
      obtain ⟨A5, c5, rfl, hl5⟩ := VO_list hp10
      have H := H.addOwn hb5 (X := [(⟨F5, MP.own F5 [(.slice A5 y5.length c5)] (y5 : List Item)⟩ : DI)]) (by simpa using hN3.1) (ps1 hl5 ps0) (by simpa using hN3.2)
      have H := H.lend 0 rfl
      refine pRun_ok (tb := tab) (n := 56) tabOk 1 _ _ hf rfl rfl fun a hf => ?_
      refine wl_end ?_
      refine then_n ?_
      refine sq ?_
      refine reg ?_
      refine pRun_ok (tb := tab) (n := 56) tabOk 1 _ _ hf rfl rfl fun a hf => ?_
      obtain ⟨y6, hy6, hF⟩ := bind_some hF
      refine wl0 rfl (op_call hf TF.cl41 rfl (by decide) (laws_toIntS_ok (S := fun _ => True) (mk_list (rep_true (α := List Int) (H.get 3 rfl))) hy6) fun v8 w a hp11 hf => ?_)
      obtain ⟨hb6, F7, hp12, hN4⟩ := hp11
      obtain ⟨A6, c6, rfl, hl6⟩ := VO_list hp12
      have H := H.addOwn hb6 (X := [(⟨F7, MP.own F7 [(.slice A6 y6.length c6)] (y6 : List Int)⟩ : DI)]) (by simpa using hN4.1) (ps1 hl6 ps0) (by simpa using hN4.2)
      have H := H.lend 0 rfl
      refine pRun_ok (tb := tab) (n := 56) tabOk 1 _ _ hf rfl rfl fun a hf => ?_
      refine wl_end ?_
      refine then_n ?_
      refine sq ?_
      refine reg ?_
      refine pRun_ok (tb := tab) (n := 56) tabOk 2 _ _ hf rfl rfl fun a hf => ?_
      obtain ⟨y7, hy7, hF⟩ := bind_some hF
      refine wl0 rfl (op_call hf TF.cl49 rfl (by decide) (impl_CostOf_ok (S := fun _ => True) (mk_list (rep_true (α := List Item) (H.get 1 rfl))) (mk_list (rep_true (α := List Int) (H.get 0 rfl))) hy7) fun v9 w a hp13 hf => ?_)
      obtain ⟨hb7, v10, v11, rfl, hp14, hp15⟩ := hp13
      obtain rfl := VR_int hp14
      obtain rfl := VR_bool hp15
      have H := H.keep hb7
      refine pRun_ok (tb := tab) (n := 56) tabOk 5 _ _ hf rfl rfl fun a hf => ?_
      refine wl_end ?_
      refine then_n ?_
      refine sq ?_
      refine sq ?_
      obtain ⟨c7, hGc7, hF⟩ := bind_some hF
      refine mid (fun a w => Fr a 56 [(0, (.slice A aBill.length c)), (1, (.slice A2 aPrices.length c2)), (8, (.slice A5 y5.length c5)), (9, (.slice A6 y6.length c6)), (45, (.bool c7))] ∧ Mem ⟨w0, []⟩ S [] [] [⟨F7, MP.own F7 [(.slice A6 y6.length c6)] (y6 : List Int)⟩, ⟨F5, MP.own F5 [(.slice A5 y5.length c5)] (y5 : List Item)⟩] [(true, MP.val [(.slice A6 y6.length c6)] (y6 : List Int)), (true, MP.val [(.slice A5 y5.length c5)] (y5 : List Item)), (false, MP.val [(.slice A2 aPrices.length c2)] (aPrices : List Int)), (false, MP.val [(.slice A aBill.length c)] (aBill : List Item))] w) ?_ ?_
      · refine reg ?_
        refine pRun_ok (tb := tab) (n := 56) tabOk 4 _ _ hf rfl rfl fun a hf => ?_
        refine (Bool.eq_false_or_eq_true (y7.1 != y4.1)).elim (fun hc3 => ?_) (fun hc3 => ?_)
        · rw [if_pos hc3] at hGc7
          have hf := hf.lit 41 rfl hc3
          refine pRun_ok (tb := tab) (n := 56) tabOk 4 _ _ hf rfl rfl fun a hf => ?_
          obtain rfl := Option.some.inj hGc7
          have hf := hf.prune [0, 1, 8, 9, 45] rfl
          have H := H.let [] [] [true, true, false, false] [0, 1, 4, 5]
          exact wl_end ⟨hf, H⟩
        · rw [if_neg (nt hc3)] at hGc7
          have hf := hf.lit 41 rfl hc3
          refine pRun_ok (tb := tab) (n := 56) tabOk 4 _ _ hf rfl rfl fun a hf => ?_
          obtain rfl := Option.some.inj hGc7
          have hf := hf.prune [0, 1, 8, 9, 45] rfl
          have H := H.let [] [] [true, true, false, false] [0, 1, 4, 5]
          exact wl_end ⟨hf, H⟩
      rintro a w ⟨hf, H⟩
      refine then_n ?_
      refine (Bool.eq_false_or_eq_true (c7)).elim (fun hc4 => ?_) (fun hc4 => ?_)
      · rw [if_pos hc4] at hF
        refine cd_t hf rfl hc4 ?_
        refine sq ?_
        refine reg ?_
        refine pRun_ok (tb := tab) (n := 56) tabOk 1 _ _ hf rfl rfl fun a hf => ?_
        refine wl_end ?_
        refine then_n ?_
        refine wp_ret (then_r (?_))
        obtain rfl := Option.some.inj hF
        refine ret_1 (fn := Try.f10) (r := .tmp 4) hf rfl (rv_tmp hf rfl) ?_
        exact ⟨_, rfl, H.bel, mk_bool⟩
      · rw [if_neg (nt hc4)] at hF
        refine cd_f hf rfl hc4 ?_
        refine wp_skip ?_
        refine then_n ?_
        refine sq ?_
        refine sq ?_
        refine reg ?_
        refine pRun_ok (tb := tab) (n := 56) tabOk 2 _ _ hf rfl rfl fun a hf => ?_
        obtain ⟨y8, hy8, hF⟩ := bind_some hF
        refine wl0 rfl (op_call hf TF.cl48 rfl (by decide) (laws_toItemS_ok (S := fun _ => True) (mk_list (rep_true (α := List Item) (H.get 3 rfl))) hy8) fun v12 w a hp16 hf => ?_)
        obtain ⟨hb8, F9, hp17, hN5⟩ := hp16
        obtain ⟨A7, c8, rfl, hl7⟩ := VO_list hp17
        have H := H.addOwn hb8 (X := [(⟨F9, MP.own F9 [(.slice A7 y8.length c8)] (y8 : List Item)⟩ : DI)]) (by simpa using hN5.1) (ps1 hl7 ps0) (by simpa using hN5.2)
        have H := H.lend 0 rfl
        obtain ⟨y9, hy9, hF⟩ := bind_some hF
        refine wl0 rfl (op_call hf TF.cl50 rfl (by decide) (laws_eqItemS_ok (S := fun _ => True) (mk_list (rep_true (α := List Item) (H.get 2 rfl))) (mk_list (rep_true (α := List Item) (H.get 0 rfl))) hy9) fun v13 w a hp18 hf => ?_)
        obtain ⟨hb9, hp18⟩ := hp18
        obtain rfl := VR_bool hp18
        have H := H.keep hb9
        refine pRun_ok (tb := tab) (n := 56) tabOk 1 _ _ hf rfl rfl fun a hf => ?_
        refine wl_end ?_
        refine then_n ?_
        refine (Bool.eq_false_or_eq_true (!y9)).elim (fun hc5 => ?_) (fun hc5 => ?_)
        · rw [if_pos hc5] at hF
          refine cd_t hf rfl hc5 ?_
          refine sq ?_
          refine reg ?_
          refine pRun_ok (tb := tab) (n := 56) tabOk 1 _ _ hf rfl rfl fun a hf => ?_
          refine wl_end ?_
          refine then_n ?_
          refine wp_ret (then_r (?_))
          obtain rfl := Option.some.inj hF
          refine ret_1 (fn := Try.f10) (r := .tmp 4) hf rfl (rv_tmp hf rfl) ?_
          exact ⟨_, rfl, H.bel, mk_bool⟩
        · rw [if_neg (nt hc5)] at hF
          refine cd_f hf rfl hc5 ?_
          refine wp_skip ?_
          refine then_n ?_
          refine sq ?_
          refine sq ?_
          refine reg ?_
          refine pRun_ok (tb := tab) (n := 56) tabOk 2 _ _ hf rfl rfl fun a hf => ?_
          obtain ⟨y10, hy10, hF⟩ := bind_some hF
          refine wl0 rfl (op_call hf TF.cl41 rfl (by decide) (laws_toIntS_ok (S := fun _ => True) (mk_list (rep_true (α := List Int) (H.get 3 rfl))) hy10) fun v14 w a hp19 hf => ?_)
          obtain ⟨hb10, F11, hp20, hN6⟩ := hp19
          obtain ⟨A8, c9, rfl, hl8⟩ := VO_list hp20
          have H := H.addOwn hb10 (X := [(⟨F11, MP.own F11 [(.slice A8 y10.length c9)] (y10 : List Int)⟩ : DI)]) (by simpa using hN6.1) (ps1 hl8 ps0) (by simpa using hN6.2)
          have H := H.lend 0 rfl
          obtain ⟨y11, hy11, hF⟩ := bind_some hF
          refine wl0 rfl (op_call hf TF.cl43 rfl (by decide) (laws_eqIntS_ok (S := fun _ => True) (mk_list (rep_true (α := List Int) (H.get 2 rfl))) (mk_list (rep_true (α := List Int) (H.get 0 rfl))) hy11) fun v15 w a hp21 hf => ?_)
          obtain ⟨hb11, hp21⟩ := hp21
          obtain rfl := VR_bool hp21
          have H := H.keep hb11
          refine pRun_ok (tb := tab) (n := 56) tabOk 1 _ _ hf rfl rfl fun a hf => ?_
          have hf := hf.prune [55] rfl
          refine wl_end ?_
          refine then_n ?_
          refine (Bool.eq_false_or_eq_true (!y11)).elim (fun hc6 => ?_) (fun hc6 => ?_)
          · rw [if_pos hc6] at hF
            refine cd_t hf rfl hc6 ?_
            refine sq ?_
            refine reg ?_
            refine pRun_ok (tb := tab) (n := 56) tabOk 1 _ _ hf rfl rfl fun a hf => ?_
            refine wl_end ?_
            refine then_n ?_
            refine wp_ret (then_r (?_))
            obtain rfl := Option.some.inj hF
            refine ret_1 (fn := Try.f10) (r := .tmp 4) hf rfl (rv_tmp hf rfl) ?_
            exact ⟨_, rfl, H.bel, mk_bool⟩
          · rw [if_neg (nt hc6)] at hF
            refine cd_f hf rfl hc6 ?_
            refine wp_skip ?_
            refine then_n ?_
            refine sq ?_
            refine reg ?_
            refine pRun_ok (tb := tab) (n := 56) tabOk 1 _ _ hf rfl rfl fun a hf => ?_
            refine wl_end ?_
            refine then_n ?_
            refine wp_ret (?_)
            obtain rfl := Option.some.inj hF
            refine ret_1 (fn := Try.f10) (r := .tmp 4) hf rfl (rv_tmp hf rfl) ?_
            exact ⟨_, rfl, H.bel, mk_bool⟩
end AT
